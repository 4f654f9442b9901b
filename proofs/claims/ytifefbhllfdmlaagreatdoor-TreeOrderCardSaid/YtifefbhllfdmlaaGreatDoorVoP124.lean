/-
  The abstract layer, part Pc: a statement whose order Go leaves open: run in the order of its text it stands for every order. It speaks of any program that mixes its orders; no condition.
-/
import Derived.Test.YtifefbhllfdmlaaGreatDoorVoP123
set_option linter.unusedVariables false
set_option linter.unusedSimpArgs false
set_option linter.constructorNameAsVariable false
namespace Go.Vo

def lQ (ops:Array Oper) (i:Nat):Bool:=match ops[i]? with | some o=>fN o | Option.none=>false
def Fs (ops:Array Oper):List Nat:=(List.range ops.size).filter (lQ ops)
def Rs (ops:Array Oper):List Nat:=(List.range ops.size).filter fun i => !lQ ops i
def InR (ops:Array Oper) (p i:Nat):Prop:=∃ m,m < p∧(Rs ops)[m]? = some i
def Chg (rx:RX) (ops:Array Oper) (o:Oper):Prop:=dk rx ops o=some .w∨dk rx ops o=some .l

section
variable {P:Program} {G:Md} {rx:RX} {ops:Array Oper}
theorem bOo {o:Oper}:dk rx ops o=some .a↔fN o=true:=by
 constructor
 · intro h; exact aVr.1 (I8 h (by decide) (by decide)).2.2
 · intro h
   have hv:vOf rx ops o=false:=by
     cases hq:vOf rx ops o with
     | false=>rfl
     | true=>
       obtain ⟨T,len,ps,ho,_⟩:=aBj hq
       unfold fN at h; rw [ho] at h; cases h
   have hz:zOf rx o=false:=by
     cases hq:zOf rx o with
     | false=>rfl
     | true=>
       obtain ⟨f,as,ts,ho⟩:=N5 hq
       unfold fN at h; rw [ho] at h; cases h
   unfold dk
   rw [hv,hz]
   simpa using aVr.2 h
theorem bEv {o:Oper} {k:DK} (h:dk rx ops o=some k) (hk:k ≠ .c) (hl:k ≠ .l):omOf rx ops o=.n:=bDx (I8 h hk hl).1 (I8 h hk hl).2.1
theorem aMf {N:DR} {o:Oper} {k:DK} (h:dk rx ops o=some k) (hk:k ≠ .c) (hl:k ≠ .l) {env:List AV} {hh h':List AObj} {x:AV} (e:DOc P G N (omOf rx ops o) o.op env hh x h'):DOp P G o.op env hh x h':=by
 rw [bEv h hk hl] at e; exact e
theorem bEt {N:DR} {o:Oper} {k:DK} (h:dk rx ops o=some k) (hk:k ≠ .c) (hl:k ≠ .l) {env:List AV} {hh h':List AObj} {x:AV} (e:DOp P G o.op env hh x h'):DOc P G N (omOf rx ops o) o.op env hh x h':=by
 rw [bEv h hk hl]; exact e
theorem aDe {N:DR} {o:Oper} (h:dk rx ops o=some .w) {env:List AV} {hh h':List AObj} {x:AV} (e:DOc P G N (omOf rx ops o) o.op env hh x h'):xC hh h':=bCs (I8 h (by decide) (by decide)).2.2 (aMf h (by decide) (by decide) e)
theorem aDd {N:DR} {o:Oper} (h:dk rx ops o=some .c) {env:List AV} {h0 hh:List AObj} {x:AV} (e:DOc P G N (omOf rx ops o) o.op env h0 x hh):hh=h0∧∀ h',DOc P G N (omOf rx ops o) o.op env h' x h':=by
 cases hv:vOf rx ops o with
 | true=>
   have hm:omOf rx ops o=.v:=by simp [omOf,hv]
   rw [hm] at e ⊢
   exact ⟨e.2,fun h'=>⟨e.1,rfl⟩⟩
 | false=>
   have hz:zOf rx o=false:=by
     cases hq:zOf rx o with
     | false=>rfl
     | true=>unfold dk at h; rw [hv,hq] at h; simp at h
   rw [bDx hv hz] at e ⊢
   have hd:qZ o=some .c:=by unfold dk at h; rw [hv,hz] at h; simpa using h
   exact aYn hd e
theorem aDc {N:DR} {o:Oper} (hk:dk rx ops o=some .r∨dk rx ops o=some .c) {env:List AV} {h hh:List AObj} {x:AV} (e:DOc P G N (omOf rx ops o) o.op env h x hh):hh=h:=by
 rcases hk with hk | hk
 · exact (Q0 (aCm (I8 hk (by decide) (by decide)).2.2) (aMf hk (by decide) (by decide) e)).1
 · exact (aDd hk e).1
theorem W2 {f:Operand} {as:Array Operand} {ts:Array TypeId} {K:AV→List AObj→Prop} {env env':List AV} {h:List AObj} (he:∀ o ∈ (Op.call ⟨.value f,as,ts⟩).operands.toList,aev G env o=aev G env' o) (e:eK P G.np false (.call ⟨.value f,as,ts⟩) K env h):eK P G.np false (.call ⟨.value f,as,ts⟩) K env' h:=by
 simp only [eK,mO] at e ⊢
 have hargs:as.toList.map (aev G env')=as.toList.map (aev G env):=(lT (fun o ho=>he o (by simp only [Op.operands,Call.operands]; simp; simp at ho; exact .inr ho))).symm
 rw [hargs,(he f (by simp [Op.operands,Call.operands])).symm]
 exact e
theorem T4 {N:DR} {m:OM} {op:Op} {env env':List AV} {h h':List AObj} {x:AV} (he:∀ o ∈ op.operands.toList,aev G env o=aev G env' o) (e:DOc P G N m op env h x h'):DOc P G N m op env' h x h':=by
 cases m with
 | n=>exact G1 he e
 | z=>
   obtain ⟨⟨f,as,ts,rfl⟩,h1,h2⟩:=e
   exact ⟨⟨f,as,ts,rfl⟩,W2 he h1,h2⟩
 | v =>
   obtain ⟨⟨T,len,ps,rfl,ha⟩,rfl⟩:=e
   refine ⟨⟨T,len,ps,rfl,?_⟩,rfl⟩
   have hm:(ps.toList.map fun (i,x)=>(i,aev G env' x))=ps.toList.map fun (i,x)=>(i,aev G env x):=by
     apply iS
     rintro ⟨i,y⟩ hp
     simp only [aI,true_and]
     exact (he y (by simp only [Op.operands]; simp; exact ⟨i,by simpa using hp⟩)).symm
   unfold aGr at ha ⊢
   rw [hm]
   exact ha
theorem bEu {N:DR} {o:Oper} {X:Ctx} {w:World} {h h1:List AObj} {env:List AV} {a:Act} {x:AV} {next:Act→World→Prop} {Q:Exit→Act→World→Prop} (g:GH G X w h) (r:EnvOK G.ds X w h env a) (e:DOc P G N (omOf rx ops o) o.op env h x h1)
   (hn:∀ a' w' X',GH G X' w' h1→EnvOK G.ds X' w' h1 (gJ env o.dst x) a'→Tr X w h X' w' h1→next a' w'):o.wp P a w next Q:=by
 cases hm:omOf rx ops o with
 | n=>
   rw [hm] at e
   refine zP (K:=fun x1 h2=>x1=x∧h2=h1) o g r e ?_ (fun h=>by cases h)
   rintro x' h' a' w' X' ⟨rfl,rfl⟩ g' r' t
   exact hn _ _ _ g' r' t
 | z=>
   rw [hm] at e
   refine zP (G:=G.np) (K:=fun x1 h2=>x1=x∧h2=h1) o g r e.2.1 ?_ (fun _ _ _ _ _ _ k=>k.elim)
   rintro x' h' a' w' X' ⟨rfl,rfl⟩ g' r' t
   exact hn _ _ _ g' r' t
 | v=>
   rw [hm] at e
   obtain ⟨⟨T,len,ps,ho,ha⟩,rfl⟩:=e
   exact jS r (aIq o ho g r ha) hn
end

theorem N9 {α:Type} (ops:Array α):ops.toList=(List.range ops.size).filterMap (ops[·]?):=by
 apply qH
 intro i
 have key:∀ n,n≤ops.size→(List.range n).filterMap (ops[·]?)=ops.toList.take n:=by
   intro n
   induction n with
   | zero=>intro _; simp
   | succ n ih=>
     intro hn
     have hlt:n < ops.size:=by omega
     rw [List.range_succ,List.filterMap_append,ih (by omega)]
     simp [hlt,List.take_add_one]
 rw [key ops.size (aX _)]
 simp [← Array.length_toList]

theorem aRu (ops:Array Oper):lI ops=(Fs ops++Rs ops).filterMap (ops[·]?):=by
 have h1:∀ (q:Oper→Bool) (q':Nat→Bool),(∀ i o,ops[i]? = some o→q' i=q o)→ops.toList.filter q=((List.range ops.size).filter q').filterMap (ops[·]?):=by
   intro q q' hq
   rw [N9]
   generalize List.range ops.size=l
   induction l with
   | nil=>rfl
   | cons i l ih=>
     cases ho:ops[i]? with
     | none=>
       rw [kP,ho]
       simp only
       rw [ih,bV]
       split
       · rw [kP,ho]
       · rfl
     | some o=>
       rw [kP,ho]
       simp only
       rw [bV,bV,hq i o ho]
       split
       · rw [kP,ho,ih]
       · exact ih
 unfold lI Fs Rs
 rw [List.filterMap_append,h1 fN (lQ ops) (fun i o ho=>by simp [lQ,ho]),h1 (fun o => !fN o) (fun i => !lQ ops i) (fun i o ho=>by simp [lQ,ho])]

section
variable {ops:Array Oper}
theorem vK {i:Nat}:i ∈ Fs ops↔i < ops.size∧lQ ops i=true:=by simp [Fs]
theorem vJ {i:Nat}:i ∈ Rs ops↔i < ops.size∧lQ ops i=false:=by simp [Rs]
theorem rO (n:Nat) (q:Nat→Bool) {m m' k k':Nat} (h1:((List.range n).filter q)[m]? = some k) (h2:((List.range n).filter q)[m']? = some k') (hl:m < m'):k < k':=by
 have hp:((List.range n).filter q).Pairwise (· < ·):=aHb _ (List.pairwise_lt_range (n:=n))
 rw [fK] at hp
 obtain ⟨a1,b1⟩:=eL.1 h1
 obtain ⟨a2,b2⟩:=eL.1 h2
 have:=hp m m' a1 a2 hl
 rw [b1,b2] at this
 exact this
theorem mI {m m' k k':Nat} (h1:(Rs ops)[m]? = some k) (h2:(Rs ops)[m']? = some k') (hl:m < m'):k < k':=rO _ _ h1 h2 hl
theorem aOo {m m' k:Nat} (h1:(Rs ops)[m]? = some k) (h2:(Rs ops)[m']? = some k):m=m':=by
 rcases Nat.lt_trichotomy m m' with h | h | h
 · have:=mI h1 h2 h; omega
 · exact h
 · have:=mI h2 h1 h; omega
theorem aQx:(Fs ops++Rs ops).Nodup:=by
 rw [lW]
 refine ⟨aHb _ List.nodup_range,aHb _ List.nodup_range,?_⟩
 intro a ha b hb hab
 subst hab
 have:=(vK.1 ha).2
 rw [(vJ.1 hb).2] at this; cases this
end

structure Told (P:Program) (G:Md) (N:DR) (rx:RX) (ops:Array Oper) (h0:List AObj) (env0:List AV) (x:Nat→AV) (hr:Nat→List AObj) (zz:Nat→List AV):Prop where
 free:∀ (q i:Nat),(Fs ops)[q]? = some i→∃ (o:Oper) (T:TypeId),ops[i]? = some o∧o.op=.alloc T∧zeroOf P T=some (zz i)∧x i=.ptr (h0.length+q) 0∧(hr 0)[h0.length+q]? = some (.box false (zz i))
 start:∃ obs,hr 0=h0++obs∧∀ ob ∈ obs,AObj.isH ob=false
 rest:∀ (q i:Nat) (o:Oper),(Rs ops)[q]? = some i→ops[i]? = some o→∃ e,EnvIs ops x env0 (fun k=>k ∈ Fs ops∨InR ops q k) e∧OpAt P G N rx ops o e (hr q) (x i) (hr (q+1))

section
variable {P:Program} {G:Md} {N:DR} {rx:RX} {ops:Array Oper} {B:Nat→Nat→Prop} {h0:List AObj} {env0:List AV}

theorem aRb {α:Type} (l:List α) (q:Nat) (k:α):k ∈ l.take q↔∃ m,m < q∧l[m]? = some k:=by
 rw [cO]
 constructor
 · rintro ⟨m,hm⟩
   rw [eG] at hm
   split at hm
   · exact ⟨m,‹_›,hm⟩
   · cases hm
 · rintro ⟨m,h1,h2⟩
   exact ⟨m,by rw [eG,if_pos h1]; exact h2⟩

theorem aXh (D:DOK rx ops B) {K:List AV→List AObj→Prop} {al:List fI} (hs:dK rx ops (lI ops)=some al) (e:dB P G (some N) al K env0 h0) :
   ∃ x hr zz,Told P G N rx ops h0 env0 x hr zz∧∀ e,EnvIs ops x env0 (fun i=>i < ops.size) e→K e (hr (Rs ops).length):=by
 rw [aRu] at hs
 obtain ⟨x,hh,e0,hK,htr⟩:=bDa (Fs ops++Rs ops) al env0 h0 (fun i hi=>by
   rcases bN.1 hi with h | h
   · exact (vK.1 h).1
   · exact (vJ.1 h).1) aQx hs e
 have hfr:∀ q i,(Fs ops)[q]? = some i→∃ (o:Oper) (T:TypeId) (z:List AV),ops[i]? = some o∧o.op=.alloc T∧zeroOf P T=some z∧x i=.ptr (hh q).length 0∧hh (q+1)=hh q++[.box false z]:=by
   intro q i hq
   have hm:=vK.1 (cT hq)
   have ho:ops[i]? = some ops[i]:=by simp [hm.1]
   have hf:fN ops[i]=true:=by have:=hm.2; simp only [lQ,ho] at this; exact this
   obtain ⟨T,hop,hg,_⟩:=yN hf
   have hat:=htr q i ops[i] (by rw [aC (aK hq)]; exact hq) ho
   unfold OpAt at hat
   rw [hg] at hat
   have hvf:vOf rx ops ops[i]=false:=by unfold vOf yK; rw [hop]; simp
   have hzf:zOf rx ops[i]=false:=by unfold zOf; rw [hop]
   have hd2:=hat.2
   rw [bDx hvf hzf] at hd2
   obtain ⟨z,hz,hx,hh'⟩:=T3 (hop ▸ hd2)
   exact ⟨ops[i],T,z,ho,hop,hz,hx,hh'⟩
 have hzz:∃ zz:Nat→List AV,∀ q i,(Fs ops)[q]? = some i→∃ (o:Oper) (T:TypeId),ops[i]? = some o∧o.op=.alloc T∧zeroOf P T=some (zz i)∧x i=.ptr (hh q).length 0∧hh (q+1)=hh q++[.box false (zz i)]:=by
   refine ⟨fun i=>match ops[i]? with | some o=>(match o.op with | .alloc T=>(zeroOf P T).getD [] | _=>[]) | Option.none=>[],?_⟩
   intro q i hq
   obtain ⟨o,T,z,ho,hop,hz,hx,hh'⟩:=hfr q i hq
   exact ⟨o,T,ho,hop,by simp [ho,hop,hz],hx,by simp [ho,hop,hz,hh']⟩
 obtain ⟨zz,hzz⟩:=hzz
 have hlen:∀ q,q≤(Fs ops).length→(hh q).length=h0.length+q∧(∃ obs,hh q=h0++obs∧∀ ob ∈ obs,AObj.isH ob=false)∧∀ m i,m < q→(Fs ops)[m]? = some i→(hh q)[h0.length+m]? = some (.box false (zz i)):=by
   intro q
   induction q with
   | zero=>intro _; exact ⟨by rw [e0]; rfl,⟨[],by rw [e0]; simp,by simp⟩,fun m i h=>by omega⟩
   | succ q ih=>
     intro hq
     obtain ⟨i1,⟨obs,i2,i2b⟩,i3⟩:=ih (by omega)
     have hqi:(Fs ops)[q]? = some (Fs ops)[q]:=by simp [show q < (Fs ops).length by omega]
     obtain ⟨o,T,ho,hop,hz,hx,hh'⟩:=hzz q _ hqi
     refine ⟨by rw [hh']; simp [i1]; omega,⟨obs++[.box false (zz (Fs ops)[q])],by rw [hh',i2]; simp,fun ob hob=>by exact (bN.1 hob).elim (i2b ob) (fun m=>by rw [bA] at m; subst m; rfl)⟩,?_⟩
     intro m i hm hmi
     rw [hh']
     by_cases hmq:m=q
     · subst hmq
       rw [hqi] at hmi; cases hmi
       rw [aF (by omega)]
       simp [i1]
     · rw [aC (by omega)]
       exact i3 m i (by omega) hmi
 obtain ⟨l1,l2,l3⟩:=hlen (Fs ops).length (aX _)
 refine ⟨x,fun q=>hh ((Fs ops).length+q),zz,⟨?_,l2,?_⟩,?_⟩
 · intro q i hq
   obtain ⟨o,T,ho,hop,hz,hx,hh'⟩:=hzz q i hq
   refine ⟨o,T,ho,hop,hz,?_,l3 q i (aK hq) hq⟩
   rw [hx,(hlen q (Nat.le_of_lt (aK hq))).1]
 · intro q i o hq ho
   refine ⟨_,?_,htr ((Fs ops).length+q) i o (by rw [aF (by omega)]; simpa using hq) ho⟩
   refine (aDa D _).congr (fun k=>?_)
   rw [List.take_append,aJ (by omega),Nat.add_sub_cancel_left,bN,aRb (Rs ops)]
   rfl
 · intro e he
   have:e=uQ ops x (Fs ops++Rs ops) env0:=he.unique D ((aDa D _).congr (fun k=>by
     rw [bN,vK,vJ]
     cases lQ ops k <;> simp))
   rw [this]
   have:=hK
   rw [aG] at this
   exact this

structure Inv (P:Program) (G:Md) (rx:RX) (ops:Array Oper) (h0:List AObj) (env0:List AV) (x:Nat→AV) (hr:Nat→List AObj) (zz:Nat→List AV) (X0:Ctx) (w0:World) (S:Nat→Prop) (X:Ctx) (w:World) (a:Act) (p:Nat) (e:List AV):Prop where
 hp:p≤(Rs ops).length
 g:GH G X w (hr p)
 ei:EnvIs ops x env0 S e
 eo:EnvOK G.ds X w (hr p) e a
 tr:Tr X0 w0 h0 X w (hr p)
 ch:∀ (i:Nat) (o:Oper),ops[i]? = some o→Chg rx ops o→(S i↔InR ops p i)
 pend:∀ (q i:Nat),(Fs ops)[q]? = some i→¬ S i→(hr p)[h0.length+q]? = some (.box false (zz i))∧X.ι (h0.length+q)=Option.none
 cl:Closed ops S
 lt:∀ i,S i→i < ops.size

variable {x:Nat→AV} {hr:Nat→List AObj} {zz:Nat→List AV} {X0:Ctx} {w0:World} {S:Nat→Prop} {X:Ctx} {w:World} {a:Act} {p:Nat} {e:List AV}

theorem yZ {i:Nat} {o:Oper} (cl:Closed ops S) (hi:ops[i]? = some o) (hpre:∀ e,e ∈ anyPre o→S e):Closed ops (fun k=>S k∨k=i):=by
 rintro k ok (s | rfl) hk e he
 · exact .inl (cl k ok s hk e he)
 · rw [hi] at hk; cases hk; exact .inl (hpre e he)

theorem H9 (D:DOK rx ops B) (T:Told P G N rx ops h0 env0 x hr zz) {m k:Nat} {ok:Oper} (hm:(Rs ops)[m]? = some k) (hk:ops[k]? = some ok) (hc:¬ Chg rx ops ok):(dk rx ops ok=some .r∨dk rx ops ok=some .c)∧hr (m+1)=hr m:=by
 have hnf:fN ok=false:=by
   have:=(vJ.1 (cT hm)).2
   simp only [lQ,hk] at this; exact this
 have hkind:dk rx ops ok=some .r∨dk rx ops ok=some .c:=by
   have:=D.kind k ok hk
   cases hd:dk rx ops ok with
   | none=>rw [hd] at this; cases this
   | some d=>
     cases d with
     | c=>exact .inr rfl
     | a=>rw [bOo.1 hd] at hnf; cases hnf
     | r=>exact .inl rfl
     | w=>exact absurd (.inl hd) hc
     | l=>exact absurd (.inr hd) hc
 refine ⟨hkind,?_⟩
 obtain ⟨eT,_,hat⟩:=T.rest m k ok hm hk
 unfold OpAt at hat
 cases hg:ok.guard with
 | none=>rw [hg] at hat; exact aDc hkind hat.2
 | some q=>
   obtain ⟨j,want⟩:=q
   rw [hg] at hat
   obtain ⟨d,b,_,_,h1,h2⟩:=hat
   cases b with
   | true=>exact aDc hkind (h1 rfl).2
   | false=>exact (h2 rfl).2

theorem xE (D:DOK rx ops B) (T:Told P G N rx ops h0 env0 x hr zz) {m k:Nat} {ok:Oper} (hm:(Rs ops)[m]? = some k) (hk:ops[k]? = some ok) (hc:dk rx ops ok ≠ some .l):xC (hr m) (hr (m+1)):=by
 by_cases hc2:Chg rx ops ok
 · have hw:dk rx ops ok=some .w:=hc2.resolve_right hc
   obtain ⟨eT,_,hat⟩:=T.rest m k ok hm hk
   unfold OpAt at hat
   cases hg:ok.guard with
   | none=>rw [hg] at hat; exact aDe hw hat.2
   | some q=>
     obtain ⟨j,want⟩:=q
     rw [hg] at hat
     obtain ⟨d,b,_,_,h1,h2⟩:=hat
     cases b with
     | true=>exact aDe hw (h1 rfl).2
     | false=>rw [(h2 rfl).2]; exact .refl _
 · rw [(H9 D T hm hk hc2).2]; exact .refl _

theorem I7 {a:Nat}:∀ (b:Nat),a≤b→(∀ m,a≤m→m < b→hr (m+1)=hr m)→hr b=hr a
 | 0, h, _ => by have:a=0:=by omega
                 rw [this]
 | b + 1,h,hs=>by
   by_cases hab:a=b+1
   · rw [hab]
   · rw [hs b (by omega) (by omega)]
     exact I7 b (by omega) (fun m h1 h2=>hs m h1 (by omega))
theorem uO {a:Nat}:∀ (b:Nat),a≤b→(∀ m,a≤m→m < b→xC (hr m) (hr (m+1)))→xC (hr a) (hr b)
 | 0, h, _ => by have:a=0:=by omega
                 rw [this]; exact .refl _
 | b+1,h,hs=>by
   by_cases hab:a=b+1
   · rw [hab]; exact .refl _
   · exact (uO b (by omega) (fun m h1 h2=>hs m h1 (by omega))).trans (hs b (by omega) (by omega))

theorem lC.refl (N:DR) (h:List AObj):lC N h h:=fun id o _ ho=>⟨o,ho,rfl⟩
theorem lC.trans {N:DR} {a b c:List AObj} (x:lC N a b) (y:lC N b c):lC N a c:=fun id o hn ho=>by
 obtain ⟨o1,h1,e1⟩:=x id o hn ho
 obtain ⟨o2,h2,e2⟩:=y id o1 hn h1
 exact ⟨o2,h2,e2.trans e1⟩
theorem xC.toN {N:DR} {h h':List AObj} (g:xC h h'):lC N h h':=fun id o _ ho=>g id o ho
theorem rV {N:DR} {a:Nat}:∀ (b:Nat),a≤b→(∀ m,a≤m→m < b→lC N (hr m) (hr (m+1)))→lC N (hr a) (hr b)
 | 0, h, _ => by have:a=0:=by omega
                 rw [this]; exact .refl _ _
 | b+1,h,hs=>by
   by_cases hab:a=b+1
   · rw [hab]; exact .refl _ _
   · exact (rV b (by omega) (fun m h1 h2=>hs m h1 (by omega))).trans (hs b (by omega) (by omega))
theorem lC.app {N:DR} (h obs:List AObj):lC N h (h++obs):=(xC.app h obs).toN
theorem lC.set {N:DR} {id:Nat} {h:List AObj} {ob:AObj} (hn:N.mut id):lC N h (h.set id ob):=fun i o hi ho=>⟨o,by rw [dE (uV (DR.apart hi hn))]; exact ho,rfl⟩

theorem vZ {N:DR} {h h':List AObj} {T:TypeId} {s x y:AV} (hs:vH N s) (e:fJ P h T s x=some (y,h')):lC N h h':=by
 unfold fJ at e
 split at e
 case h_2=>cases e
 split at e
 case h_2=>cases e
 split at e
 case isFalse=>cases e
 split at e
 case h_2=>cases e
 split at e
 · split at e
   · cases e; exact .app _ _
   · cases e
 · rename_i id off n t
   have hn:N.mut id:=hs
   split at e
   case h_2=>cases e
   split at e
   case isFalse=>cases e
   split at e
   · split at e
     · cases e; exact .app _ _
     · cases e
   split at e
   · cases e
   split at e
   · cases e; exact (lC.set hn).trans (.app _ _)
   split at e
   · cases e; exact .set hn
   · cases e; exact (lC.set hn).trans (.app _ _)
 · cases e

theorem aCl {p q:Oper} (h:B6 rx ops p q=true):B6 rx ops q p=true:=by
 unfold B6 at h ⊢
 simp only [aB,cL] at h ⊢
 exact ⟨h.1,h.2.symm⟩

theorem D9 {N:DR}:∀ {l:List AV},pN N l→∀ a ∈ l,kU N a
 | [],_,a,h=>by cases h
 | x::l,h,a,ha=>by
   rcases cH.1 ha with rfl | ha
   · exact h.1
   · exact D9 h.2 a ha

theorem bHt {N:DR} {o:Oper} (hk:qZ o=some .r) {env:List AV} (hck:aGg G (some N) true o.op env):∀ y ∈ o.op.operands.toList,∀ {id:Nat},(aev G env y).refs=some id→N.old id:=by
 intro y hy id hid
 have hall:pN N (o.op.operands.toList.map (aev G env)):=by
   simp only [aGg] at hck
   unfold J6 at hck
   unfold qZ at hk
   cases ho:o.op with
   | call c=>
     rw [ho] at hck hk
     simp only at hck hk
     cases hc:c.callee with
     | builtin b=>rw [hc] at hck hk; cases b <;> first | exact hck | simp at hk
     | value f=>rw [hc] at hk; simp at hk
     | invoke _ _=>rw [hc] at hk; simp at hk
   | store T a x=>rw [ho] at hk; simp at hk
   | buildSlice T n ps=>rw [ho] at hk; simp only at hk; split at hk <;> simp at hk
   | _=>rw [ho] at hck; exact hck
 have:=D9 hall _ (kF.2 ⟨y,hy,rfl⟩)
 unfold kU at this
 rw [hid] at this
 exact this

theorem aZp {ok:Oper} {eT:List AV} {h0 h1:List AObj} {xk:AV} (hmm:aAd ok=true) (hc:aGg G (some N) true ok.op eT) (hd:DOp P G ok.op eT h0 xk h1):lC N h0 h1:=by
 have h2:=hmm
 unfold aAd at h2
 rcases cL _ _ ▸ h2 with h2 | h2
 case inr=>
   unfold jY at h2
   split at h2
   case h_2=>cases h2
   rename_i T y z ho
   rw [ho] at hc hd
   simp only [aGg,J6] at hc
   unfold DOp at hd
   simp only [eK,aop] at hd
   cases hst:rL P (h0) T (aev G eT y) (aev G eT z) with
   | none=>rw [hst] at hd; exact hd.elim
   | some h'=>
     rw [hst] at hd
     obtain ⟨_,rfl⟩:=hd
     unfold rL at hst
     split at hst
     case h_2=>cases hst
     rename_i id off cs n hy _ _
     rw [hy] at hc
     have hn:N.mut id:=hc
     split at hst
     · split at hst
       · rw [← iE hst]; exact .set hn
       · cases hst
     · split at hst
       · rw [← iE hst]; exact .set hn
       · cases hst
     · cases hst
 unfold rU at h2
 split at h2
 case h_2=>cases h2
 rename_i args tys ho
 rw [ho] at hc hd
 simp only [aGg,J6] at hc
 unfold DOp at hd
 simp only [eK,mO] at hd
 split at hc
 case h_2=>exact hc.elim
 rename_i s z hargs
 rw [hargs] at hd
 split at hd
 case h_2=>exact hd.elim
 rename_i A B s' z' _ hz
 simp only [gE,and_true] at hz
 obtain ⟨rfl,rfl⟩:=hz
 split at hd
 case isFalse=>
   split at hd
   case h_2=>exact hd.elim
   cases ha:nR P (h0) A s z with
   | none=>rw [ha] at hd; exact hd.elim
   | some q=>
     rw [ha] at hd
     obtain ⟨y,h'⟩:=q
     obtain ⟨_,rfl⟩:=hd
     unfold nR at ha
     split at ha
     case h_2=>cases ha
     split at ha
     case h_2=>cases ha
     split at ha
     case isFalse=>cases ha
     split at ha
     · simp only [aA,aI] at ha; rw [← ha.2]; exact .refl _ _
     · simp only [aA,aI] at ha; rw [← ha.2]; exact .app _ _
 split at hd
 · cases ha:fJ P (h0) A s z with
   | none=>rw [ha] at hd; exact hd.elim
   | some q=>
     rw [ha] at hd
     obtain ⟨y,h'⟩:=q
     obtain ⟨_,rfl⟩:=hd
     exact vZ hc ha
 · cases ha:fJ P (freeze (dJ dep (h0) z) (h0)) A s (fU dep (h0) z) with
   | none=>rw [ha] at hd; exact hd.elim
   | some q=>
     rw [ha] at hd
     obtain ⟨y,h'⟩:=q
     obtain ⟨_,rfl⟩:=hd
     exact (xC.freeze _ _).toN.trans (vZ hc ha)
theorem aKx {o ok:Oper} (hl:B6 rx ops o ok=true) (hr0:dk rx ops o=some .r):rx.on=true∧ckX rx ops o=true∧aKr rx ops ok=true:=by
 have hr':=(I8 hr0 (by decide) (by decide)).2.2
 unfold B6 at hl
 simp only [aB,cL] at hl
 rcases hl.2 with h | h
 · exact ⟨hl.1,h.1.2,h.2⟩
 · exfalso
   have h2:=h.2
   unfold aKr at h2
   simp only [cL,aB] at h2
   rcases h2 with h2 | h2
   · have h2:=h2.1
     unfold aAd rU jY at h2
     unfold qZ at hr'
     cases ho:o.op with
     | call c=>
       rw [ho] at hr' h2
       obtain ⟨ce,as,ts⟩:=c
       cases ce with
       | builtin b=>cases b <;> simp at hr' h2
       | _=>simp at h2
     | store T a x=>rw [ho] at hr'; simp at hr'
     | _=>rw [ho] at h2; simp at h2
   · rw [(I8 hr0 (by decide) (by decide)).2.1] at h2; cases h2
theorem aRl (T:Told P G N rx ops h0 env0 x hr zz) {m k:Nat} {ok o:Oper} (hm:(Rs ops)[m]? = some k) (hk:ops[k]? = some ok) (hl:B6 rx ops o ok=true) (hr0:dk rx ops o=some .r):lC N (hr m) (hr (m+1)):=by
 obtain ⟨eT,_,hat⟩:=T.rest m k ok hm hk
 obtain ⟨hon,hcx,hmut⟩:=aKx hl hr0
 have go0:OpD P G N rx ops ok eT (hr m) (x k) (hr (m+1))→lC N (hr m) (hr (m+1)):=by
   intro hOD
   unfold aKr at hmut
   simp only [cL,aB] at hmut
   rcases hmut with hmm | hz
   case inr=>
     have hvz:vOf rx ops ok=false:=by
       cases hq:vOf rx ops ok with
       | false=>rfl
       | true=>
         obtain ⟨T,len,ps,ho,_⟩:=aBj hq
         obtain ⟨f,as,ts,ho2⟩:=N5 hz
         rw [ho] at ho2; cases ho2
     have hom:omOf rx ops ok=.z:=by simp [omOf,hvz,hz]
     have:=hOD.2
     rw [hom] at this
     exact this.2.2
   have hvm:vOf rx ops ok=false:=by
     cases hq:vOf rx ops ok with
     | false=>rfl
     | true=>
       obtain ⟨T,len,ps,ho,_⟩:=aBj hq
       have h2:=hmm.1
       unfold aAd rU jY at h2; rw [ho] at h2; simp at h2
   have hzm:zOf rx ok=false:=by
     cases hq:zOf rx ok with
     | false=>rfl
     | true=>
       obtain ⟨f,as,ts,ho⟩:=N5 hq
       have h2:=hmm.1
       unfold aAd rU jY at h2; rw [ho] at h2; simp at h2
   have happ:aAd ok=true∧ckF rx ops ok=true:=⟨hmm.1,by simp [ckF,hon,hmm.2]⟩
   revert hOD
   rintro ⟨hc,hd⟩
   rw [happ.2] at hc
   rw [bDx hvm hzm] at hd
   exact aZp happ.1 hc hd
 unfold OpAt at hat
 cases hg:ok.guard with
 | none=>rw [hg] at hat; exact go0 hat
 | some gq=>
   obtain ⟨j,want⟩:=gq
   rw [hg] at hat
   obtain ⟨d,b,_,_,h1,h2⟩:=hat
   cases b with
   | true=>exact go0 (h1 rfl)
   | false=>rw [(h2 rfl).2]; exact .refl _ _

structure bSy (P:Program) (G:Md) (N:DR) (rx:RX) (ops:Array Oper) (hr:Nat→List AObj) (S:Nat→Prop) (i p:Nat) (o:Oper) (e eT:List AV) (q:Nat) (x:AV):Prop where
 agree:∀ t,t ∈ ouses ops o→e.getD t .u=eT.getD t .u
 at_:OpAt P G N rx ops o eT (hr q) x (hr (q+1))
 run:OpD P G N rx ops o eT (hr q) x (hr (q+1))→∃ p',p'≤(Rs ops).length∧DOc P G N (omOf rx ops o) o.op e (hr p) x (hr p')∧∀ (k:Nat) (ok:Oper),ops[k]? = some ok→Chg rx ops ok→((S k∨k=i)↔InR ops p' k)
 drop:hr (q+1)=hr q→∃ p',p'≤(Rs ops).length∧hr p'=hr p∧∀ (k:Nat) (ok:Oper),ops[k]? = some ok→Chg rx ops ok→((S k∨k=i)↔InR ops p' k)

theorem bRd (D:DOK rx ops B) (T:Told P G N rx ops h0 env0 x hr zz) (I:Inv P G rx ops h0 env0 x hr zz X0 w0 S X w a p e) {i:Nat} {o:Oper} (hi:ops[i]? = some o) (hS:¬ S i) (hpre:∀ e,e ∈ anyPre o→S e) (hf:fN o=false) :
   ∃ eT q,bSy P G N rx ops hr S i p o e eT q (x i):=by
 have hlt:i < ops.size:=(aR.1 hi).1
 have hiR:i ∈ Rs ops:=vJ.2 ⟨hlt,by simp only [lQ,hi]; exact hf⟩
 obtain ⟨q,hq⟩:=cO.1 hiR
 obtain ⟨eT,hT,hat⟩:=T.rest q i o hq hi
 have notF:i ∉ Fs ops:=fun h=>by have:=(vK.1 h).2; simp only [lQ,hi] at this; rw [hf] at this; cases this
 have bef1:∀ k,B k i→S k:=D.before I.cl i o hi hpre
 have bef2:∀ k ok,ops[k]? = some ok→S k→¬ B i k:=fun k ok hk s hb=>hS (D.before I.cl k ok hk (I.cl k ok s hk) i hb)
 have agree:∀ t,t ∈ ouses ops o→e.getD t .u=eT.getD t .u:=by
   intro t ht
   refine I.ei.agree D hT t (fun k hk=>?_)
   obtain ⟨ok,hok,hdk⟩:∃ ok,ops[k]? = some ok∧ok.dst=some t:=by
     unfold lV at hk
     cases hok:ops[k]? with
     | none=>rw [hok] at hk; cases hk
     | some ok=>rw [hok] at hk; exact ⟨ok,rfl,hk⟩
   have hkl:k < ops.size:=(aR.1 hok).1
   constructor
   · intro s
     cases hfk:lQ ops k with
     | true=>exact .inl (vK.2 ⟨hkl,hfk⟩)
     | false=>
       right
       obtain ⟨m,hm⟩:=cO.1 (vJ.2 ⟨hkl,hfk⟩)
       by_cases hmq:m < q
       · exact ⟨m,hmq,hm⟩
       · exfalso
         have hne:m ≠ q:=fun h=>by subst h; rw [hq] at hm; cases hm; exact hS s
         have hik:=mI hq hm (by omega)
         rcases D.ind k i ok o hok hi (by omega) with h | h | h
         · have:=D.blt i o hi k h; omega
         · exact bef2 k ok hok s h
         · exact (nO h).1 t hdk ht
   · intro hkk
     by_cases s:S k
     · exact s
     · exfalso
       have hne:k ≠ i:=by
         rintro rfl
         rcases hkk with h | ⟨m,hm,hmk⟩
         · exact notF h
         · have:=aOo hmk hq; omega
       rcases D.ind k i ok o hok hi hne with h | h | h
       · exact s (bef1 k h)
       · rcases hkk with hF | ⟨m,hm,hmk⟩
         · have hfr:fN ok=true:=by have:=(vK.1 hF).2; simp only [lQ,hok] at this; exact this
           obtain ⟨_,_,_,hp0⟩:=yN hfr
           rcases D.clo k ok hok i h with h | ⟨e,he,_⟩
           · rw [hp0] at h; cases h
           · rw [hp0] at he; cases he
         · have:=D.blt k ok hok i h
           have:=mI hmk hq hm
           omega
       · exact (nO h).1 t hdk ht
 have opd:∀ y ∈ o.op.operands.toList,aev G eT y=aev G e y:=by
   intro y hy
   cases y with
   | tmp t=>
     simp only [aev]
     exact (agree t (by
       unfold ouses
       refine dY _ (fG _ ?_)
       unfold bDt
       exact List.mem_filterMap.2 ⟨.tmp t,hy,rfl⟩)).symm
   | _=>rfl
 have pend:∀ m k ok,(Rs ops)[m]? = some k→ops[k]? = some ok→p≤m→m < q→Chg rx ops ok→¬ S k:=by
   intro m k ok hm hk h1 h2 hc s
   obtain ⟨m',hm',hmk⟩:=(I.ch k ok hk hc).1 s
   have:=aOo hmk hm; omega
 have at_m:∀ m,m < (Rs ops).length→∃ k ok,(Rs ops)[m]? = some k∧ops[k]? = some ok:=by
   intro m hm
   have h1:(Rs ops)[m]? = some (Rs ops)[m]:=by simp [hm]
   have h2:=(vJ.1 (cT h1)).1
   exact ⟨_,ops[(Rs ops)[m]],h1,by simp [h2]⟩
 have hql:q < (Rs ops).length:=aK hq
 by_cases hc:Chg rx ops o
 · have hpq:p≤q:=by
     rcases xA q p with h | h
     · exact absurd ((I.ch i o hi hc).2 ⟨q,h,hq⟩) hS
     · exact h
   have none:∀ m k ok,(Rs ops)[m]? = some k→ops[k]? = some ok→p≤m→m < q→¬ Chg rx ops ok:=by
     intro m k ok hm hk h1 h2 hck
     have s:=pend m k ok hm hk h1 h2 hck
     have hki:=mI hm hq h2
     rcases D.ind k i ok o hk hi (by omega) with h | h | h
     · exact s (bef1 k h)
     · have:=D.blt k ok hk i h; omega
     · obtain ⟨_,_,a,b,ha,hb,hab⟩:=nO h
       rcases hab with hab | hab
       · rcases hck with c1 | c1 <;> rcases hc with c2 | c2 <;> (rw [c1] at ha; rw [c2] at hb; cases ha; cases hb; simp [yJ] at hab)
       · unfold B6 at hab
         rcases hck with c1 | c1 <;> rcases hc with c2 | c2 <;> simp [c1,c2] at hab
   have heq:hr q=hr p:=I7 q hpq (fun m h1 h2=>by
     obtain ⟨k,ok,hk,hok⟩:=at_m m (by omega)
     exact (H9 D T hk hok (none m k ok hk hok h1 h2)).2)
   have chq:∀ (k:Nat) (ok:Oper),ops[k]? = some ok→Chg rx ops ok→((S k∨k=i)↔InR ops (q+1) k):=by
     intro k ok hok hck
     constructor
     · rintro (s | rfl)
       · obtain ⟨m,hm,hmk⟩:=(I.ch k ok hok hck).1 s
         exact ⟨m,by omega,hmk⟩
       · exact ⟨q,by omega,hq⟩
     · rintro ⟨m,hm,hmk⟩
       by_cases h1:m < p
       · exact .inl ((I.ch k ok hok hck).2 ⟨m,h1,hmk⟩)
       · by_cases h2:m=q
         · subst h2; rw [hq] at hmk; cases hmk; exact .inr rfl
         · exact absurd hck (none m k ok hmk hok (by omega) (by omega))
   refine ⟨eT,q,agree,hat,fun d=>⟨q+1,hql,?_,chq⟩,fun hd=>⟨q+1,hql,by rw [hd,heq],chq⟩⟩
   rw [← heq]; exact T4 opd d.2
 · obtain ⟨hkind,hsame⟩:=H9 D T hq hi hc
   have chp:∀ (k:Nat) (ok:Oper),ops[k]? = some ok→Chg rx ops ok→((S k∨k=i)↔InR ops p k):=by
     intro k ok hok hck
     constructor
     · rintro (s | rfl)
       · exact (I.ch k ok hok hck).1 s
       · rw [hi] at hok; cases hok; exact absurd hck hc
     · intro h; exact .inl ((I.ch k ok hok hck).2 h)
   refine ⟨eT,q,agree,hat,fun d=>⟨p,I.hp,?_,chp⟩,fun _=>⟨p,I.hp,rfl,chp⟩⟩
   rcases hkind with hk | hk
   · refine bEt hk (by decide) (by decide) (G1 opd ((Q0 (aCm (I8 hk (by decide) (by decide)).2.2) (aMf hk (by decide) (by decide) d.2)).2 (hr p) ?_))
     intro y hy
     intro id hid
     have notL:∀ m k ok,(Rs ops)[m]? = some k→ops[k]? = some ok→((p≤m∧m < q)∨(q≤m∧m < p))→dk rx ops ok ≠ some .l∨B6 rx ops o ok=true:=by
       intro m k ok hm hok hpm
       by_cases hl:dk rx ops ok=some .l
       case neg=>exact .inl hl
       right
       have hck:Chg rx ops ok:=.inr hl
       rcases hpm with ⟨h1,h2⟩ | ⟨h1,h2⟩
       · have s:=pend m k ok hm hok h1 h2 hck
         have hki:=mI hm hq h2
         rcases D.ind k i ok o hok hi (by omega) with h | h | h
         · exact absurd (bef1 k h) s
         · have:=D.blt k ok hok i h; omega
         · obtain ⟨_,_,a,b,ha,hb,hab⟩:=nO h
           rcases hab with hab | hab
           · rw [hl] at ha; rw [hk] at hb; cases ha; cases hb; simp [yJ] at hab
           · exact aCl hab
       · have s:S k:=(I.ch k ok hok hck).2 ⟨m,h2,hm⟩
         have hne:m ≠ q:=fun h=>by subst h; rw [hq] at hm; cases hm; exact hS s
         have hik:=mI hq hm (by omega)
         rcases D.ind k i ok o hok hi (by omega) with h | h | h
         · have:=D.blt i o hi k h; omega
         · exact absurd h (bef2 k ok hok s)
         · obtain ⟨_,_,a,b,ha,hb,hab⟩:=nO h
           rcases hab with hab | hab
           · rw [hl] at ha; rw [hk] at hb; cases ha; cases hb; simp [yJ] at hab
           · exact aCl hab
     have hpl:=I.hp
     by_cases hflag:ckF rx ops o=true
     · -- what it reads was there before
       have hold:N.old id:=by
         have hck:=d.1
         rw [hflag] at hck
         exact bHt (I8 hk (by decide) (by decide)).2.2 hck y hy hid
       have step:∀ m,m < (Rs ops).length→((p≤m∧m < q)∨(q≤m∧m < p))→lC N (hr m) (hr (m+1)):=by
         intro m hml hpm
         obtain ⟨k,ok,hk',hok⟩:=at_m m hml
         rcases notL m k ok hk' hok hpm with h | h
         · exact (xE D T hk' hok h).toN
         · exact aRl T hk' hok h (by rw [hk])
       rcases Nat.le_total p q with h | h
       · have gr:lC N (hr p) (hr q):=rV q h (fun m h1 h2=>step m (by omega) (.inl ⟨h1,h2⟩))
         have rv:=gR I.g I.eo y
         rw [← opd y hy] at rv
         obtain ⟨ob,hob⟩:=aIw rv hid
         obtain ⟨ob',h1,h2⟩:=gr id ob hold hob
         right; rw [hob,h1]; simp [h2]
       · have gr:lC N (hr q) (hr p):=rV p h (fun m h1 h2=>step m (by omega) (.inr ⟨h1,h2⟩))
         cases hx:(hr q)[id]? with
         | none=>left; rfl
         | some ob=>obtain ⟨ob',h1,h2⟩:=gr id ob hold hx; right; rw [h1]; simp [h2]
     · have notL2:∀ m k ok,(Rs ops)[m]? = some k→ops[k]? = some ok→((p≤m∧m < q)∨(q≤m∧m < p))→dk rx ops ok ≠ some .l:=by
         intro m k ok hm hok hpm
         rcases notL m k ok hm hok hpm with h | h
         · exact h
         · obtain ⟨q1,q2,_⟩:=aKx h hk
           exact absurd (by simp [ckF,q1,q2]) hflag
       rcases Nat.le_total p q with h | h
       · have gr:xC (hr p) (hr q):=uO q h (fun m h1 h2=>by
           obtain ⟨k,ok,hk,hok⟩:=at_m m (by omega)
           exact xE D T hk hok (notL2 m k ok hk hok (.inl ⟨h1,h2⟩)))
         have rv:=gR I.g I.eo y
         rw [← opd y hy] at rv
         obtain ⟨ob,hob⟩:=aIw rv hid
         obtain ⟨ob',h1,h2⟩:=gr id ob hob
         right; rw [hob,h1]; simp [h2]
       · have gr:xC (hr q) (hr p):=uO p h (fun m h1 h2=>by
           obtain ⟨k,ok,hk,hok⟩:=at_m m (by omega)
           exact xE D T hk hok (notL2 m k ok hk hok (.inr ⟨h1,h2⟩)))
         cases hx:(hr q)[id]? with
         | none=>left; rfl
         | some ob=>obtain ⟨ob',h1,h2⟩:=gr id ob hx; right; rw [h1]; simp [h2]
   · exact T4 opd ((aDd hk d.2).2 (hr p))

theorem aCf (D:DOK rx ops B) (I:Inv P G rx ops h0 env0 x hr zz X0 w0 S X w a p e) {i:Nat} {o:Oper} (hi:ops[i]? = some o) (hpre:∀ e,e ∈ anyPre o→S e) {p':Nat} (hp:p'≤(Rs ops).length)
   (ch:∀ (k:Nat) (ok:Oper),ops[k]? = some ok→Chg rx ops ok→((S k∨k=i)↔InR ops p' k)) {X':Ctx} {w':World} {a':Act} (g:GH G X' w' (hr p')) (eo:EnvOK G.ds X' w' (hr p') (gJ e o.dst (x i)) a') (t:Tr X w (hr p) X' w' (hr p')) :
   Inv P G rx ops h0 env0 x hr zz X0 w0 (fun k=>S k∨k=i) X' w' a' p' (gJ e o.dst (x i)):=by
 have hd:lV ops i=o.dst:=by simp [lV,hi]
 refine ⟨hp,g,hd ▸ I.ei.step D i,eo,I.tr.trans t,ch,?_,yZ I.cl hi hpre,?_⟩
 · intro q k hq hk
   obtain ⟨h1,h2⟩:=I.pend q k hq (fun s=>hk (.inl s))
   refine ⟨t.abs _ _ h1 h2,?_⟩
   obtain ⟨o',ho',c⟩:=t.ext.obj _ _ h1
   rw [t.abs _ _ h1 h2] at ho'
   cases ho'
   rcases c with c | ⟨_,c⟩
   · cases c
   · exact (c.resolve_right (by simp)).trans h2
 · rintro k (s | rfl)
   · exact I.lt k s
   · exact (aR.1 hi).1

theorem aRs (D:DOK rx ops B) (T:Told P G N rx ops h0 env0 x hr zz) (I:Inv P G rx ops h0 env0 x hr zz X0 w0 S X w a p e) {i:Nat} {o:Oper} (hi:ops[i]? = some o) (hS:¬ S i) (hpre:∀ e,e ∈ anyPre o→S e)
   {Q:Exit→Act→World→Prop} {K:Act→World→Prop} (hK:∀ X' w' a' p' e',Inv P G rx ops h0 env0 x hr zz X0 w0 (fun k=>S k∨k=i) X' w' a' p' e'→K a' w'):wpOp P ops Q i K a w:=by
 unfold wpOp
 simp only [hi]
 have hd:lV ops i=o.dst:=by simp [lV,hi]
 cases hf:fN o with
 | true=>
   obtain ⟨_,_,hg,_⟩:=yN hf
   have hiF:i ∈ Fs ops:=vK.2 ⟨(aR.1 hi).1,by simp only [lQ,hi]; exact hf⟩
   obtain ⟨q,hq⟩:=cO.1 hiF
   obtain ⟨o',Ty,ho',hop,hz,hx,hbox⟩:=T.free q i hq
   rw [hi] at ho'; cases ho'
   have hw:Region.wanted o (yielded ops a.tmps)=true:=by simp [Region.wanted,hg]
   rw [if_pos hw]
   refine .inl ?_
   obtain ⟨hid,hι⟩:=I.pend q i hq hS
   obtain ⟨iz,zv,hiz,hizv,hzc⟩:=iA hz
   obtain ⟨h1,h2,h3⟩:=lZ (X:=X) (w:=w) (h:=hr p) hzc
   have pp:=gH.alloc w (.cells zv.cells Ty (0,0))
   obtain ⟨ex,g',st⟩:=aZz I.g pp hid hι h1 h2 h3
   have hrun:(execOp a.eval o).run P w=.ok (.value (.pointer (some ⟨w.heap.size,0,Option.none⟩))) (w.alloc (.cells zv.cells Ty (0,0))):=by
     have hnr:(newRow Ty zv.cells).run P w=.ok ⟨w.heap.size,0,Option.none⟩ (w.alloc (.cells zv.cells Ty (0,0))):=rfl
     unfold execOp
     simp only [hop]
     simp [Instr.alloc,mS hiz hizv,newVar,hnr]
   unfold Oper.wp
   rw [hrun]
   simp only [Oper.upon]
   have rp:RV (X.upd (h0.length+q) (some (w.heap.size,0))) (w.alloc (.cells zv.cells Ty (0,0))) (hr p) (x i) (.pointer (some ⟨w.heap.size,0,Option.none⟩)):=by
     rw [hx]
     have:=RV.ptr (X:=X.upd (h0.length+q) (some (w.heap.size,0))) (w:=w.alloc (.cells zv.cells Ty (0,0))) (h:=hr p) (id:=h0.length+q) (off:=0) (ob:=.box false (zz i)) (b:=w.heap.size) (o:=0) hid (by simp) (Ctx.upd_same _ _ _)
     simpa using this
   refine hK _ _ _ p (gJ e o.dst (x i)) ⟨I.hp,g',hd ▸ I.ei.step D i,?_,⟨I.tr.step.trans st,?_,I.tr.abs⟩,?_,?_,yZ I.cl hi hpre,?_⟩
   · exact EnvOK.put ⟨I.eo.defers,I.eo.size,fun j y v hy hv=>(I.eo.rel j y v hy hv).monoW ex⟩ _ rp
   · refine ⟨fun b hb=>I.tr.ext.fr b hb,fun b hb=>(ex.keep b (I.tr.ext.fr b hb)).trans (I.tr.ext.keep b hb),fun b s hs=>ex.shp b s (I.tr.ext.shp b s hs),fun k ob hk=>?_⟩
     obtain ⟨ob',ho',c⟩:=I.tr.ext.obj k ob hk
     refine ⟨ob',ho',c.imp id (fun c=>⟨c.1,?_⟩)⟩
     rw [Ctx.upd_other _ _ (by have:=aK hk; omega)]
     exact c.2
   · intro k ok hok hck
     rw [← I.ch k ok hok hck]
     constructor
     · rintro (s | rfl)
       · exact s
       · rw [hi] at hok; cases hok
         rcases hck with c | c <;> (rw [bOo.2 hf] at c; cases c)
     · exact .inl
   · intro q' k hq' hk
     obtain ⟨p1,p2⟩:=I.pend q' k hq' (fun s=>hk (.inl s))
     refine ⟨p1,?_⟩
     have hne:q' ≠ q:=fun h=>by subst h; rw [hq] at hq'; cases hq'; exact hk (.inr rfl)
     rw [Ctx.upd_other _ _ (by omega)]
     exact p2
   · rintro k (s | rfl)
     · exact I.lt k s
     · exact (aR.1 hi).1
 | false =>
   obtain ⟨eT,q,H⟩:=bRd D T I hi hS hpre hf
   have go:OpD P G N rx ops o eT (hr q) (x i) (hr (q+1))→o.wp P a w K Q:=by
     intro d
     obtain ⟨p',hp',d',ch⟩:=H.run d
     refine bEu I.g I.eo d' ?_
     intro a' w' X' g' r' t
     exact hK _ _ _ _ _ (aCf D I hi hpre hp' ch g' r' t)
   have stop:hr (q+1)=hr q→x i=.tup []→K (a.put o.dst undef) w:=by
     intro d hx
     obtain ⟨p',hp',hh,ch⟩:=H.drop d
     refine hK X w (a.put o.dst undef) p' _ (aCf D I hi hpre hp' ch (by rw [hh]; exact I.g) (by rw [hh,hx]; exact I.eo.put _ (.tup (vs := #[]) rfl (by simp))) (by rw [hh]; exact .refl _ _ _))
   have hat:=H.at_
   unfold OpAt at hat
   cases hg:o.guard with
   | none=>
     rw [hg] at hat
     have hw:Region.wanted o (yielded ops a.tmps)=true:=by simp [Region.wanted,hg]
     rw [if_pos hw]
     exact .inl (go hat)
   | some gq=>
     obtain ⟨j,want⟩:=gq
     rw [hg] at hat
     obtain ⟨d,b,hdj,hb,h1,h2⟩:=hat
     have hx:wS (e.getD d .u) want=.b b:=by
       rw [H.agree d (by
         unfold ouses bNo
         rw [hg]
         refine dY _ (dY _ ?_)
         have:((ops[j]?).bind fun x=>x.dst)=some d:=hdj
         simp [this])]
       exact hb
     rw [N7 I.eo hg hdj hx]
     cases b with
     | true=>
       simp only [if_true]
       exact .inl (go (h1 rfl))
     | false=>
       simp only [aH,if_false]
       obtain ⟨e1,e2⟩:=h2 rfl
       exact stop e2 e1

theorem T8 {α:Type} {p q:α→Bool}:∀ (l:List α),(∀ y ∈ l,q y=true→p y=true)→(∃ y ∈ l,p y=true∧q y=false)→l.countP q < l.countP p
 | [],_,h=>by obtain ⟨y,hy,_⟩:=h; cases hy
 | y :: l,hs,h=>by
   have hle:l.countP q≤l.countP p:=List.countP_mono_left (fun z hz=>hs z (by simp [hz]))
   rw [List.countP_cons,List.countP_cons]
   by_cases hy:p y=true∧q y=false
   · rw [hy.1,hy.2]; simp; omega
   · have h':∃ z ∈ l,p z=true∧q z=false:=by
       obtain ⟨z,hz,hpz⟩:=h
       rcases cH.1 hz with rfl | hz
       · exact absurd hpz hy
       · exact ⟨z,hz,hpz⟩
     have:=T8 l (fun z hz=>hs z (by simp [hz])) h'
     have h1:=hs y (by simp)
     cases hq:q y with
     | true=>rw [h1 hq]; omega
     | false=>simp; omega

theorem kZ {o:Oper} {e:Nat}:e ∈ anyPre o↔∃ d ∈ o.after,Region.binds .any d=true∧d.on=e:=by
 unfold anyPre
 simp only [kF,gD,Array.mem_toList_iff]
 constructor
 · rintro ⟨d,⟨h1,h2⟩,h3⟩; exact ⟨d,h1,h2,h3⟩
 · rintro ⟨d,h1,h2,h3⟩; exact ⟨d,⟨h1,h2⟩,h3⟩

def oX (l:Array Bool) (i:Nat):Prop:=l.getD i false=true

theorem bIn (D:DOK rx ops B) (T:Told P G N rx ops h0 env0 x hr zz) {Q:Exit→Act→World→Prop} (hQ:∀ X w a p e,Inv P G rx ops h0 env0 x hr zz X0 w0 (fun i=>i < ops.size) X w a p e→Q .normal a w) :
   ∀ (fuel:Nat) (l:Array Bool),l.size=ops.size→(List.range ops.size).countP (fun i => !l.getD i true)≤fuel→∀ (X:Ctx) (w:World) (a:Act) (p:Nat) (e:List AV),Inv P G rx ops h0 env0 x hr zz X0 w0 (oX l) X w a p e →
     wpAny P .any ops Q fuel l a w:=by
 have all:∀ (l:Array Bool),l.size=ops.size→Region.ready .any ops l=[]→∀ i,i < ops.size→oX l i:=by
   intro l hl hr i
   induction i using Nat.strongRecOn with
   | ind i ih=>
     intro hi
     have ho:ops[i]? = some ops[i]:=by simp [hi]
     have hn:i ∉ Region.ready .any ops l:=by rw [hr]; simp
     rw [mem_ready] at hn
     have hpre:∀ d ∈ ops[i].after,Region.binds .any d=true→l.getD d.on false=true:=by
       intro d hd hb
       have hlt:=D.lt i ops[i] ho d.on (kZ.2 ⟨d,hd,hb,rfl⟩)
       exact ih d.on hlt (by omega)
     unfold oX
     have hli:i < l.size:=by omega
     cases hc:l[i] with
     | true=>simp [Array.getD,hli,hc]
     | false=>exact absurd ⟨by simp [Array.getD,hli,hc],ops[i],ho,hpre⟩ hn
 have fin:∀ (l:Array Bool),l.size=ops.size→Region.ready .any ops l=[]→∀ X w a p e,Inv P G rx ops h0 env0 x hr zz X0 w0 (oX l) X w a p e→Q .normal a w:=by
   intro l hl hr X w a p e I
   have hs:(oX l)=(fun i=>i < ops.size):=funext fun i=>propext ⟨I.lt i,all l hl hr i⟩
   exact hQ X w a p e (hs ▸ I)
 intro fuel
 induction fuel with
 | zero=>
   intro l hl hc X w a p e I
   have hr:Region.ready .any ops l=[]:=by
     rw [rE]
     intro i hi
     obtain ⟨h1,o,ho,_⟩:=mem_ready.1 hi
     have hlt:i < ops.size:=(aR.1 ho).1
     have hz:(List.range ops.size).countP (fun i => !l.getD i true)=0:=by omega
     rw [List.countP_eq_zero] at hz
     have:=hz i (jP.2 hlt)
     rw [h1] at this
     exact this rfl
   exact ⟨hr,fin l hl hr X w a p e I⟩
 | succ fuel ih=>
   intro l hl hc X w a p e I
   refine ⟨fun hr=>fin l hl hr X w a p e I,fun i hi=>?_⟩
   obtain ⟨h1,o,ho,hall⟩:=mem_ready.1 hi
   have hlt:i < ops.size:=(aR.1 ho).1
   have hli:i < l.size:=by omega
   have hf:l[i]=false:=by simpa [Array.getD,hli] using h1
   refine aRs D T I ho ?_ ?_ (fun X' w' a' p' e' I'=>ih (l.setIfInBounds i true) (by simp [hl]) ?_ X' w' a' p' e' ?_)
   · intro s
     unfold oX at s
     simp [Array.getD,hli,hf] at s
   · intro d hd
     obtain ⟨d',h1,h2,rfl⟩:=kZ.1 hd
     exact hall d' h1 h2
   · have:(List.range ops.size).countP (fun k => !(l.setIfInBounds i true).getD k true) < (List.range ops.size).countP (fun k => !l.getD k true):=by
       refine T8 _ ?_ ⟨i,jP.2 hlt,by rw [h1]; rfl,by simp [Array.getD,hli]⟩
       intro k hk hk'
       by_cases hik:i=k
       · subst hik; rw [h1]; rfl
       · rw [getD_set_ne true hik] at hk'; exact hk'
     omega
   · have hs:(oX (l.setIfInBounds i true))=(fun k=>oX l k∨k=i):=funext fun k=>propext (by
       unfold oX
       by_cases hik:i=k
       · subst hik; simp [Array.getD,hli]
       · rw [getD_set_ne false hik]
         constructor
         · exact .inl
         · rintro (s | rfl)
           · exact s
           · exact absurd rfl hik)
     rw [hs]; exact I'

theorem aDb (hd:F4 rx ops=true) {al:List fI} (hl:dK rx ops (lI ops)=some al) {K:List AV→List AObj→Prop} {env:List AV} {h:List AObj} {X:Ctx} {w:World} {a:Act} {Q:Exit→Act→World→Prop}
   (e:dB P G (some N) al K env h) (g:GH G X w h) (r:EnvOK G.ds X w h env a) (hQ:∀ a' w',C5 G X w h K a' w'→Q .normal a' w'):wpAny P .any ops Q ops.size (Array.replicate ops.size false) a { w with drawn:=w.drawn+1 }:=by
 have D:=aVy hd
 obtain ⟨x,hr,zz,T,hK⟩:=aXh (P:=P) (G:=G) D hl e
 obtain ⟨g1,t1⟩:=aZx (w':={ w with drawn:=w.drawn+1 }) g rfl rfl rfl rfl
 obtain ⟨obs,hobs,hobs2⟩:=T.start
 obtain ⟨g2,t2⟩:=aZy g1 obs hobs2
 have t12:=t1.trans t2
 refine bIn (x:=x) (hr:=hr) (zz:=zz) (h0:=h) (env0:=env) (X0:=X) (w0:=w) D T ?_ ops.size (Array.replicate ops.size false) (by simp) (by
   have:=List.countP_le_length (p:=fun i => !(Array.replicate ops.size false).getD i true) (l:=List.range ops.size)
   simpa using this) X _ a 0 env ?_
 · intro X' w' a' p' e' I
   refine hQ a' w' ⟨e',hr (Rs ops).length,X',hK e' I.ei,?_⟩
   have heq:hr (Rs ops).length=hr p':=I7 _ I.hp (fun m h1 h2=>by
     have hm':(Rs ops)[m]? = some (Rs ops)[m]:=by simp [h2]
     have hlt:=(vJ.1 (cT hm')).1
     refine (H9 D T hm' (ok:=ops[(Rs ops)[m]]) (by simp [hlt]) (fun hc=>?_)).2
     obtain ⟨m',hm1,hm2⟩:=(I.ch (Rs ops)[m] ops[(Rs ops)[m]] (by simp [hlt]) hc).1 hlt
     have:=aOo hm2 hm'
     omega)
   rw [heq]
   exact ⟨I.g,I.eo,I.tr⟩
 · have nol:∀ i,¬ oX (Array.replicate ops.size false) i:=by
     intro i s
     unfold oX at s
     by_cases hi:i < ops.size <;> simp [Array.getD,hi] at s
   have hs:oX (Array.replicate ops.size false)=fun _=>False:=funext fun i=>propext ⟨nol i,False.elim⟩
   refine ⟨aT _,hobs ▸ g2,hs ▸ EnvIs.start,hobs ▸ r.mono t12.ext,hobs ▸ t12,?_,?_,?_,?_⟩
   · intro i o _ _
     exact ⟨fun s=>absurd s (nol i),fun ⟨m,hm,_⟩=>by omega⟩
   · intro q i hq _
     obtain ⟨o,Ty,_,_,_,_,hb⟩:=T.free q i hq
     refine ⟨hb,?_⟩
     cases hi:X.ι (h.length+q) with
     | none=>rfl
     | some bo=>
       obtain ⟨ob,hob⟩:=g.dom _ _ hi
       have:=aK hob
       omega
   · intro i o s; exact absurd s (nol i)
   · intro i s; exact absurd s (nol i)
theorem bAp (hm:P.follows .mixedOrders=true) {id:Nat} (hd:F4 rx ops=true) {al:List fI} (hl:dK rx ops (lI ops)=some al) {K:List AV→List AObj→Prop} {env:List AV} {h:List AObj} {X:Ctx} {w:World} {a:Act} {Q:Exit→Act→World→Prop}
   (e:dB P G (some N) al K env h) (g:GH G X w h) (r:EnvOK G.ds X w h env a) (hQ:∀ a' w',C5 G X w h K a' w'→Q .normal a' w'):(Code.region id ops true).wp P Q a w:=
 wp_region_any hm (aDb hd hl e g r hQ)
end
def aFv (pre:Array Oper) (o:Oper):Bool:=
 ((anyPre o).all fun e=>decide (e < pre.size)) &&
 (List.range pre.size).all fun i=>(anyPre o).contains i || (List.range pre.size).any fun j=>decide (i < j) && match pre[j]? with
   | some p=>(anyPre p).contains i
   | Option.none=>false
def aCo (pre:Array Oper):Bool:=pre.toList.all fun p=>match p.guard with
 | some (j,_)=>decide (j < pre.size)
 | Option.none=>true
section
variable {P:Program} {pre:Array Oper} {o:Oper} {Q:Exit→Act→World→Prop}
def Cl (pre:Array Oper) (l:Array Bool):Prop:=∀ i p,pre[i]? = some p→l.getD i false=true→∀ e ∈ anyPre p,l.getD e false=true
def A6 (P:Program) (pre:Array Oper) (o:Oper) (Q:Exit→Act→World→Prop):Exit→Act→World→Prop
 | .normal,a,w=>wpOp P (pre.push o) Q pre.size (fun a w=>Q .normal a w) a w
 | x,a,w=>Q x a w
theorem nJ {l:Array Bool} {i:Nat} {d:Bool} (h:i < l.size):(l.push false).getD i d=l.getD i d:=by
 simp [Array.getD,h,Array.getElem_push,Nat.lt_succ_of_lt h]
theorem aJl {l:Array Bool} {d:Bool}:(l.push false).getD l.size d=false:=by simp [Array.getD]
theorem I5 {i:Nat} (h:i < pre.size):(pre.push o)[i]? = pre[i]? := by rw [fP]; rw [if_neg (by omega)]
theorem aJm {l:Array Bool} (hlt:∀ i p,pre[i]? = some p→∀ e ∈ anyPre p,e < i) (hl:l.size=pre.size) (hr:Region.ready .any pre l=[]):∀ i,i < pre.size→l.getD i false=true:=by
 intro i
 induction i using Nat.strongRecOn with
 | ind i ih=>
   intro hi
   have ho:pre[i]? = some pre[i]:=by simp [hi]
   have hn:i ∉ Region.ready .any pre l:=by rw [hr]; simp
   rw [mem_ready] at hn
   have hli:i < l.size:=by omega
   cases hc:l[i] with
   | true=>simp [Array.getD,hli,hc]
   | false=>
     refine absurd ⟨by simp [Array.getD,hli,hc],pre[i],ho,fun d hd hb=>?_⟩ hn
     have hlt':=hlt i pre[i] ho d.on (kZ.2 ⟨d,hd,hb,rfl⟩)
     exact ih d.on hlt' (by omega)
theorem aRm {l:Array Bool} (hL:aFv pre o=true) (hc:Cl pre l) (hd:∀ e ∈ anyPre o,l.getD e false=true):∀ i,i < pre.size→l.getD i false=true:=by
 simp only [aFv,aB,aV,jP,cL] at hL
 have key:∀ k i,pre.size - i≤k→i < pre.size→l.getD i false=true:=by
   intro k
   induction k with
   | zero=>intro i h1 h2; omega
   | succ k ih=>
     intro i h1 h2
     rcases hL.2 i h2 with h | h
     · exact hd i (rF.1 h)
     · rw [List.any_eq_true] at h
       obtain ⟨j,hj,hj2⟩:=h
       rw [jP] at hj
       simp only [aB,decide_eq_true_eq] at hj2
       have hp:pre[j]? = some pre[j]:=by simp [hj]
       rw [hp] at hj2
       exact hc j _ hp (ih j (by omega) hj) i (rF.1 hj2.2)
 exact fun i h=>key _ i (aX _) h
theorem D3 {l:Array Bool} {i:Nat} (hlt:∀ i p,pre[i]? = some p→∀ e ∈ anyPre p,e < i) (hl:l.size=pre.size) (hi:i < pre.size):i ∈ Region.ready .any (pre.push o) (l.push false)↔i ∈ Region.ready .any pre l:=by
 rw [mem_ready,mem_ready,I5 hi,nJ (by omega)]
 have ho:pre[i]? = some pre[i]:=by simp [hi]
 rw [ho]
 have h1:∀ d ∈ pre[i].after,Region.binds .any d=true→(l.push false).getD d.on false=l.getD d.on false:=fun d hd hb=>nJ (by have:=hlt i _ ho d.on (kZ.2 ⟨d,hd,hb,rfl⟩); omega)
 constructor
 · rintro ⟨a,p,hp,hall⟩; cases hp; exact ⟨a,_,rfl,fun d hd hb=>(h1 d hd hb).symm.trans (hall d hd hb)⟩
 · rintro ⟨a,p,hp,hall⟩; cases hp; exact ⟨a,_,rfl,fun d hd hb=>(h1 d hd hb).trans (hall d hd hb)⟩
theorem aUa {ops:Array Oper} {l:Array Bool} (hl:∀ i,i < ops.size→l.getD i true=true) {a:Act} {w:World} (q:Q .normal a w):∀ fuel,wpAny P .any ops Q fuel l a w:=by
 have hr:Region.ready .any ops l=[]:=by
   rw [rE]
   intro i hi
   obtain ⟨h1,p,hp,_⟩:=mem_ready.1 hi
   have:=hl i (aR.1 hp).1
   rw [h1] at this; cases this
 intro fuel
 cases fuel with
 | zero=>exact ⟨hr,q⟩
 | succ f=>exact ⟨fun _=>q,fun i hi=>by rw [hr] at hi; cases hi⟩
theorem W4 (hg:aCo pre=true) {i:Nat} {p:Oper} (hp:pre[i]? = some p) (ts:Array Value):Region.wanted p (yielded (pre.push o) ts)=Region.wanted p (yielded pre ts):=by
 simp only [aCo,aV] at hg
 have:=hg p (Array.mem_toList_iff.2 (Array.mem_of_getElem? hp))
 unfold Region.wanted
 cases hq:p.guard with
 | none=>rfl
 | some q=>
   obtain ⟨j,b⟩:=q
   rw [hq] at this
   simp only [decide_eq_true_eq] at this
   simp only [yielded,I5 this]
theorem uC {o:Oper} {a:Act} {w:World} {K:Act→World→Prop} {Q Q':Exit→Act→World→Prop} (hQ:∀ x a w,x ≠ .normal→Q x a w→Q' x a w) (hL:LetsOut Q→LetsOut Q') (h:o.wp P a w K Q):o.wp P a w K Q':=by
 unfold Oper.wp at *
 generalize (execOp a.eval o).run P w=r at *
 cases r with
 | ok n w'=>
   cases n <;> simp only [Oper.upon] at h ⊢ <;> first
     | exact h
     | exact Calls.mono h (fun e w'' he=>by cases e <;> first | exact he | exact hQ _ _ _ (by simp) he | exact hL he)
 | halt x w'=>cases x <;> simp only [Oper.upon] at h ⊢ <;> first | exact h | exact hQ _ _ _ (by simp) h
theorem aOc (hlt:∀ i p,pre[i]? = some p→∀ e ∈ anyPre p,e < i) (hL:aFv pre o=true) (hg:aCo pre=true) :
   ∀ (fuel:Nat) (l:Array Bool),l.size=pre.size→Cl pre l→∀ (a:Act) (w:World),wpAny P .any pre (A6 P pre o Q) fuel l a w→wpAny P .any (pre.push o) Q (fuel+1) (l.push false) a w:=by
 have hn:(pre.push o)[pre.size]? = some o:=by simp
 have hdl:∀ e ∈ anyPre o,e < pre.size:=by
   simp only [aFv,aB,aV,decide_eq_true_eq] at hL
   exact hL.1
 have fin:∀ (fuel:Nat) (l:Array Bool),l.size=pre.size→(∀ i,i < pre.size→l.getD i false=true)→∀ (a:Act) (w:World),A6 P pre o Q .normal a w→wpAny P .any (pre.push o) Q (fuel+1) (l.push false) a w:=by
   intro fuel l hl hall a w hB
   have hmem:pre.size ∈ Region.ready .any (pre.push o) (l.push false):=by
     rw [mem_ready]
     refine ⟨by rw [← hl]; exact aJl,o,hn,fun d hd hb=>?_⟩
     have:=hdl d.on (kZ.2 ⟨d,hd,hb,rfl⟩)
     rw [nJ (by omega)]
     exact hall _ this
   refine ⟨fun hr=>(by rw [hr] at hmem; cases hmem),fun i hi=>?_⟩
   have hlt2:i < pre.size+1:=by
     obtain ⟨_,p,hp,_⟩:=mem_ready.1 hi
     have:=(aR.1 hp).1
     simpa using this
   by_cases hin:i < pre.size
   · have h1:=(mem_ready.1 hi).1
     rw [nJ (by omega)] at h1
     have h2:=hall i hin
     have hli:i < l.size:=by omega
     simp [Array.getD,hli] at h1 h2
     rw [h1] at h2; cases h2
   · obtain rfl:i=pre.size:=by omega
     refine wpOp_mono (fun a w q=>aUa (fun k hk=>?_) q fuel) hB
     rw [Array.size_push] at hk
     by_cases hk2:k < pre.size
     · have h2:=hall k hk2
       have hkl:k < l.size:=by omega
       have:((l.push false).setIfInBounds pre.size true).getD k true=l.getD k false:=by
         rw [getD_set_ne true (by omega),nJ hkl]
         simp [Array.getD,hkl]
       rw [this]; exact h2
     · obtain rfl:k=pre.size:=by omega
       rw [← hl]; simp [Array.getD]
 intro fuel
 induction fuel with
 | zero=>
   intro l hl hc a w h
   exact fin 0 l hl (aJm hlt hl h.1) a w h.2
 | succ fuel ih=>
   intro l hl hc a w h
   by_cases hr:Region.ready .any pre l=[]
   · exact fin (fuel+1) l hl (aJm hlt hl hr) a w (h.1 hr)
   · refine ⟨fun hr'=>?_,fun i hi=>?_⟩
     · obtain ⟨k,hk⟩:=List.exists_mem_of_ne_nil _ hr
       have hkl:k < pre.size:=by obtain ⟨_,p,hp,_⟩:=mem_ready.1 hk; exact (aR.1 hp).1
       have:=(D3 (o:=o) hlt hl hkl).2 hk
       rw [hr'] at this; cases this
     · have hlt2:i < pre.size+1:=by
         obtain ⟨_,p,hp,_⟩:=mem_ready.1 hi
         have:=(aR.1 hp).1
         simpa using this
       by_cases hin:i < pre.size
       · have hi':=(D3 hlt hl hin).1 hi
         have h2:=h.2 i hi'
         have hp:pre[i]? = some pre[i]:=by simp [hin]
         have hli:i < l.size:=by omega
         have hset:(l.push false).setIfInBounds i true=(l.setIfInBounds i true).push false:=by
           apply Array.ext
           · simp
           · intro k h1 h2
             have q1:=cV (xs:=l.push false) (i:=i) (j:=k) (a:=true)
             rw [cI h1] at q1
             have q2:=fP (xs:=l.setIfInBounds i true) (x:=false) (i:=k)
             rw [cI h2] at q2
             apply iE
             rw [q1,q2,cV,fP]
             simp only [Array.size_push,Array.size_setIfInBounds]
             by_cases hik:i=k
             · subst hik; rw [if_pos rfl,if_pos (by omega),if_neg (by omega),if_pos rfl,if_pos hli]
             · rw [if_neg hik]
               by_cases hkl:k=l.size
               · rw [if_pos hkl,if_pos hkl]
               · rw [if_neg hkl,if_neg hkl,if_neg hik]
         have K:∀ a w,wpAny P .any pre (A6 P pre o Q) fuel (l.setIfInBounds i true) a w→wpAny P .any (pre.push o) Q (fuel+1) ((l.push false).setIfInBounds i true) a w:=fun a w q=>by
           rw [hset]
           refine ih _ (by simp [hl]) ?_ a w q
           intro k p hp' hk e he
           by_cases hik:i=k
           · subst hik
             obtain ⟨_,p2,hp2,hall⟩:=mem_ready.1 hi'
             rw [hp'] at hp2; cases hp2
             obtain ⟨d,hd1,hd2,rfl⟩:=kZ.1 he
             have:=hlt _ _ hp' d.on he
             rw [getD_set_ne false (by omega)]
             exact hall d hd1 hd2
           · rw [getD_set_ne false hik] at hk
             have:=hc k p hp' hk e he
             by_cases hie:i=e
             · subst hie; simp [Array.getD,hli]
             · rw [getD_set_ne false hie]; exact this
         unfold wpOp at h2 ⊢
         rw [I5 hin,hp]
         rw [hp] at h2
         dsimp only at h2 ⊢
         rw [W4 hg hp]
         by_cases hw:Region.wanted pre[i] (yielded pre a.tmps)=true
         · rw [if_pos hw] at h2 ⊢
           have up:LetsOut (A6 P pre o Q)→LetsOut Q:=fun ⟨a,w,q⟩=>⟨a,w,q⟩
           rcases h2 with h2 | ⟨h2,h3⟩
           · exact .inl (uC (fun x a w hx q=>by cases x <;> first | exact absurd rfl hx | exact q) up (Oper.wp_mono K h2))
           · exact .inr ⟨h2,up h3⟩
         · rw [if_neg hw] at h2 ⊢
           exact K _ _ h2
       · obtain rfl:i=pre.size:=by omega
         exfalso
         apply hr
         have hall:=aRm hL hc (fun e he=>by
           obtain ⟨_,p,hp,hd⟩:=mem_ready.1 hi
           rw [hn] at hp; cases hp
           obtain ⟨d,hd1,hd2,rfl⟩:=kZ.1 he
           have:=hd d hd1 hd2
           rwa [nJ (by have:=hdl _ he; omega)] at this)
         rw [rE]
         intro k hk
         obtain ⟨h1,p,hp,_⟩:=mem_ready.1 hk
         have hkl:=(aR.1 hp).1
         have h2:=hall k hkl
         have hkl':k < l.size:=by omega
         simp [Array.getD,hkl'] at h1 h2
         rw [h1] at h2; cases h2
end
section
variable {P:Program} {G:Md} {N:DR} {rx:RX} {pre:Array Oper} {o:Oper}
def O4 (pre:Array Oper):List Oper→Bool
 | []=>true
 | o::l=>(aFv pre o && aCo pre) && ((match o.guard with | some (j,_)=>decide (j < pre.size) | Option.none=>true) && O4 (pre.push o) l)
def aBg (P:Program) (ops:Array Oper) (l:List Oper) (Q:Exit→Act→World→Prop):Exit→Act→World→Prop
 | .normal,a,w=>wpList P ops Q l a w
 | x,a,w=>Q x a w
theorem mC {ops:Array Oper} {Q Q':Exit→Act→World→Prop} (hQ:∀ x a w,Q x a w→Q' x a w):∀ (fuel:Nat) (l:Array Bool) (a:Act) (w:World),wpAny P .any ops Q fuel l a w→wpAny P .any ops Q' fuel l a w
 | 0,l,a,w,h=>⟨h.1,hQ _ _ _ h.2⟩
 | fuel+1,l,a,w,h=>⟨fun hr=>hQ _ _ _ (h.1 hr),fun i hi=>by
     have h2:=h.2 i hi
     unfold wpOp at h2 ⊢
     have up:LetsOut Q→LetsOut Q':=fun ⟨a,w,q⟩=>⟨a,w,hQ _ _ _ q⟩
     split
     · rename_i ho; rw [ho] at h2; exact mC hQ fuel _ a w h2
     · rename_i o ho
       rw [ho] at h2
       dsimp only at h2
       split
       · rename_i hw; rw [if_pos hw] at h2
         rcases h2 with h2 | ⟨h2,h3⟩
         · exact .inl (uC (fun x a w _ q=>hQ x a w q) up (Oper.wp_mono (fun a w q=>mC hQ fuel _ a w q) h2))
         · exact .inr ⟨h2,up h3⟩
       · rename_i hw; rw [if_neg hw] at h2
         exact mC hQ fuel _ _ w h2⟩
theorem aEj {pre full:Array Oper} {p:Oper} (hg:∀ j b,p.guard=some (j,b)→j < pre.size∧full[j]? = pre[j]?) (ts:Array Value):Region.wanted p (yielded full ts)=Region.wanted p (yielded pre ts):=by
 unfold Region.wanted
 cases hq:p.guard with
 | none=>rfl
 | some q=>
   obtain ⟨j,b⟩:=q
   obtain ⟨h1,h2⟩:=hg j b hq
   simp only [yielded,h2]
theorem aEb:∀ (l:List Oper) (pre:Array Oper),(∀ i p,pre[i]? = some p→∀ e ∈ anyPre p,e < i)→O4 pre l=true→∀ (Q:Exit→Act→World→Prop) (a:Act) (w:World) (fuel:Nat),
   wpAny P .any pre (aBg P (pre++l.toArray) l Q) fuel (Array.replicate pre.size false) a w→wpAny P .any (pre++l.toArray) Q (fuel+l.length) (Array.replicate (pre++l.toArray).size false) a w
 | [],pre,hlt,ht,Q,a,w,fuel,h=>by
   have e:pre++([]:List Oper).toArray=pre:=by simp
   rw [e] at h ⊢
   exact mC (fun x a w q=>by cases x <;> exact q) _ _ _ _ h
 | o :: l,pre,hlt,ht,Q,a,w,fuel,h=>by
   simp only [O4,aB] at ht
   obtain ⟨⟨hL,hg⟩,hgo,ht⟩:=ht
   have e:pre++(o::l).toArray=pre.push o++l.toArray:=by apply Array.ext'; simp
   have hdl:∀ e ∈ anyPre o,e < pre.size:=by
     have hL:=hL
     simp only [aFv,aB,aV,decide_eq_true_eq] at hL
     exact hL.1
   have hlt1:∀ i p,(pre.push o)[i]? = some p→∀ e ∈ anyPre p,e < i:=by
     intro i p hp e he
     rw [fP] at hp
     split at hp
     · rename_i hi; cases hp; rw [hi]; exact hdl e he
     · exact hlt i p hp e he
   rw [e] at h ⊢
   rw [aD,show fuel+(l.length+1)=fuel+1+l.length by omega]
   refine aEb l (pre.push o) hlt1 ht Q a w (fuel+1) ?_
   have e1:(pre.push o).size=pre.size+1:=by simp
   have e2:Array.replicate (pre.size+1) false=(Array.replicate pre.size false).push false:=by
     apply Array.ext
     · simp
     · intro k h1 h2; simp [Array.getElem_push]
   rw [e1,e2]
   refine aOc hlt hL hg _ _ (by simp) ?_ a w (mC ?_ _ _ _ _ h)
   · intro i p hp hi
     exfalso
     have:=(aR.1 hp).1
     simp [Array.getD,this] at hi
   · intro x a w q
     cases x with
     | normal=>
       simp only [aBg,A6] at q ⊢
       have hn:(pre.push o)[pre.size]? = some o:=by simp
       unfold wpOp
       rw [hn]
       dsimp only
       simp only [wpList] at q
       have hw:Region.wanted o (yielded (pre.push o++l.toArray) a.tmps)=Region.wanted o (yielded (pre.push o) a.tmps):=aEj (fun j b hj=>by
         rw [hj] at hgo
         simp only [decide_eq_true_eq] at hgo
         exact ⟨by rw [e1]; omega,fF (by rw [e1]; omega)⟩) _
       rw [hw] at q
       split
       · rename_i hw2; rw [if_pos hw2] at q
         have up:LetsOut Q→LetsOut (aBg P (pre.push o++l.toArray) l Q):=fun ⟨a,w,q⟩=>⟨a,w,q⟩
         rcases q with q | ⟨q,q3⟩
         · exact .inl (uC (fun x a w hx q=>by cases x <;> first | exact absurd rfl hx | exact q) up q)
         · exact .inr ⟨q,up q3⟩
       · rename_i hw2; rw [if_neg hw2] at q; exact q
     | _=>exact q
theorem aMe (hm:P.follows .mixedOrders=true) {id:Nat} {l:List Oper} (hd:F4 rx pre=true) (ht:O4 pre l=true) {al:List fI} {al2:List fI} (hl:dK rx pre (lI pre)=some al) (ho:dK .off (pre++l.toArray) l=some al2)
   {K:List AV→List AObj→Prop} {env:List AV} {h:List AObj} {X:Ctx} {w:World} {a:Act} {Q:Exit→Act→World→Prop}
   (e:dB P G (some N) al (fun env h=>dB P G Option.none al2 K env h) env h) (g:GH G X w h) (r:EnvOK G.ds X w h env a) (hQ:∀ a' w',C5 G X w h K a' w'→Q .normal a' w')
   (hP:∀ v a' w',C5 G X w h (G.pan v) a' w'→Q (.panic [{ v:=v,recovered:=false }]) a' w'):(Code.region id (pre++l.toArray) true).wp P Q a w:=by
 have D:=aVy hd
 refine wp_region_any hm ?_
 rw [show (pre++l.toArray).size=pre.size+l.length by simp]
 have:=aEb (P:=P) l pre (fun i p hp=>D.lt i p hp) ht Q a { w with drawn:=w.drawn+1 } pre.size (aDb hd hl e g r ?_)
 · rw [show (pre++l.toArray).size=pre.size+l.length by simp] at this
   exact this
 · rintro a' w' ⟨env',h',X',k1,k2,k3,k4⟩
   exact K6 (ops:=pre++l.toArray) (Q:=Q) l al2 ho env' h' X' w' a' k1 k2 k3 (fun a2 w2 ⟨env2,h2,X2,m1,m2,m3,m4⟩=>hQ a2 w2 ⟨env2,h2,X2,m1,m2,m3,k4.trans m4⟩)
     (fun _ v a2 w2 ⟨env2,h2,X2,m1,m2,m3,m4⟩=>hP v a2 w2 ⟨env2,h2,X2,m1,m2,m3,k4.trans m4⟩)
end

def kC:Option TH→Bool
 | some t=>t.split
 | Option.none=>false
def jX:Option TH→Nat
 | some t=>t.k
 | Option.none=>0
def lG:List Oper→List Oper × List Oper
 | []=>([],[])
 | [o]=>([],[o])
 | a::b::l=>(a::(lG (b::l)).1,(lG (b::l)).2)
def splitK:Nat→List Oper→List Oper × List Oper
 | 0,l=>([],l)
 | _+1,[]=>([],[])
 | k+1,a::l=>(a::(splitK k l).1,(splitK k l).2)
def kS (k:Nat) (l:List Oper):List Oper × List Oper:=
 match k with
 | 0=>lG l
 | k+1=>splitK (k+1) l
theorem O9:∀ (l:List Oper),l=(lG l).1++(lG l).2
 | []=>rfl
 | [a]=>rfl
 | a::b::l=>by rw [lG,aU,← O9 (b::l)]
theorem P0:∀ (k:Nat) (l:List Oper),l=(splitK k l).1++(splitK k l).2
 | 0,l=>rfl
 | _+1,[]=>rfl
 | k+1,a::l=>by rw [splitK,aU,← P0 k l]
theorem aIn (k:Nat) (l:List Oper):l=(kS k l).1++(kS k l).2:=by
 cases k with
 | zero=>exact O9 l
 | succ k=>exact P0 _ l
def aVp (rx:RX) (k:Nat) (ops:Array Oper):Bool:=F4 rx (kS k ops.toList).1.toArray && O4 (kS k ops.toList).1.toArray (kS k ops.toList).2
def strip (rx:Bool) (th:Nat→Option TH):Code→Option lD
 | .skip=>some .skip
 | .region id ops true=>match kC (th id) with
   | true=>match dK (A7 rx (th id)) (kS (jX (th id)) ops.toList).1.toArray (lI (kS (jX (th id)) ops.toList).1.toArray),dK .off ops (kS (jX (th id)) ops.toList).2 with
     | some l,some a=>some (.seq (.draw (th id) l) (.region a))
     | _,_=>Option.none
   | false=>match dK (A7 rx (th id)) ops (lI ops) with
     | some l=>some (.draw (th id) l)
     | Option.none=>Option.none
 | .region _ ops false=>match dK .off ops ops.toList with
   | some l=>some (.region l)
   | Option.none=>Option.none
 | .seq a b=>match strip rx th a,strip rx th b with
   | some x,some y=>some (.seq x y)
   | _,_=>Option.none
 | .cond c a b=>match strip rx th a,strip rx th b with
   | some x,some y=>some (.cond c x y)
   | _,_=>Option.none
 | .block id c=>match strip rx th c with
   | some x=>some (.block id x)
   | Option.none=>Option.none
 | .loop c=>match strip rx th c with
   | some x=>some (.loop x)
   | Option.none=>Option.none
 | .exit id=>some (.exit id)
 | .ret=>some .ret
 | _=>Option.none

def iY (rx:Bool) (th:Nat→Option TH):Code→Bool
 | .region id ops true=>match kC (th id) with
   | true=>aVp (A7 rx (th id)) (jX (th id)) ops
   | false=>F4 (A7 rx (th id)) ops
 | .seq a b | .cond _ a b=>iY rx th a && iY rx th b
 | .block _ c | .loop c=>iY rx th c
 | _=>true

section
variable {P:Program} {G:Md} {rx:Bool} {th:Nat→Option TH}

theorem aEh {c:Code} {S:Type} (I:S→Act→World→Prop) (μ:S→Nat) {Q:Exit→Act→World→Prop} (s0:S) {a:Act} {w:World} (h₀:I s0 a w)
   (round:∀ s a w,I s a w→c.wp P (Exit.then (fun a' w'=>∃ s',I s' a' w'∧μ s' < μ s) Q) a w):(Code.loop c).wp P Q a w:=by
 intro b k cs
 have key:∀ n s a w,μ s=n→I s a w →
     ∃ e a' w',Q e a' w'∧Arrives P (lone (b.at a (.code c::.inLoop c::k)) cs w) b k cs e a' w':=by
   intro n
   induction n using Nat.strongRecOn with
   | _ n ih=>
     intro s a w hn hI
     obtain ⟨e,a₁,w₁,hq,harr⟩:=round s a w hI b (.inLoop c::k) cs
     cases e with
     | normal=>
       obtain ⟨s',hI₁,hlt⟩:=hq
       obtain ⟨e₂,a₂,w₂,hq₂,harr₂⟩:=ih (μ s') (hn ▸ hlt) s' a₁ w₁ rfl hI₁
       exact ⟨e₂,a₂,w₂,hq₂,.of_steps (Steps.trans harr (.one step_inLoop)) harr₂⟩
     | exit id=>exact ⟨_,a₁,w₁,hq,.pass (x:=.inLoop c) rfl (fun _ _=>.inl (by simp)) harr⟩
     | goto l=>exact ⟨_,a₁,w₁,hq,.pass (x:=.inLoop c) rfl (fun _ _=>.inl (by simp)) harr⟩
     | ret=>exact ⟨_,a₁,w₁,hq,.pass (x:=.inLoop c) rfl (fun _ _=>.inl (by simp)) harr⟩
     | panic ch=>exact ⟨_,a₁,w₁,hq,.pass (x:=.inLoop c) rfl (fun _ _=>.inl (by simp)) harr⟩
     | outgrown=>exact ⟨_,a₁,w₁,hq,.pass (x:=.inLoop c) rfl (fun _ _=>.inl (by simp)) harr⟩
 obtain ⟨e,a',w',hq,harr⟩:=key _ s0 a w rfl h₀
 exact ⟨e,a',w',hq,.of_steps (.one step_loop) harr⟩

theorem C5.trans {X X1:Ctx} {w w1:World} {h h1:List AObj} {K:List AV→List AObj→Prop} {a':Act} {w':World} (t:Tr X w h X1 w1 h1) (k:C5 G X1 w1 h1 K a' w'):C5 G X w h K a' w':=by
 obtain ⟨env',h',X',k1,k2,k3,k4⟩:=k
 exact ⟨env',h',X',k1,k2,k3,t.trans k4⟩

theorem oV (hm:P.follows .mixedOrders=true):∀ (c:Code) (ac:lD),iY rx th c=true→strip rx th c=some ac→∀ (Q:Exit→List AV→List AObj→Prop) (env:List AV) (h:List AObj),awx P G ac Q env h→AW P G c Q env h
 | .skip,ac,hd,hs,Q,env,h,e=>by
   simp only [strip,aA] at hs; subst hs
   intro X w a g r
   exact wp_skip ⟨env,h,X,e,g,r,.refl _ _ _⟩
 | .region id ops false,ac,hd,hs,Q,env,h,e=>by
   simp only [strip] at hs
   cases hl:dK .off ops ops.toList with
   | none=>simp [hl] at hs
   | some al=>
     simp only [hl,aA] at hs
     subst hs
     intro X w a g r
     exact wp_region_list (K6 ops.toList al hl env h X w a e g r (fun a' w' k=>k) (fun _ v a' w' ⟨env2,h2,X2,m1,m2,m3,m4⟩=>⟨env2,h2,X2,⟨v,rfl,m1⟩,m2,m3,m4⟩))
 | .region id ops true,ac,hd,hs,Q,env,h,e=>by
   simp only [strip] at hs
   simp only [iY] at hd
   cases hq:kC (th id) with
   | true=>
     rw [hq] at hs hd
     simp only [aVp,aB] at hs hd
     have he:=aIn (jX (th id)) ops.toList
     generalize kS (jX (th id)) ops.toList=q at hs hd he
     obtain ⟨p,l⟩:=q
     have hops:ops=p.toArray++l.toArray:=by
       apply Array.ext'
       rw [he]; simp
     split at hs
     · rename_i al a' h2 h3
       simp only [aA] at hs
       subst hs
       intro X w a g r
       rw [hops]
       exact aMe hm hd.1 hd.2 h2 (hops ▸ h3) e g r (fun a' w' k=>k) (fun v a' w' ⟨env2,h2,X2,m1,m2,m3,m4⟩=>⟨env2,h2,X2,⟨v,rfl,m1⟩,m2,m3,m4⟩)
     · cases hs
   | false=>
   rw [hq] at hs hd
   simp only at hs hd
   cases hl:dK (A7 rx (th id)) ops (lI ops) with
   | none=>simp [hl] at hs
   | some al=>
     simp only [hl,aA] at hs
     subst hs
     intro X w a g r
     exact bAp hm hd hl e g r (fun a' w' k=>k)
 | .seq x y,ac,hd,hs,Q,env,h,e=>by
   simp only [iY,aB] at hd
   simp only [strip] at hs
   cases hx:strip rx th x with
   | none=>simp [hx] at hs
   | some ax=>
   cases hy:strip rx th y with
   | none=>simp [hx,hy] at hs
   | some ay=>
     simp only [hx,hy,aA] at hs
     subst hs
     intro X w a g r
     refine wp_seq (wp_mono (oV hm x ax hd.1 hx _ env h e X w a g r) ?_)
     intro e' a' w' k
     cases e' with
     | normal=>
       obtain ⟨env',h',X',k1,k2,k3,k4⟩:=k
       exact wp_mono (oV hm y ay hd.2 hy _ env' h' k1 X' w' a' k2 k3) (fun e2 a2 w2 k5=>k5.trans k4)
     | _=>exact k
 | .cond c x y,ac,hd,hs,Q,env,h,e=>by
   simp only [iY,aB] at hd
   simp only [strip] at hs
   cases hx:strip rx th x with
   | none=>simp [hx] at hs
   | some ax=>
   cases hy:strip rx th y with
   | none=>simp [hx,hy] at hs
   | some ay=>
     simp only [hx,hy,aA] at hs
     subst hs
     intro X w a g r
     have rc:=gR g r c
     simp only [awx] at e
     cases hc:aev G env c with
     | b t=>
       rw [hc] at e rc
       have hv:=aAt rc
       cases t with
       | true=>exact wp_cond_true hv (oV hm x ax hd.1 hx _ env h (e.1 rfl) X w a g r)
       | false=>exact wp_cond_false hv (oV hm y ay hd.2 hy _ env h (e.2 rfl) X w a g r)
     | _=>rw [hc] at e; exact e.elim
 | .block id c,ac,hd,hs,Q,env,h,e=>by
   simp only [iY] at hd
   simp only [strip] at hs
   cases hx:strip rx th c with
   | none=>simp [hx] at hs
   | some ax=>
     simp only [hx,aA] at hs
     subst hs
     intro X w a g r
     refine wp_block (wp_mono (oV hm c ax hd hx _ env h e X w a g r) ?_)
     intro e' a' w' k
     cases e' with
     | exit i=>
       simp only [Exit.inBlock]
       obtain ⟨env',h',X',k1,k2,k3,k4⟩:=k
       simp only [bKg,zM] at k1
       split
       · rename_i hi; rw [if_pos hi] at k1; exact ⟨env',h',X',k1,k2,k3,k4⟩
       · rename_i hi; rw [if_neg hi] at k1; exact ⟨env',h',X',k1,k2,k3,k4⟩
     | _=>exact k
 | .loop c,ac,hd,hs,Q,env,h,e=>by
   simp only [iY] at hd
   simp only [strip] at hs
   cases hx:strip rx th c with
   | none=>simp [hx] at hs
   | some ax=>
     simp only [hx,aA] at hs
     subst hs
     intro X w a g r
     simp only [awx,Loop] at e
     obtain ⟨S,I,μ,s0,h0,hround⟩:=e
     refine aEh (S:=S × List AV × List AObj × Ctx) (fun s a' w'=>I s.1 s.2.1 s.2.2.1∧GH G s.2.2.2 w' s.2.2.1∧EnvOK G.ds s.2.2.2 w' s.2.2.1 s.2.1 a'∧Tr X w h s.2.2.2 w' s.2.2.1) (fun s=>μ s.1) (s0,env,h,X) ⟨h0,g,r,.refl _ _ _⟩ ?_
     rintro ⟨s1,env1,h1,X1⟩ a1 w1 ⟨i1,g1,r1,t1⟩
     refine wp_mono (oV hm c ax hd hx _ env1 h1 (hround s1 env1 h1 i1) X1 w1 a1 g1 r1) ?_
     intro e' a' w' k
     cases e' with
     | normal=>
       obtain ⟨env',h',X',⟨s',k1,k1'⟩,k2,k3,k4⟩:=k
       exact ⟨(s',env',h',X'),⟨k1,k2,k3,t1.trans k4⟩,k1'⟩
     | _=>exact k.trans t1
 | .exit id,ac,hd,hs,Q,env,h,e=>by
   simp only [strip,aA] at hs; subst hs
   intro X w a g r
   exact wp_exit ⟨env,h,X,e,g,r,.refl _ _ _⟩
 | .ret,ac,hd,hs,Q,env,h,e=>by
   simp only [strip,aA] at hs; subst hs
   intro X w a g r
   exact wp_ret ⟨env,h,X,e,g,r,.refl _ _ _⟩
 | .rangeFunc _ _ _ _,ac,hd,hs,Q,env,h,e=>by simp [strip] at hs
 | .scope _,ac,hd,hs,Q,env,h,e=>by simp [strip] at hs
 | .label _,ac,hd,hs,Q,env,h,e=>by simp [strip] at hs
 | .goto _,ac,hd,hs,Q,env,h,e=>by simp [strip] at hs
 | .refuse _,ac,hd,hs,Q,env,h,e=>by simp [strip] at hs
end

mutual
def cD:AV→AV→List Nat
 | .hs id _ _ _,.own .. => [id]
 | .agg xs,.agg rs=>finIdsL xs rs
 | .tup xs,.tup rs=>finIdsL xs rs
 | _,_=>[]
def finIdsL:List AV→List AV→List Nat
 | x::xs,r::rs=>cD x r++finIdsL xs rs
 | _,_=>[]
end
mutual
def iW (h:List AObj):AV→AV→List Nat
 | .hs _ _ _ _,.own .. => []
 | .e0,.own .. => []
 | .agg xs,.agg rs=>finRchL h xs rs
 | .tup xs,.tup rs=>finRchL h xs rs
 | x,_=>dJ dep h x
def finRchL (h:List AObj):List AV→List AV→List Nat
 | x::xs,r::rs=>iW h x r++finRchL h xs rs
 | _,_=>[]
end
mutual
def kQ (h:List AObj):AV→AV→Prop
 | .hs id off n t,.own sz cells m=>t=false∧m=n∧∃ cs,h[id]? = some (.arr false sz cs)∧off+n * sz≤cs.length∧cells=(cs.drop off).take (n * sz)∧persL cells=true
 | .e0,.own sz cells m=>cells=[]∧m=0
 | .agg xs,.agg rs=>finOKL h xs rs
 | .tup xs,.tup rs=>finOKL h xs rs
 | x,r=>r=fU dep h x
def finOKL (h:List AObj):List AV→List AV→Prop
 | [],[]=>True
 | x::xs,r::rs=>kQ h x r∧finOKL h xs rs
 | _,_=>False
end

def Fin (h:List AObj) (x r:AV):Prop:=(r=x∧pers x=true)∨(kQ h x r∧(cD x r).Nodup∧∀ i ∈ cD x r,i ∉ iW h x r)

def FB (X:Ctx) (ids:List Nat) (b:Nat):Prop:=X.F b∨∃ id o,id ∉ ids∧X.ι id=some (b,o)

section
variable {P:Program} {G:Glob} {D:List Deferred} {X:Ctx} {w:World} {h:List AObj}

def M6 (X:Ctx) (ids:List Nat):List Nat:=ids.filterMap fun i=>(X.ι i).map (·.1)
theorem aAv (X:Ctx) (a b:List Nat):M6 X (a++b)=M6 X a++M6 X b:=by simp [M6]
theorem aDr {X:Ctx} {ids:List Nat} {b:Nat} (hb:b ∈ M6 X ids):∃ id ∈ ids,∃ o,X.ι id=some (b,o):=by
 simp only [M6,List.mem_filterMap,bG] at hb
 obtain ⟨id,hi,⟨c,o⟩,hc,rfl⟩:=hb
 exact ⟨id,hi,o,hc⟩
theorem F8 (g:GH G X w h):∀ {ids:List Nat},ids.Nodup→(M6 X ids).Nodup
 | [],_=>by simp [M6]
 | id::ids,hn=>by
   rw [oR] at hn
   have ih:=F8 g hn.2
   simp only [M6,kP]
   cases hb:X.ι id with
   | none=>simp only [Option.map_none]; exact ih
   | some bo=>
     obtain ⟨b,o⟩:=bo
     simp only [hb,cG]
     rw [oR]
     refine ⟨fun hm=>?_,ih⟩
     obtain ⟨id',hi',o',ho'⟩:=aDr (X:=X) (ids:=ids) hm
     exact hn.1 (g.inj _ _ _ _ _ hb ho' ▸ hi')

theorem iG (g:GH G X w h) (ids:List Nat) {x:AV} {v:Value} (r:RV X w h x v) (hd:∀ i ∈ ids,i ∉ dJ dep h x):RR (FB X ids) w (fU dep h x) v []:=by
 refine RR.val ((xK g dep x v r).monoF ?_)
 rintro b (hb | ⟨id,hi,o,ho⟩)
 · exact .inl hb
 · exact .inr ⟨id,o,fun hm=>hd id hm hi,ho⟩

mutual
theorem aVv (g:GH G X w h) (ids:List Nat):∀ (x r:AV) (v:Value),kQ h x r→RV X w h x v→(∀ i ∈ ids,i ∉ iW h x r)→RR (FB X ids) w r v (M6 X (cD x r))
 | .hs id off n t,r,v,e,rv,hd=>by
   have gen:kQ h (.hs id off n t) r=(r=fU dep h (.hs id off n t))→cD (.hs id off n t) r=[]→iW h (.hs id off n t) r=dJ dep h (.hs id off n t)→RR (FB X ids) w r v (M6 X (cD (.hs id off n t) r)):=by
     intro e1 e2 e3
     rw [e1] at e
     rw [e2,e]
     rw [e3] at hd
     exact iG g ids rv hd
   cases r with
   | own sz cells m=>
     clear gen
     simp only [kQ] at e
     obtain ⟨rfl,rfl,cs,hid,hle,rfl,hp⟩:=e
     simp only [cD,RR]
     cases rv with
     | dead hr hd' _=>simp [AV.refs] at hr; subst hr; rw [hid] at hd'; cases hd'
     | hs0 hid' hf ho=>exact .inr ⟨by simp,rfl,_,rfl⟩
     | @hs _ _ _ _ fz' s' cells' b o cap T N hid' hι hsh hn hcc hN htt hff=>
       rw [hid] at hid'; cases hid'
       have ok:=g.objs _ _ hid
       cases ok with
       | absent h0=>rw [h0] at hι; cases hι
       | @arr _ _ _ b' o' cur T' fr h0 hb hf1 hf2 hl h1 hr=>
       rw [h0] at hι; cases hι
       obtain ⟨hF,rfl⟩:=hf2 rfl
       have hNs:N=cur.size:=by simp [World.shape?,hb] at hsh; exact hsh.2.symm
       subst hNs
       refine .inl ⟨b,o+off,cur,T',cap,by simp [M6,h0],rfl,hb,by simp; omega,hcc,hN,?_,?_⟩
       · intro j u hj hu
         simp at hj
         exact h1 (off+j) u (by omega) (by rw [← cW]; exact hu)
       · intro j y u hy hu
         have hy':=hy
         rw [eG] at hy
         split at hy
         · rw [dT] at hy
           exact (hr (off+j) y u hy (by rw [← cW]; exact hu)).pers (gM hp j y hy') (fun b hb=>.inl hb) (fun _ _=>rfl)
         · cases hy
   | _=>exact gen rfl rfl rfl
 | .e0,r,v,e,rv,hd=>by
   have gen:kQ h .e0 r=(r=fU dep h .e0)→cD .e0 r=[]→iW h .e0 r=dJ dep h .e0→RR (FB X ids) w r v (M6 X (cD .e0 r)):=by
     intro e1 e2 e3
     rw [e1] at e
     rw [e2,e]
     rw [e3] at hd
     exact iG g ids rv hd
   cases r with
   | own sz cells m=>
     clear gen
     simp only [kQ] at e
     obtain ⟨rfl,rfl⟩:=e
     simp only [cD,RR]
     cases rv with
     | e0 a=>exact .inr ⟨trivial,trivial,a,rfl⟩
     | dead hr _ _=>simp [AV.refs] at hr
   | _=>exact gen rfl rfl rfl
 | .agg xs,r,v,e,rv,hd=>by
   have gen:kQ h (.agg xs) r=(r=fU dep h (.agg xs))→cD (.agg xs) r=[]→iW h (.agg xs) r=dJ dep h (.agg xs)→RR (FB X ids) w r v (M6 X (cD (.agg xs) r)):=by
     intro e1 e2 e3
     rw [e1] at e
     rw [e2,e]
     rw [e3] at hd
     exact iG g ids rv hd
   cases r with
   | agg rs=>
     clear gen
     simp only [kQ] at e
     simp only [cD]
     cases rv with
     | @agg _ vs hl h1 hr=>exact ⟨vs,rfl,h1,finL_ok g ids xs rs vs.toList e (by simpa using hl) (fun j a v ha hv=>hr j a v ha (by simpa using hv)) hd⟩
     | dead hr _ _=>simp [AV.refs] at hr
   | _=>exact gen rfl rfl rfl
 | .tup xs,r,v,e,rv,hd=>by
   have gen:kQ h (.tup xs) r=(r=fU dep h (.tup xs))→cD (.tup xs) r=[]→iW h (.tup xs) r=dJ dep h (.tup xs)→RR (FB X ids) w r v (M6 X (cD (.tup xs) r)):=by
     intro e1 e2 e3
     rw [e1] at e
     rw [e2,e]
     rw [e3] at hd
     exact iG g ids rv hd
   cases r with
   | tup rs=>
     clear gen
     simp only [kQ] at e
     simp only [cD]
     cases rv with
     | @tup _ vs hl hr=>exact ⟨vs,rfl,finL_ok g ids xs rs vs.toList e (by simpa using hl) (fun j a v ha hv=>hr j a v ha (by simpa using hv)) hd⟩
     | dead hr _ _=>simp [AV.refs] at hr
   | _=>exact gen rfl rfl rfl
 | .u,r,v,e,rv,hd=>by
   have e':r=fU dep h (.u):=by cases r <;> exact e
   have e2:cD (.u) r=[]:=by cases r <;> rfl
   have e3:iW h (.u) r=dJ dep h (.u):=by cases r <;> rfl
   rw [e2,e']
   rw [e3] at hd
   exact iG g ids rv hd
 | .b x,r,v,e,rv,hd=>by
   have e':r=fU dep h (.b x):=by cases r <;> exact e
   have e2:cD (.b x) r=[]:=by cases r <;> rfl
   have e3:iW h (.b x) r=dJ dep h (.b x):=by cases r <;> rfl
   rw [e2,e']
   rw [e3] at hd
   exact iG g ids rv hd
 | .i k n,r,v,e,rv,hd=>by
   have e':r=fU dep h (.i k n):=by cases r <;> exact e
   have e2:cD (.i k n) r=[]:=by cases r <;> rfl
   have e3:iW h (.i k n) r=dJ dep h (.i k n):=by cases r <;> rfl
   rw [e2,e']
   rw [e3] at hd
   exact iG g ids rv hd
 | .s l,r,v,e,rv,hd=>by
   have e':r=fU dep h (.s l):=by cases r <;> exact e
   have e2:cD (.s l) r=[]:=by cases r <;> rfl
   have e3:iW h (.s l) r=dJ dep h (.s l):=by cases r <;> rfl
   rw [e2,e']
   rw [e3] at hd
   exact iG g ids rv hd
 | .p v',r,v,e,rv,hd=>by
   have e':r=fU dep h (.p v'):=by cases r <;> exact e
   have e2:cD (.p v') r=[]:=by cases r <;> rfl
   have e3:iW h (.p v') r=dJ dep h (.p v'):=by cases r <;> rfl
   rw [e2,e']
   rw [e3] at hd
   exact iG g ids rv hd
 | .sl cells n,r,v,e,rv,hd=>by
   have e':r=fU dep h (.sl cells n):=by cases r <;> exact e
   have e2:cD (.sl cells n) r=[]:=by cases r <;> rfl
   have e3:iW h (.sl cells n) r=dJ dep h (.sl cells n):=by cases r <;> rfl
   rw [e2,e']
   rw [e3] at hd
   exact iG g ids rv hd
 | .own sz cells n,r,v,e,rv,hd=>by
   have e':r=fU dep h (.own sz cells n):=by cases r <;> exact e
   have e2:cD (.own sz cells n) r=[]:=by cases r <;> rfl
   have e3:iW h (.own sz cells n) r=dJ dep h (.own sz cells n):=by cases r <;> rfl
   rw [e2,e']
   rw [e3] at hd
   exact iG g ids rv hd
 | .ptr id off,r,v,e,rv,hd=>by
   have e':r=fU dep h (.ptr id off):=by cases r <;> exact e
   have e2:cD (.ptr id off) r=[]:=by cases r <;> rfl
   have e3:iW h (.ptr id off) r=dJ dep h (.ptr id off):=by cases r <;> rfl
   rw [e2,e']
   rw [e3] at hd
   exact iG g ids rv hd
 | .box cells off,r,v,e,rv,hd=>by
   have e':r=fU dep h (.box cells off):=by cases r <;> exact e
   have e2:cD (.box cells off) r=[]:=by cases r <;> rfl
   have e3:iW h (.box cells off) r=dJ dep h (.box cells off):=by cases r <;> rfl
   rw [e2,e']
   rw [e3] at hd
   exact iG g ids rv hd
 | .mp id,r,v,e,rv,hd=>by
   have e':r=fU dep h (.mp id):=by cases r <;> exact e
   have e2:cD (.mp id) r=[]:=by cases r <;> rfl
   have e3:iW h (.mp id) r=dJ dep h (.mp id):=by cases r <;> rfl
   rw [e2,e']
   rw [e3] at hd
   exact iG g ids rv hd
 | .mapv ks vs,r,v,e,rv,hd=>by
   have e':r=fU dep h (.mapv ks vs):=by cases r <;> exact e
   have e2:cD (.mapv ks vs) r=[]:=by cases r <;> rfl
   have e3:iW h (.mapv ks vs) r=dJ dep h (.mapv ks vs):=by cases r <;> rfl
   rw [e2,e']
   rw [e3] at hd
   exact iG g ids rv hd
 | .fn f first capt,r,v,e,rv,hd=>by
   have e':r=fU dep h (.fn f first capt):=by cases r <;> exact e
   have e2:cD (.fn f first capt) r=[]:=by cases r <;> rfl
   have e3:iW h (.fn f first capt) r=dJ dep h (.fn f first capt):=by cases r <;> rfl
   rw [e2,e']
   rw [e3] at hd
   exact iG g ids rv hd
theorem finL_ok (g:GH G X w h) (ids:List Nat):∀ (xs rs:List AV) (vs:List Value),finOKL h xs rs→xs.length=vs.length→(∀ (j:Nat) (a:AV) (v:Value),xs[j]? = some a→vs[j]? = some v→RV X w h a v)→(∀ i ∈ ids,i ∉ finRchL h xs rs) →
   RRs (FB X ids) w rs vs (M6 X (finIdsL xs rs))
 | [],[],[],e,hl,hr,hd=>by simp [finIdsL,M6,RRs]
 | x :: xs,r::rs,v::vs,e,hl,hr,hd=>by
   simp only [finOKL] at e
   simp only [finRchL] at hd
   simp only [finIdsL,aAv]
   exact ⟨_,_,rfl,aVv g ids x r v e.1 (hr 0 x v rfl rfl) (fun i hi hm=>hd i hi (fG _ hm)),
     finL_ok g ids xs rs vs e.2 (by simpa using hl) (fun j a v ha hv=>hr (j+1) a v (by simpa using ha) (by simpa using hv)) (fun i hi hm=>hd i hi (dY _ hm))⟩
 | [],r::rs,vs,e,hl,hr,hd=>by simp [finOKL] at e
 | x::xs,[],vs,e,hl,hr,hd=>by simp [finOKL] at e
 | [],[],_::_,e,hl,hr,hd=>by simp at hl
 | _::_,_::_,[],e,hl,hr,hd=>by simp at hl
end

mutual
theorem aCv:∀ (x r:AV),kQ h x r→∀ i ∈ cD x r,∃ sz cs,h[i]? = some (.arr false sz cs)
 | .hs id off n t,r,e,i,hi=>by
   cases r with
   | own sz cells m=>
     simp only [kQ] at e
     obtain ⟨rfl,rfl,cs,hid,_⟩:=e
     simp only [cD,bA] at hi
     subst hi
     exact ⟨_,_,hid⟩
   | _=>simp [cD] at hi
 | .agg xs,r,e,i,hi=>by
   cases r with
   | agg rs=>simp only [kQ] at e; simp only [cD] at hi; exact finL_live xs rs e i hi
   | _=>simp [cD] at hi
 | .tup xs,r,e,i,hi=>by
   cases r with
   | tup rs=>simp only [kQ] at e; simp only [cD] at hi; exact finL_live xs rs e i hi
   | _=>simp [cD] at hi
 | .e0,r,e,i,hi=>by cases r <;> simp [cD] at hi
 | .u,r,e,i,hi=>by cases r <;> simp [cD] at hi
 | .b x,r,e,i,hi=>by cases r <;> simp [cD] at hi
 | .i k n,r,e,i,hi=>by cases r <;> simp [cD] at hi
 | .s l,r,e,i,hi=>by cases r <;> simp [cD] at hi
 | .p v',r,e,i,hi=>by cases r <;> simp [cD] at hi
 | .sl cells n,r,e,i,hi=>by cases r <;> simp [cD] at hi
 | .own sz cells n,r,e,i,hi=>by cases r <;> simp [cD] at hi
 | .ptr id off,r,e,i,hi=>by cases r <;> simp [cD] at hi
 | .box cells off,r,e,i,hi=>by cases r <;> simp [cD] at hi
 | .mp id,r,e,i,hi=>by cases r <;> simp [cD] at hi
 | .mapv ks vs,r,e,i,hi=>by cases r <;> simp [cD] at hi
 | .fn f first capt,r,e,i,hi=>by cases r <;> simp [cD] at hi
theorem finL_live:∀ (xs rs:List AV),finOKL h xs rs→∀ i ∈ finIdsL xs rs,∃ sz cs,h[i]? = some (.arr false sz cs)
 | [],[],e,i,hi=>by simp [finIdsL] at hi
 | x::xs,r::rs,e,i,hi=>by
   simp only [finOKL] at e
   simp only [finIdsL,bN] at hi
   rcases hi with hi | hi
   · exact aCv x r e.1 i hi
   · exact finL_live xs rs e.2 i hi
 | [],_::_,e,i,hi=>by simp [finOKL] at e
 | _::_,[],e,i,hi=>by simp [finOKL] at e
end

def U9 (P:Program) (env:List AV) (h:List AObj):ResultVar→Option AV
 | .tmp t=>some (env.getD t .u)
 | .cell a T=>tZ P T h (env.getD a .u)
def wH (P:Program) (env:List AV) (h:List AObj):List ResultVar→Option (List AV)
 | []=>some []
 | r::rs=>match U9 P env h r,wH P env h rs with
   | some x,some l=>some (x::l)
   | _,_=>Option.none
def aDz (P:Program) (rs:List ResultVar) (env:List AV) (h:List AObj):Option AV:=
 match wH P env h rs with
 | some [x]=>some x
 | some l=>some (.tup l)
 | Option.none=>Option.none

def aBu (tmps:Array Value):ResultVar→Go.Sem Value
 | .tmp t=>pure (tmps.getD t undef)
 | .cell b t=>do loadVar t (← asAddr (tmps.getD b undef))
theorem aFf (fn:Func) (tmps:Array Value):results fn tmps=(do
   let vs ← fn.results.mapM (aBu tmps)
   pure (if h:vs.size=1 then vs[0] else .tuple vs)):=rfl

theorem aTx {env:List AV} {a:Act} (g:GH G X w h) (r:EnvOK D X w h env a) (rv:ResultVar) {x:AV} (e:U9 P env h rv=some x) :
   ∃ v,(aBu a.tmps rv).run P w=.ok v w∧RV X w h x v:=by
 cases rv with
 | tmp t=>
   simp only [U9,aA] at e
   subst e
   exact ⟨_,rfl,gR g r (.tmp t)⟩
 | cell b T=>
   simp only [U9] at e
   have rb:=gR g r (.tmp b)
   simp only [aev,Act.eval] at rb
   obtain ⟨u,hu,ru⟩:=aKw g rb e
   refine ⟨u,?_,ru⟩
   have:∃ ad,a.tmps.getD b undef=.pointer (some ad):=by
     unfold tZ at e
     cases ho:aEa h (env.getD b .u) with
     | none=>rw [ho] at e; cases e
     | some q=>
       obtain ⟨cells,off⟩:=q
       obtain ⟨b',o,cs,T',fr,hv,_⟩:=aOb g rb ho
       exact ⟨_,hv⟩
   obtain ⟨ad,had⟩:=this
   simp only [aBu]
   rw [had] at hu ⊢
   simpa [Instr.loadAt,Instr.sureAddr,asAddr] using hu

theorem aDy {env:List AV} {a:Act} (g:GH G X w h) (r:EnvOK D X w h env a):∀ (rs:List ResultVar) (l:List AV),wH P env h rs=some l →
   ∃ vs:List Value,(rs.mapM (aBu a.tmps)).run P w=.ok vs w∧l.length=vs.length∧∀ (j:Nat) (x:AV) (v:Value),l[j]? = some x→vs[j]? = some v→RV X w h x v
 | [],l,e=>by
   simp only [wH,aA] at e
   subst e
   exact ⟨[],by simp,rfl,by simp⟩
 | rv::rs,l,e=>by
   simp only [wH] at e
   cases h1:U9 P env h rv with
   | none=>simp [h1] at e
   | some x=>
   cases h2:wH P env h rs with
   | none=>simp [h1,h2] at e
   | some l'=>
     simp only [h1,h2,aA] at e
     subst e
     obtain ⟨v,hv,rx⟩:=aTx g r rv h1
     obtain ⟨vs,hvs,hl,hr⟩:=aDy g r rs l' h2
     refine ⟨v::vs,?_,by simp [hl],?_⟩
     · rw [List.mapM_cons,bD,hv,aN,bD,hvs]; rfl
     · intro j y u hy hu
       cases j with
       | zero=>simp at hy hu; exact hy ▸ hu ▸ rx
       | succ j=>exact hr j y u (by simpa using hy) (by simpa using hu)

theorem aNy {env:List AV} {a:Act} {fn:Func} (g:GH G X w h) (r:EnvOK D X w h env a) {x:AV} (e:aDz P fn.results.toList env h=some x):∃ v,(results fn a.tmps).run P w=.ok v w∧RV X w h x v:=by
 unfold aDz at e
 cases hl:wH P env h fn.results.toList with
 | none=>simp [hl] at e
 | some l=>
   obtain ⟨vs,hvs,hlen,hr⟩:=aDy g r _ l hl
   have hrun:(results fn a.tmps).run P w=.ok (if h:vs.toArray.size=1 then vs.toArray[0] else .tuple vs.toArray) w:=by
     rw [aFf,bD,Array.mapM_eq_mapM_toList,Sem.run_map,hvs]
     rfl
   rw [hrun]
   rw [hl] at e
   clear hl hvs hrun
   cases l with
   | nil=>
     cases vs with
     | cons=>simp at hlen
     | nil=>
       simp only [aA] at e
       subst e
       exact ⟨_,rfl,by simpa using .tup (vs := #[]) rfl (by simp)⟩
   | cons y l=>
     cases vs with
     | nil=>simp at hlen
     | cons v vs=>
       cases l with
       | nil=>
         have hvs0:vs=[]:=List.eq_nil_of_length_eq_zero (by simpa using hlen.symm)
         subst hvs0
         simp only [aA] at e
         subst e
         exact ⟨v,by simp,hr 0 y v rfl rfl⟩
       | cons z l=>
         simp only [aA] at e
         subst e
         refine ⟨_,rfl,?_⟩
         have:(v::vs).toArray.size ≠ 1:=by simp at hlen ⊢; intro h0; rw [h0] at hlen; simp at hlen
         rw [dif_neg this]
         exact .tup (by simpa using hlen) (fun j a v ha hv=>hr j a v ha (by simpa using hv))
end

theorem aIv {P:Program} {G:Glob} {f:FuncId} {fn:Func} {c:Code} {args:List AV} {r:AV} (hf:P.funcs[f]? = some fn) (hb:fn.body=some c) (hcal:gP P f=true) (hG:oT G)
   (h:AW P (pl G) c (fun e env h=>(e=.normal∨e=.ret)∧∃ x,aDz P fn.results.toList env h=some x∧Fin h x r) (args++List.replicate (fn.ntmps - args.length) .u) []):Ctr P G f args r:=by
 refine ⟨hcal,hG,?_⟩
 intro F w vs hF hgl hl hr
 have g0:GH G (.none F) w []:=⟨fun id ob h=>by simp at h,fun id bo h=>by simp [Ctx.none] at h,fun id id' b o o' h=>by simp [Ctx.none] at h,fun id b o h=>by simp [Ctx.none] at h,hF,hgl⟩
 have r0:EnvOK (pl G).ds (.none F) w [] (args++List.replicate (fn.ntmps - args.length) .u) { tmps:=vs++Array.replicate (fn.ntmps - vs.size) undef,defers:=[] }:=by
   refine ⟨rfl,by simp [hl],?_⟩
   intro j x v hx hv
   by_cases hj:j < args.length
   · rw [aC hj] at hx
     rw [fF (by omega)] at hv
     exact hr j x v hx hv
   · rw [aF (by omega),List.getElem?_replicate] at hx
     split at hx
     · cases hx; exact .u _
     · cases hx
 refine calls_of_wp hf hb (wp_mono (h (.none F) w _ g0 r0) ?_)
 rintro e a' w' ⟨env',h',X',hk,g',r',t⟩
 obtain ⟨he,x,hres,hfin⟩:=aKa hk
 obtain ⟨v,hrun,rx⟩:=aNy g' r' hres
 have hgr:wI w w':=⟨fun b hb=>t.step.frame b hb (fun id o e=>by simp [Ctx.none] at e),t.step.size,t.step.os,t.step.tape,t.step.output⟩
 have hι:∀ id b o,X'.ι id=some (b,o)→w.heap.size≤b:=by
   intro id b o hb
   rcases t.step.new id b o hb with h | ⟨_,_,h⟩
   · exact h
   · simp [Ctx.none] at h
 have hXF:∀ b,X'.F b→F b∨w.heap.size≤b:=by
   intro b hb
   rcases t.step.fnew b hb with h | h | ⟨_,_,h⟩
   · exact .inl h
   · exact .inr h
   · simp [Ctx.none] at h
 have hFB:∀ (ids:List Nat),(∀ b,F b→FB X' ids b)∧(∀ b,FB X' ids b→F b∨w.heap.size≤b)∧(∀ b,FB X' ids b→b < w'.heap.size):=by
   intro ids
   refine ⟨fun b hb=>.inl (t.ext.fr b hb),?_,?_⟩
   · rintro b (hb | ⟨id,o,_,ho⟩)
     · exact hXF b hb
     · exact .inr (hι _ _ _ ho)
   · rintro b (hb | ⟨id,o,_,ho⟩)
     · exact g'.fbnd b hb
     · exact g'.bnd _ _ _ ho
 have hR:∃ v' F' bs,Ending.returned v=.returned v'∧wI w w'∧(∀ b,F b→F' b)∧(∀ b,F' b→F b∨w.heap.size≤b)∧(∀ b,F' b→b < w'.heap.size)∧RR F' w' r v' bs∧bs.Nodup∧∀ b ∈ bs,¬ F' b∧w.heap.size≤b:=by
   rcases hfin with ⟨rfl,hp⟩ | ⟨hok,hnd,hdis⟩
   · exact ⟨v,FB X' [],[],rfl,hgr,(hFB []).1,(hFB []).2.1,(hFB []).2.2,RR.val (rx.pers hp (fun b hb=>.inl hb) (fun _ _=>rfl)),fL,by simp⟩
   · refine ⟨v,FB X' (cD x r),M6 X' (cD x r),rfl,hgr,(hFB _).1,(hFB _).2.1,(hFB _).2.2,aVv g' _ x r v hok rx hdis,F8 g' hnd,?_⟩
     intro b hb
     obtain ⟨id,hi,o,ho⟩:=aDr hb
     refine ⟨?_,hι _ _ _ ho⟩
     rintro (hF' | ⟨id',o',hn,ho'⟩)
     · obtain ⟨sz,cs,hid⟩:=aCv x r hok id hi
       have ok:=g'.objs _ _ hid
       cases ok with
       | arr h0 h1 h2 h3=>rw [h0] at ho; cases ho; exact (h3 rfl).1 hF'
       | absent h0=>rw [h0] at ho; cases ho
     · exact hn (g'.inj _ _ _ _ _ ho ho' ▸ hi)
 rcases he with rfl | rfl
 · exact ⟨r'.defers,v,hrun,hR⟩
 · exact ⟨r'.defers,v,hrun,hR⟩
theorem sQ {rx:Bool} {th:Nat→Option TH} {P:Program} (hm:P.follows .mixedOrders=true) {G:Glob} {f:FuncId} {fn:Func} {c:Code} {ac:lD} {args:List AV} {r:AV} (hf:P.funcs[f]? = some fn) (hb:fn.body=some c) (hcal:gP P f=true) (hd:iY rx th c=true) (hs:strip rx th c=some ac) (hG:oT G)
   (h:awx P (pl G) ac (fun e env h=>(e=.normal∨e=.ret)∧∃ x,aDz P fn.results.toList env h=some x∧Fin h x r) (args++List.replicate (fn.ntmps - args.length) .u) []):Ctr P G f args r:=
 aIv hf hb hcal hG (oV hm c ac hd hs _ _ _ h)

section
variable (P:Program) (G:Md) (dr:Option DR)

def dW (op:Op) (d:Option Nat) (os:List fI) (K:List AV→List AObj→Prop) (env:List AV) (h:List AObj):Prop:=
 oF P G dr op (fun r h'=>dB P G dr os K (gJ env d r) h') env h
def mN (x:Option AV) (d:Option Nat) (os:List fI) (K:List AV→List AObj→Prop) (env:List AV) (h:List AObj):Prop:=
 match x with
 | some v=>dB P G dr os K (gJ env d v) h
 | Option.none=>False
def aMt (x:Option (List AObj)) (d:Option Nat) (os:List fI) (K:List AV→List AObj→Prop) (env:List AV):Prop:=
 match x with
 | some h'=>dB P G dr os K (gJ env d .u) h'
 | Option.none=>False
def kV (x:Option (AV × List AObj)) (d:Option Nat) (os:List fI) (K:List AV→List AObj→Prop) (env:List AV):Prop:=
 match x with
 | some (v,h')=>dB P G dr os K (gJ env d v) h'
 | Option.none=>False
def bBh (fv:AV) (args:List AV) (d:Option Nat) (os:List fI) (K:List AV→List AObj→Prop) (env:List AV) (h:List AObj):Prop:=
 match fv with
 | .fn f first capt=>B8 P G (fun v h'=>G.pan v env h') dr.isSome f (first++args++capt) h (fun r h'=>dB P G dr os K (gJ env d r) h')
 | _=>False
def tV (f:FuncId) (A:List AV) (d:Option Nat) (os:List fI) (K:List AV→List AObj→Prop) (env:List AV) (h:List AObj):Prop:=
 B8 P G (fun v h'=>G.pan v env h') dr.isSome f A h (fun r h'=>dB P G dr os K (gJ env d r) h')
def lJ (c:AV) (want:Bool) (op:Op) (d:Option Nat) (os:List fI) (K:List AV→List AObj→Prop) (env:List AV) (h:List AObj):Prop:=
 pY (wS c want) (dW P G dr op d os K env h) (dB P G dr os K (gJ env d (.tup [])) h)
def aAo (c:AV) (a b:lD) (Q:Exit→List AV→List AObj→Prop) (env:List AV) (h:List AObj):Prop:=
 pY c (awx P G a Q env h) (awx P G b Q env h)
end

section
variable {P:Program} {G:Md} {dr:Option DR} {d:Option Nat} {os:List fI} {K:List AV→List AObj→Prop} {env:List AV} {h:List AObj} {Q:Exit→List AV→List AObj→Prop}

theorem aYr:dB P G dr [] K env h=K env h:=rfl
theorem aUz {op:Op} {K:AV→List AObj→Prop}:aOs P G dr false op K env h=oF P G dr op K env h:=by
 cases op with
 | call c=>obtain ⟨ce,as,ts⟩:=c; cases ce <;> rfl
 | _=>rfl
theorem aQq {op:Op}:dB P G dr (⟨d,op,none,false⟩::os) K env h=dW P G dr op d os K env h:=by simp only [dB,aGg,true_and,aUz]; rfl
theorem aKd {op:Op} {t:Nat} {want:Bool}:dB P G dr (⟨d,op,some (t,want),false⟩::os) K env h=lJ P G dr (env.getD t .u) want op d os K env h:=by simp only [dB,aGg,true_and,aUz]; rfl
def ckV (P:Program) (G:Md) (N:DR) (op:Op) (d:Option Nat) (os:List fI) (K:List AV→List AObj→Prop) (env:List AV) (h:List AObj):Prop:=
 match op with
 | .buildSlice T len ps=>mN P G (some N) (aGr P (aev G env) T len ps) d os K env h
 | .call ⟨.value f,as,ts⟩=>bCj P G N ⟨.value f,as,ts⟩ (fun r h'=>dB P G (some N) os K (gJ env d r) h') env h
 | op=>J6 G N op env∧dW P G (some N) op d os K env h
theorem aVi {op:Op} {N:DR}:dB P G (some N) (⟨d,op,none,true⟩::os) K env h=ckV P G N op d os K env h:=by
 cases op with
 | buildSlice T len ps=>
   have e:dB P G (some N) (⟨d,.buildSlice T len ps,none,true⟩::os) K env h=(True∧yF ((aGr P (aev G env) T len ps).map fun v=>(v,h)) (fun r h'=>dB P G (some N) os K (gJ env d r) h')):=rfl
   rw [e,ckV,true_and]
   cases aGr P (aev G env) T len ps <;> rfl
 | call c=>
   obtain ⟨ce,as,ts⟩:=c
   cases ce with
   | value f=>
     have e:dB P G (some N) (⟨d,.call ⟨.value f,as,ts⟩,none,true⟩::os) K env h=(True∧bCj P G N ⟨.value f,as,ts⟩ (fun r h'=>dB P G (some N) os K (gJ env d r) h') env h):=rfl
     rw [e,true_and]
     rfl
   | _=>rfl
 | _=>rfl
def bJh (P:Program) (G:Md) (N:DR) (f:FuncId) (A:List AV) (d:Option Nat) (os:List fI) (K:List AV→List AObj→Prop) (env:List AV) (h:List AObj):Prop:=
 ∃ x h',ACalls P G f A h (fun x1 h1=>x1=x∧h1=h')∧lC N h h'∧dB P G (some N) os K (gJ env d x) h'
def bMr (P:Program) (G:Md) (N:DR) (fv:AV) (args:List AV) (d:Option Nat) (os:List fI) (K:List AV→List AObj→Prop) (env:List AV) (h:List AObj):Prop:=
 match fv with
 | .fn f first capt=>bJh P G N f (first++args++capt) d os K env h
 | _=>False
theorem aLd {fx:Operand} {args:Array Operand} {tys:Array TypeId} {N:DR}:ckV P G N (.call ⟨.value fx,args,tys⟩) d os K env h=bMr P G N (aev G env fx) (args.toList.map (aev G env)) d os K env h:=by
 rw [ckV]
 simp only [bCj,eK,mO,bMr,bJh]
 cases aev G env fx <;> simp only [B8,aH,if_false,false_and,exists_false]
 have q:∀ (f:FuncId) (A:List AV) (K:AV→List AObj→Prop),(ACalls P G.g f A h K∨mJ P G.g f A h fun _ _=>False)=ACalls P G.g f A h K:=fun f A K=>propext ⟨fun a=>a.elim id mJ.none,.inl⟩
 simp only [q]
theorem bId {f:FuncId} {a b args:List AV} {N:DR}:bMr P G N (.fn f a b) args d os K env h=bJh P G N f (a++args++b) d os K env h:=rfl
def asl:Option (AV × List AObj)→Option AV
 | some (.hs _ _ n _,[.arr _ _ cells])=>if 0 < n∧persL cells=true then some (.sl cells n) else Option.none
 | _=>Option.none
theorem aTr {i o n sz:Nat} {t fz:Bool} {cells:List AV}:asl (some (.hs i o n t,[.arr fz sz cells]))=if 0 < n∧persL cells=true then some (.sl cells n) else Option.none:=rfl
theorem aRv {op:Op}:lJ P G dr (.b true) true op d os K env h=dW P G dr op d os K env h:=by simp [lJ,wS,pY]
theorem aRz {op:Op}:lJ P G dr (.b false) false op d os K env h=dW P G dr op d os K env h:=by simp [lJ,wS,pY]
theorem aRw {op:Op}:lJ P G dr (.b true) false op d os K env h=dB P G dr os K (gJ env d (.tup [])) h:=by simp [lJ,wS,pY]
theorem aRy {op:Op}:lJ P G dr (.b false) true op d os K env h=dB P G dr os K (gJ env d (.tup [])) h:=by simp [lJ,wS,pY]
theorem aRx {op:Op} {want:Bool}:lJ P G dr (.tup []) want op d os K env h=dB P G dr os K (gJ env d (.tup [])) h:=by simp [lJ,wS,pY]
theorem yM {op:Op} {x want:Bool} (h1:x=want→dW P G dr op d os K env h) (h2:x=(!want)→dB P G dr os K (gJ env d (.tup [])) h):lJ P G dr (.b x) want op d os K env h:=by
 cases x <;> cases want <;> simp_all [lJ,wS,pY]

theorem bCk:awx P G .skip Q env h=Q .normal env h:=rfl
theorem aOx {ops:List fI}:awx P G (.region ops) Q env h=dB P G none ops (Q .normal) env h:=rfl
theorem bCm {ops:List fI}:awx P G (.draw Option.none ops) Q env h=dB P G (some ⟨h.length,[]⟩) ops (Q .normal) env h:=rfl
theorem aWx {N k:Nat} {L:List Nat} {v m s:Bool} {xs zs:List Nat} {ops:List fI}:awx P G (.draw (some ⟨some N,L,v,m,s,xs,zs,k⟩) ops) Q env h=dB P G (some ⟨N,L⟩) ops (Q .normal) env h:=rfl
theorem aWy {k:Nat} {L:List Nat} {v m s:Bool} {xs zs:List Nat} {ops:List fI}:awx P G (.draw (some ⟨none,L,v,m,s,xs,zs,k⟩) ops) Q env h=dB P G (some ⟨h.length,L⟩) ops (Q .normal) env h:=rfl
theorem bJm {a b:lD}:awx P G (.seq a b) Q env h=awx P G a (B0 (awx P G b Q) Q) env h:=rfl
theorem bCn {c:Operand} {a b:lD}:awx P G (.cond c a b) Q env h=aAo P G (aev G env c) a b Q env h:=rfl
theorem aWz {i:Nat} {c:lD}:awx P G (.block i c) Q env h=awx P G c (zM i Q) env h:=rfl
theorem bCl {i:Nat}:awx P G (.exit i) Q env h=Q (.exit i) env h:=rfl
theorem bJn:awx P G .ret Q env h=Q .ret env h:=rfl
theorem W7 {K:List AV→List AObj→Prop}:B0 K Q .normal env h=K env h:=rfl
theorem aHt {K:List AV→List AObj→Prop} {i:Nat}:B0 K Q (.exit i) env h=Q (.exit i) env h:=rfl
theorem aPc {K:List AV→List AObj→Prop}:B0 K Q .ret env h=Q .ret env h:=rfl
theorem U8 {i:Nat}:zM i Q .normal env h=Q .normal env h:=rfl
theorem aNp {i:Nat}:zM i Q .ret env h=Q .ret env h:=rfl
theorem aGm {i j:Nat}:zM i Q (.exit j) env h=if j=i then Q .normal env h else Q (.exit j) env h:=rfl
theorem bHr {a b:lD}:aAo P G (.b true) a b Q env h=awx P G a Q env h:=by simp [aAo,pY]
theorem bHs {a b:lD}:aAo P G (.b false) a b Q env h=awx P G b Q env h:=by simp [aAo,pY]
theorem F6 {a b:lD} {x:Bool} (h1:x=true→awx P G a Q env h) (h2:x=false→awx P G b Q env h):aAo P G (.b x) a b Q env h:=⟨h1,h2⟩

theorem aWw {c:lD} {S:Type} (I:S→List AV→List AObj→Prop) (μ:S→Nat) (s0:S) (h0:I s0 env h) (round:∀ s env h,I s env h→awx P G c (B0 (fun e' h'=>∃ s',I s' e' h'∧μ s' < μ s) Q) env h):awx P G (.loop c) Q env h:=
 ⟨S,I,μ,s0,h0,round⟩

theorem bDl {x:Operand}:dW P G dr (.move x) d os K env h=dB P G dr os K (gJ env d (aev G env x)) h:=rfl
theorem aQi {x:Operand}:dW P G dr (.assign x) d os K env h=dB P G dr os K (gJ env d (aev G env x)) h:=rfl
def bIk:AV→AV→AV→Option AV
 | .b t,a,b=>some (if t then a else b)
 | _,_,_=>Option.none
theorem lE {x:Option AV}:yF (match x with | some v=>some (v,h) | Option.none=>Option.none) (fun r h'=>dB P G dr os K (gJ env d r) h')=mN P G dr x d os K env h:=by cases x <;> rfl
theorem bDk {c a b:Operand}:dW P G dr (.pick c a b) d os K env h=mN P G dr (bIk (aev G env c) (aev G env a) (aev G env b)) d os K env h:=by
 simp only [dW,oF,eH,oZ,eK,aop]
 cases aev G env c <;> rfl
def aOg:Bool→Option Nat→Option (List AV)→List AObj→Option (AV × List AObj)
 | true,some sz,some cells,h=>some (.ptr h.length 0,h++[.arr false sz cells])
 | true,Option.none,some cells,h=>some (.ptr h.length 0,h++[.box false cells])
 | false,_,some cells,h=>some (.ptr h.length 0,h++[.box false cells])
 | _,_,Option.none,_=>Option.none
theorem aOf {c:List AV} {h:List AObj}:aOg true Option.none (some c) h=some (.ptr h.length 0,h++[.box false c]):=rfl
theorem aYm {T:TypeId}:dW P G dr (.alloc T) d os K env h=kV P G dr (aOg dr.isNone (jN P T) (zeroOf P T) h) d os K env:=by
 simp only [dW,oF,eH,oZ,eK,aop]
 cases jN P T <;> cases zeroOf P T <;> cases dr <;> rfl
theorem bKd {T:TypeId} {x:Operand}:dW P G dr (.box T x) d os K env h=kV P G dr (aOg dr.isNone (jN P T) (iZ (aev G env x)) h) d os K env:=by
 simp only [dW,oF,eH,oZ,eK,aop]
 cases jN P T <;> cases iZ (aev G env x) <;> cases dr <;> rfl
def aOn (pl:Option (List (Nat × Nat))) (z:Option (List AV)) (parts:List (Nat × AV)):Option AV:=
 match pl,z with
 | some pl,some z=>(lN (fun i=>pl[i]?) z parts).map .agg
 | _,_=>Option.none
theorem aYj {T:TypeId} {parts:Array (Nat × Operand)}:dW P G dr (.build T parts) d os K env h=mN P G dr (aOn (gN P T) (zeroOf P T) (parts.toList.map fun (i,x)=>(i,aev G env x))) d os K env h:=by
 simp only [dW,oF,eH,oZ,eK,aop]
 cases gN P T with
 | none=>rfl
 | some pl=>
   cases zeroOf P T with
   | none=>rfl
   | some z=>
     simp only [aOn]
     cases lN (fun i=>pl[i]?) z (parts.toList.map fun (i,x)=>(i,aev G env x)) <;> rfl
def iD (h:List AObj) (el:Option TypeId) (len:Nat) (parts:List (Nat × AV)):Option (AV × List AObj):=
 match el with
 | some e=>match zeroOf P e with
   | some z=>if kB P e=some z.length∧0 < z.length∧len * z.length≤65536 then
       (if len=0∧parts=[] then some (.e0,h) else (lN (fun i=>some (i * z.length,z.length)) (List.replicate len z).flatten parts).map fun cells=>(.hs h.length 0 len false,h++[.arr false z.length cells])) else Option.none
   | Option.none=>Option.none
 | Option.none=>Option.none
def aMu (dr:Option DR) (l:List (Nat × Operand)) (a b:Option (AV × List AObj)):Option (AV × List AObj):=if (dr.isSome && aGe l)=true then a else b
theorem bRl {l:List (Nat × Operand)} {a b:Option (AV × List AObj)}:aMu Option.none l a b=b:=rfl
theorem bRm {N:DR} {a b:Option (AV × List AObj)}:aMu (some N) [] a b=b:=rfl
theorem bRk {N:DR} {i:Nat} {t:Tmp} {l:List (Nat × Operand)} {a b:Option (AV × List AObj)}:aMu (some N) ((i,.tmp t)::l) a b=b:=rfl
theorem bIm {T:TypeId} {len:Nat} {parts:Array (Nat × Operand)}:aop P G env h (.buildSlice T len parts)=iD (P:=P) h (eI P T) len (parts.toList.map fun (i,x)=>(i,aev G env x)):=by
 simp only [aop,iD]
 cases eI P T with
 | none=>rfl
 | some e=>
   simp only
   cases zeroOf P e with
   | none=>rfl
   | some z=>
     simp only
     have hm:(parts.toList=[])↔((parts.toList.map fun (i,x)=>(i,aev G env x))=[]):=by simp
     simp only [hm]
     split
     · split
       · rfl
       · cases lN (fun i=>some (i * z.length,z.length)) (List.replicate len z).flatten (parts.toList.map fun (i,x)=>(i,aev G env x)) <;> rfl
     · rfl
theorem Y5 {x:Option (AV × List AObj)}:yF x (fun r h'=>dB P G dr os K (gJ env d r) h')=kV P G dr x d os K env:=by
 cases x <;> rfl
theorem Q3 {T:TypeId} {len:Nat} {parts:Array (Nat × Operand)}:dW P G dr (.buildSlice T len parts) d os K env h=kV P G dr (aMu dr parts.toList ((aTs P T len parts).map fun v=>(v,h)) (iD (P:=P) h (eI P T) len (parts.toList.map fun (i,x)=>(i,aev G env x)))) d os K env:=by
 rw [← bIm]
 simp only [dW,oF,eH,oZ,eK]
 exact Y5
def kM:Nat→List (Nat × AV)→Option (List AV)
 | _,[]=>some []
 | i,(j,a)::rest=>if j=i then (match iZ a with
   | some [c]=>(kM (i+1) rest).map (c::·)
   | _=>Option.none) else Option.none
theorem V5:∀ (parts:List (Nat × AV)) (i:Nat) (cells pre:List AV) (z:AV),kM i parts=some cells→pre.length=i →
   lN (fun i=>some (i * 1,1)) (pre++List.replicate cells.length z) parts=some (pre++cells)
 | [],i,cells,pre,z,h,hp=>by
   simp only [kM,aA] at h
   subst h
   simp [lN]
 | (j, a)::rest,i,cells,pre,z,h,hp=>by
   simp only [kM] at h
   split at h
   case isFalse=>cases h
   rename_i hj
   subst hj
   split at h
   case h_2=>cases h
   rename_i c hc
   cases hr:kM (j+1) rest with
   | none=>simp [hr] at h
   | some cs=>
     simp only [hr,cG,aA] at h
     subst h
     have ih:=V5 rest (j+1) cs (pre++[c]) z hr (by simp [hp])
     simp only [lN,hc,aD,aY,aG,List.length_replicate,Nat.mul_one,cZ]
     rw [if_pos ⟨trivial,by omega⟩]
     have hs:lP (pre++List.replicate (cs.length+1) z) j [c]=(pre++[c])++List.replicate cs.length z:=by
       unfold lP
       rw [List.take_left' hp,List.length_singleton,List.drop_append,cK (by omega),hp]
       have:j+1 - j=1:=by omega
       rw [this,bJ,iR,eW,dX]
     have e1:(fun i=>some (i * 1,1))=(fun i:Nat=>some (i,1)):=by funext i; rw [Nat.mul_one]
     rw [e1] at ih
     rw [hs,ih,bW]; rfl
theorem aSk {i:Nat}:kM i []=some []:=rfl
theorem bEo {i:Nat} {rest:List (Nat × AV)} {l:List UInt8}:kM i ((i,.s l)::rest)=(kM (i+1) rest).map (.s l::·):=by simp [kM,iZ,AV.one]
theorem bEp {i:Nat} {rest:List (Nat × AV)} {k:IntKind} {n:Int}:kM i ((i,.i k n)::rest)=(kM (i+1) rest).map (.i k n::·):=by simp [kM,iZ,AV.one]
theorem bAj {i:Nat} {rest:List (Nat × AV)} {c:List AV} {n:Nat}:kM i ((i,.sl c n)::rest)=(kM (i+1) rest).map (.sl c n::·):=by simp [kM,iZ,AV.one]
theorem bAk {i:Nat} {rest:List (Nat × AV)} {id o n:Nat} {t:Bool}:kM i ((i,.hs id o n t)::rest)=(kM (i+1) rest).map (.hs id o n t::·):=by simp [kM,iZ,AV.one]
def lM (h:List AObj) (el:Option TypeId) (len:Nat) (parts:List (Nat × AV)):Option (AV × List AObj):=
 match el with
 | some e=>match zeroOf P e,kB P e,kM 0 parts with
   | some [_],some 1,some cells=>if cells.length=len∧0 < len∧len≤65536 then some (.hs h.length 0 len false,h++[.arr false 1 cells]) else iD (P:=P) h (some e) len parts
   | _,_,_=>iD (P:=P) h (some e) len parts
 | Option.none=>Option.none
theorem qF {el:Option TypeId} {len:Nat} {parts:List (Nat × AV)}:iD (P:=P) h el len parts=lM (P:=P) h el len parts:=by
 unfold lM
 cases el with
 | none=>rfl
 | some e=>
   simp only
   split
   · rename_i z cells hz hs hf
     split
     · rename_i hc
       obtain ⟨hc1,hc0,hc2⟩:=hc
       have:=V5 parts 0 cells [] z hf rfl
       simp only [iD,hz,hs,List.length_singleton]
       rw [if_pos ⟨trivial,by omega,by omega⟩,if_neg (by omega)]
       have e2:(List.replicate len [z]).flatten=[]++List.replicate cells.length z:=by
         rw [hc1,bJ]
         clear this hc1 hc0 hc2 hf
         induction len with
         | zero=>rfl
         | succ n ih=>rw [iR,aZ,ih,iR]; rfl
       rw [e2,this]; rfl
     · rfl
   · rfl
theorem H2 {T:TypeId} {len:Nat} {parts:Array (Nat × Operand)}:dW P G dr (.buildSlice T len parts) d os K env h=kV P G dr (aMu dr parts.toList ((aTs P T len parts).map fun v=>(v,h)) (lM (P:=P) h (eI P T) len (parts.toList.map fun (i,x)=>(i,aev G env x)))) d os K env:=by
 rw [Q3,qF]
theorem bIg {T:TypeId} {len:Nat} {parts:Array (Nat × Operand)}:aGr P (aev G env) T len parts=asl (iD (P:=P) [] (eI P T) len (parts.toList.map fun (i,x)=>(i,aev G env x))):=by
 unfold aGr iD
 cases eI P T with
 | none=>rfl
 | some e=>
   simp only
   cases zeroOf P e with
   | none=>rfl
   | some z=>
     simp only
     by_cases h1:kB P e=some z.length∧0 < z.length∧len * z.length≤65536
     · rw [if_pos h1]
       by_cases h2:0 < len
       · rw [if_pos ⟨h1.1,h1.2.1,h2,h1.2.2⟩,if_neg (fun q=>by omega)]
         cases lN (fun i=>some (i * z.length,z.length)) (List.replicate len z).flatten (parts.toList.map fun (i,x)=>(i,aev G env x)) with
         | none=>rfl
         | some cells=>simp only [cG,asl,bJ,h2,true_and]
       · rw [if_neg (fun q=>h2 q.2.2.1)]
         split
         · rfl
         · cases lN (fun i=>some (i * z.length,z.length)) (List.replicate len z).flatten (parts.toList.map fun (i,x)=>(i,aev G env x)) with
           | none=>rfl
           | some cells=>simp only [cG,asl,bJ,h2,false_and,if_false]
     · rw [if_neg h1,if_neg (fun q=>h1 ⟨q.1,q.2.1,q.2.2.2⟩)]; rfl
theorem aZv {T:TypeId} {len:Nat} {parts:Array (Nat × Operand)} {N:DR}:ckV P G N (.buildSlice T len parts) d os K env h=mN P G (some N) (asl (lM (P:=P) [] (eI P T) len (parts.toList.map fun (i,x)=>(i,aev G env x)))) d os K env h:=by
 rw [← qF,← bIg]; rfl
theorem bDm {T:TypeId} {x:Operand}:dW P G dr (.load T x) d os K env h=mN P G dr (tZ P T h (aev G env x)) d os K env h:=by
 simp only [dW,oF,eH,oZ,eK,aop]; exact lE
theorem aYc {T:TypeId} {x y:Operand}:dW P G dr (.store T x y) d os K env h=aMt P G dr (rL P h T (aev G env x) (aev G env y)) d os K env:=by
 simp only [dW,oF,eH,oZ,eK,aop]
 cases rL P h T (aev G env x) (aev G env y) <;> rfl
def bMx (h:List AObj):AV→Option AV
 | .ptr id off=>match h[id]? with | some (.box ..) | some (.arr ..) | some (.held false _)=>some (.ptr id off) | _=>Option.none
 | .box cells off=>some (.box cells off)
 | .fn f a b=>some (.fn f a b)
 | _=>Option.none
theorem aFj {x:Operand}:dW P G dr (.nilCheck x) d os K env h=mN P G dr (bMx h (aev G env x)) d os K env h:=by
 simp only [dW,oF,eH,oZ,eK,aop,bMx]
 cases aev G env x with
 | ptr id off=>
   simp only
   cases h[id]? with
   | none=>rfl
   | some ob=>cases ob with
     | held m q=>cases m <;> rfl
     | _=>rfl
 | _=>rfl
theorem bKe {op:BinOp} {T U:TypeId} {x:Operand} {t:Nat}:dW P G dr (.binOp op T x (.tmp t) U) d os K env h=mN P G dr (aUp P op T (aev G env x) (aev G env (.tmp t))) d os K env h:=by
 simp only [dW,oF,eH,oZ,bCe,eK,aop]; exact lE
theorem aYl {op:BinOp} {T U:TypeId} {x:Operand} {k:IntKind} {n:Int}:dW P G dr (.binOp op T x (.const (.int k n)) U) d os K env h=mN P G dr (aUp P op T (aev G env x) (.i k n)) d os K env h:=by
 simp only [dW,oF,eH,oZ,bCe,eK,aop]; exact lE
theorem aYk {op:BinOp} {T U:TypeId} {x:Operand} {b:ByteArray}:dW P G dr (.binOp op T x (.const (.string b)) U) d os K env h=mN P G dr (aUp P op T (aev G env x) (aev G env (.const (.string b)))) d os K env h:=by
 simp only [dW,oF,eH,oZ,bCe,eK,aop]; exact lE
def bKj (P:Program) (G:Md) (A:Option TypeDesc) (v:AV) (d:Option Nat) (os:List fI) (K:List AV→List AObj→Prop) (env:List AV) (h:List AObj):Prop:=
 match A with
 | some (.slice _)=>(match v with
   | .e0=>dB P G none os K (gJ env d (.b true)) h∧dB P G none os K (gJ env d (.b false)) h
   | .sl _ n=>(n=0→dB P G none os K (gJ env d (.b true)) h)∧dB P G none os K (gJ env d (.b false)) h
   | _=>False)
 | _=>False
theorem bKa {T U:TypeId} {x:Operand}:dW P G none (.binOp .eql T x (.const (.slice none 0 0)) U) d os K env h=bKj P G (P.underlying T) (aev G env x) d os K env h:=by
 simp only [dW,oF,eH,oZ,bCe,bEa,bKj]
 cases P.underlying T with
 | none=>rfl
 | some t=>cases t <;> first | rfl | (cases aev G env x <;> rfl)
theorem aVn {e:TypeId} {cells:List AV} {n:Nat} (h1:n=0→dB P G none os K (gJ env d (.b true)) h) (h2:dB P G none os K (gJ env d (.b false)) h):bKj P G (some (.slice e)) (.sl cells n) d os K env h:=⟨h1,h2⟩
theorem bQa {op:UnOp} {T:TypeId} {x:Operand}:dW P G dr (.unOp op T x) d os K env h=mN P G dr (aUn op (aev G env x)) d os K env h:=by
 simp only [dW,oF,eH,oZ,eK,aop]; exact lE
theorem aFk {f:FuncId} {a b:Array Operand}:dW P G dr (.makeFunc (.func f) a b) d os K env h=dB P G dr os K (gJ env d (.fn f (a.toList.map (aev G env)) (b.toList.map (aev G env)))) h:=rfl
theorem aJi {T:TypeId}:dW P G dr (.makeMap T none) d os K env h=dB P G dr os K (gJ env d (.mp h.length)) (h++[.map false [] []]):=rfl
theorem aYd {T:TypeId} {x:Operand} {l hi m:Option Operand}:dW P G dr (.slice T x l hi m) d os K env h=mN P G dr (oW P h T (aev G env x) (l.map (aev G env)) (hi.map (aev G env)) (m.map (aev G env))) d os K env h:=by
 simp only [dW,oF,eH,oZ,eK,aop]; exact lE
def uU (h:List AObj) (q:Option (Nat × Option Nat)) (x:AV):Option AV:=
 match q with
 | some (fo,some (_+1))=>match x with
   | .ptr id off=>match h[id]? with | some (.box ..) | some (.arr ..) | some (.held false _)=>some (.ptr id (off+fo)) | _=>Option.none
   | .box cells off=>some (.box cells (off+fo))
   | _=>Option.none
 | _=>Option.none
def cQ (P:Program) (S:TypeId) (f:Nat):Option (Nat × Option Nat):=(jU P S f).map fun q=>(q.1,kB P q.2)
theorem Y4 {S:TypeId} {x:Operand} {f:Nat}:dW P G dr (.fieldAddr S x f) d os K env h=mN P G dr (uU h (cQ P S f) (aev G env x)) d os K env h:=by
 simp only [dW,oF,eH,oZ,eK,aop,uU,cQ]
 cases jU P S f with
 | none=>rfl
 | some q=>
   obtain ⟨fo,ft⟩:=q
   simp only [cG]
   cases kB P ft with
   | none=>rfl
   | some n=>
     cases n with
     | zero=>rfl
     | succ n=>
       cases aev G env x with
       | ptr id off=>
         simp only
         cases h[id]? with
         | none=>rfl
         | some ob=>cases ob with
           | held m q=>cases m <;> rfl
           | _=>rfl
       | _=>rfl
theorem Y3 {T:TypeId} {x i:Operand}:dW P G dr (.indexAddr T x i) d os K env h=mN P G dr (iJ P h T (aev G env x) (aev G env i)) d os K env h:=by
 simp only [dW,oF,eH,oZ,eK,aop]; exact lE
theorem aYh {T:TypeId} {x i:Operand}:dW P G dr (.index T x i) d os K env h=mN P G dr (zX P T (aev G env x) (aev G env i)) d os K env h:=by
 simp only [dW,oF,eH,oZ,eK,aop]; exact lE
theorem aQh {T:TypeId} {m k:Operand} {ok:Bool}:dW P G dr (.lookup T m k ok) d os K env h=mN P G dr (mH P h T (aev G env m) (aev G env k) ok) d os K env h:=by
 simp only [dW,oF,eH,oZ,eK,aop]; exact lE
def bBk (P:Program) (h:List AObj) (T:TypeId) (m k x:AV):Option (List AObj):=
 if pers x then eO P h T m k x else eO P (freeze (dJ dep h x) h) T m k (fU dep h x)
theorem Y2 {T:TypeId} {m k x:Operand}:dW P G dr (.mapUpdate T m k x) d os K env h=aMt P G dr (bBk P h T (aev G env m) (aev G env k) (aev G env x)) d os K env:=by
 simp only [dW,oF,eH,oZ,eK,bBk]
 split
 · cases eO P h T (aev G env m) (aev G env k) (aev G env x) <;> rfl
 · cases eO P (freeze (dJ dep h (aev G env x)) h) T (aev G env m) (aev G env k) (fU dep h (aev G env x)) <;> rfl
def bMt:AV→Nat→Option AV
 | .tup vs,i=>vs[i]?
 | _,_=>Option.none
theorem aJj {x:Operand} {i:Nat}:dW P G dr (.extract x i) d os K env h=mN P G dr (bMt (aev G env x) i) d os K env h:=by
 simp only [dW,oF,eH,oZ,eK,aop,bMt]
 cases aev G env x with
 | tup vs=>exact lE
 | _=>rfl
theorem bKb {T:TypeId} {x:Operand}:dW P G dr (.call ⟨.builtin .len,#[x],#[T]⟩) d os K env h=mN P G dr ((aOj P h T (aev G env x)).map fun n=>.i .i64 (Int.ofNat n)) d os K env h:=by
 simp only [dW,oF,eH,oZ,eK,mO,iX,aO,bE]
 cases aOj P h T (aev G env x) <;> rfl
def sB (P:Program) (h:List AObj) (T:TypeId) (s x:AV):Option (AV × List AObj):=
 if jL h x then fJ P h T s x else fJ P (freeze (dJ dep h x) h) T s (fU dep h x)
theorem aQj {T:TypeId} {s x:Operand}:dW P G dr (.call ⟨.builtin .append,#[s,x],#[T,T]⟩) d os K env h=kV P G dr (sB P h T (aev G env s) (aev G env x)) d os K env:=by
 simp only [dW,oF,eH,oZ,eK,mO,aO,bE,if_true,sB]
 split
 · cases fJ P h T (aev G env s) (aev G env x) <;> rfl
 · cases fJ P (freeze (dJ dep h (aev G env x)) h) T (aev G env s) (fU dep h (aev G env x)) <;> rfl
def N4 (P:Program) (G:Md) (dr:Option DR) (A:Option TypeDesc) (q:Option (AV × List AObj)) (d:Option Nat) (os:List fI) (K:List AV→List AObj→Prop) (env:List AV):Prop:=
 match A with
 | some (.int _)=>kV P G dr q d os K env
 | _=>False
theorem aHf {k:IntKind} {q:Option (AV × List AObj)}:N4 P G dr (some (.int k)) q d os K env=kV P G dr q d os K env:=rfl
theorem sV {T U:TypeId} (hTU:T ≠ U) {s x:Operand}:dW P G dr (.call ⟨.builtin .append,#[s,x],#[T,U]⟩) d os K env h=N4 P G dr (P.underlying U) (nR P h T (aev G env s) (aev G env x)) d os K env:=by
 simp only [dW,oF,eH,oZ,eK,mO,aO,bE,if_neg hTU]
 generalize nR P h T (aev G env s) (aev G env x)=q
 cases P.underlying U with
 | none=>rfl
 | some t=>cases t <;> first | rfl | (cases q <;> rfl)
theorem bKc {T:TypeId} {x:Operand}:dW P G dr (.call ⟨.builtin .cap,#[x],#[T]⟩) d os K env h=kV P G dr (iX P h .cap #[T] [aev G env x]) d os K env:=by
 simp only [dW,oF,eH,oZ,eK,mO,aO,bE]
 cases iX P h .cap #[T] [aev G env x] <;> rfl
theorem aNb {T e:TypeId} {h:List AObj} (hT:P.underlying T=some (.slice e)):iX P h .cap #[T] [.e0]=some (.i .i64 0,h):=by simp [iX,hT]
theorem aUg {T:TypeId} {x:AV} {h:List AObj}:sB P h T .e0 x=if jL h x then fJ P h T .e0 x else fJ P (freeze (dJ dep h x) h) T .e0 (fU dep h x):=rfl
theorem aUf {T:TypeId} {x:AV} {h:List AObj} {id o n:Nat} {t:Bool}:sB P h T (.hs id o n t) x=if jL h x then fJ P h T (.hs id o n t) x else fJ P (freeze (dJ dep h x) h) T (.hs id o n t) (fU dep h x):=rfl
theorem bDn {fx:Operand} {args:Array Operand} {tys:Array TypeId}:dW P G dr (.call ⟨.value fx,args,tys⟩) d os K env h=bBh P G dr (aev G env fx) (args.toList.map (aev G env)) d os K env h:=by
 simp only [dW,oF,eH,oZ,eK,mO,bBh]
 cases aev G env fx <;> rfl
def aJh (P:Program) (G:Md) (T:Option TypeDesc) (x:AV) (h1:List AObj) (d:Option Nat) (os:List fI) (K:List AV→List AObj→Prop) (env:List AV):Prop:=
 match T,x with
 | some (.map _ _),.mapv ks vs=>dB P G none os K (gJ env d (.ptr h1.length 0)) (h1++[.mit none ks vs])
 | some .string,.s l=>dB P G none os K (gJ env d (.ptr h1.length 0)) (h1++[.sit l 0])
 | _,_=>False
theorem aYe {T:TypeId} {x:Operand}:dW P G none (.range T x) d os K env h=aJh P G (P.underlying T) (fU dep h (aev G env x)) (freeze (dJ dep h (aev G env x)) h) d os K env:=by
 simp only [dW,oF,eH,oZ,eK,wY,aH,if_false,aJh]
 cases P.underlying T with
 | none=>rfl
 | some t=>cases t <;> first | rfl | (cases fU dep h (aev G env x) <;> rfl)
def bQl (P:Program) (G:Md) (x:AV) (d:Option Nat) (os:List fI) (K:List AV→List AObj→Prop) (env:List AV) (h:List AObj):Prop:=
 match x with
 | .ptr id 0=>match h[id]? with
   | some (.mit _ ks vs)=>(ks=[]→dB P G none os K (gJ env d (.tup [.b false])) h)∧∀ (j:Nat) (k v:AV),ks[j]? = some k→vs[j]? = some v→dB P G none os K (gJ env d (.tup [.b true,k,v])) (h.set id (.mit (some (k,v)) (ks.eraseIdx j) (vs.eraseIdx j)))
   | _=>False
 | _=>False
theorem aJe {l:List UInt8} {h1:List AObj}:aJh P G (some .string) (.s l) h1 d os K env=dB P G none os K (gJ env d (.ptr h1.length 0)) (h1++[.sit l 0]):=rfl
def aCg (P:Program) (G:Md) (x:AV) (d:Option Nat) (os:List fI) (K:List AV→List AObj→Prop) (env:List AV) (h:List AObj):Prop:=
 match x with
 | .ptr id 0=>match h[id]? with
   | some (.sit l pos)=>(l.length≤pos→dB P G none os K (gJ env d (.tup [.b false])) h)∧∀ (c:UInt8),l[pos]? = some c→(c.toNat < 128→dB P G none os K (gJ env d (.tup [.b true,.i .i64 pos,.i .i32 c.toNat])) (h.set id (.sit l (pos+1)))) ∧
       ∀ (rn k:Nat),128≤c.toNat→128≤rn→rn≤2147483647→1≤k→dB P G none os K (gJ env d (.tup [.b true,.i .i64 pos,.i .i32 rn])) (h.set id (.sit l (pos+k)))
   | _=>False
 | _=>False
theorem aYg {x:Operand}:dW P G none (.next x true) d os K env h=aCg P G (aev G env x) d os K env h:=by
 simp only [dW,oF,eH,oZ,eK,wY,aH,if_false,aCg]
 cases aev G env x with
 | ptr id o=>cases o with
   | zero=>simp only; cases h[id]? with
     | none=>rfl
     | some ob=>cases ob <;> rfl
   | succ o=>rfl
 | _=>rfl
theorem Z1 {id:Nat} {l:List UInt8} {pos:Nat} (hid:h[id]? = some (.sit l pos)) (h0:l.length≤pos→dB P G none os K (gJ env d (.tup [.b false])) h)
   (h1:∀ (c:UInt8),l[pos]? = some c→c.toNat < 128→dB P G none os K (gJ env d (.tup [.b true,.i .i64 pos,.i .i32 c.toNat])) (h.set id (.sit l (pos+1))))
   (h2:∀ (c:UInt8) (rn k:Nat),l[pos]? = some c→128≤c.toNat→128≤rn→rn≤2147483647→1≤k→dB P G none os K (gJ env d (.tup [.b true,.i .i64 pos,.i .i32 rn])) (h.set id (.sit l (pos+k)))):aCg P G (.ptr id 0) d os K env h:=by
 unfold aCg
 simp only [hid]
 exact ⟨h0,fun c hc=>⟨h1 c hc,fun rn k=>h2 c rn k hc⟩⟩
theorem bRq {f:FuncId} {a b args:List AV}:bBh P G dr (.fn f a b) args d os K env h=tV P G dr f (a++args++b) d os K env h:=rfl
theorem aNe {f:FuncId} {A:List AV} {r:AV} (s:Ctr P G f (A.map (fU dep h)) r) (k:dB P G dr os K (gJ env d (mat r (fW r h A)).1) (mat r (fW r h A)).2):tV P G dr f A d os K env h:=by
 cases dr
 · exact .inl (ACalls.sem s k)
 · exact ⟨r,s,k⟩

def aPo (h:List AObj):AV→AV
 | .e0=>.e0
 | a=>fU dep h a
theorem aNd {f:FuncId} {A A':List AV} {r:AV} (s:Ctr P G f A' r) (hA:A.map (aPo h)=A') (k:dB P G none os K (gJ env d (mat r (fW r h A)).1) (mat r (fW r h A)).2):tV P G none f A d os K env h:=by
 subst hA
 refine .inl (ACalls.sem0 s (by simp) (fun j a a' h1 h2=>?_) k)
 rw [dR,h1] at h2
 simp only [cG,aA] at h2
 subst h2
 cases a <;> first | exact .inr ⟨rfl,rfl⟩ | exact .inl rfl
def bKh (G:Md) (x:AV) (env:List AV) (h:List AObj):Prop:=match x with
 | .p (.iface T v)=>G.pan (.iface T v) env h
 | _=>False
theorem bKf {T:TypeId} {v:Value}:bKh G (.p (.iface T v)) env h=G.pan (.iface T v) env h:=rfl
theorem aYf {x:Operand}:dW P G none (.panic x) d os K env h=bKh G (aev G env x) env h:=by
 simp only [dW,oF,eH,oZ,eK,bKh]
 cases aev G.g env x <;> first | rfl | (rename_i v; cases v <;> rfl)
def aOk (P:Program) (T:TypeId) (x:AV):Option AV:=match P.underlying T with
 | Option.none | some (.interface _)=>Option.none
 | some _=>(toV x).map fun v=>.p (.iface T v)
theorem aYi {T:TypeId} {x:Operand}:dW P G dr (.makeInterface T x) d os K env h=mN P G dr (aOk P T (aev G env x)) d os K env h:=by
 simp only [dW,oF,eH,oZ,eK,aop,aOk]
 cases P.underlying T with
 | none=>rfl
 | some t=>cases t <;> cases toV (aev G env x) <;> rfl

theorem bCw {v:AV}:mN P G dr (some v) d os K env h=dB P G dr os K (gJ env d v) h:=rfl
theorem bJs {c:Prop} [Decidable c] {v:AV}:mN P G dr (if c then some v else Option.none) d os K env h=(c∧dB P G dr os K (gJ env d v) h):=by
 by_cases hc:c <;> simp [hc,mN]
theorem bEk {h':List AObj}:aMt P G dr (some h') d os K env=dB P G dr os K (gJ env d .u) h':=rfl
theorem bKx {c:Prop} [Decidable c] {h':List AObj}:aMt P G dr (if c then some h' else Option.none) d os K env=(c∧dB P G dr os K (gJ env d .u) h'):=by
 by_cases hc:c <;> simp [hc,aMt]
theorem aXg {v:AV} {h':List AObj}:kV P G dr (some (v,h')) d os K env=dB P G dr os K (gJ env d v) h':=rfl
theorem bCv {c:Prop} [Decidable c] {v:AV} {h':List AObj}:kV P G dr (if c then some (v,h') else Option.none) d os K env=(c∧dB P G dr os K (gJ env d v) h'):=by
 by_cases hc:c <;> simp [hc,kV]
theorem aQk {n:Nat} {x:AV}:gJ env (some n) x=env.set n x:=rfl
theorem aQl {x:AV}:gJ env Option.none x=env:=rfl
theorem bEq {G:Glob} {t:Nat}:aev G env (.tmp t)=env.getD t .u:=rfl
theorem aSl {G:Glob} {v:Value}:aev G env (.const v)=aWr v:=rfl
theorem bAm {G:Glob} {f:FuncId}:aev G env (.func f)=.fn f [] []:=rfl
end

attribute [go_sem] aSk bEo bEp bAj bAk
attribute [go_sem ↓] bCk aOx bCm aWx aWy bJm bCn aWz aYr aQq aKd aVi bDl aQi bDk aYm bKd aYj H2 bDm aYc aFj bKe aYl aYk bKa bQa aFk aJi aYd Y4 Y3 aYh aQh Y2 aJj bKb aQj sV bKc bDn aYe aYg aYf aYi
attribute [go_sem] Int.toNat_one aHf bCl bJn W7 aHt aPc U8 aNp aGm bHr bHs aRv aRz aRw aRy aRx bRq bId bCw bJs bEk bKx aXg bCv aQk aQl bEq aSl bAm
attribute [go_sem ↓] aZv aLd
attribute [go_sem] aTr aOf bKf toV bCa aUw aOk cG
attribute [go_sem] bRl bRm bRk aWr aGq aOj iJ zX tZ aEa apart rL lP iZ AV.one aUp aUo bJg aUl aEq jM aUn aGy oW C2 jL mH nS bBk eO aUg aUf nR fJ nT aJe bIk uU bMt bMx aOn lM iD lN
attribute [go_sem] List.set_cons_succ List.set_cons_zero List.getD_cons_succ iT aO bE cG Int.ofNat_eq_natCast Int.toNat_natCast Nat.mul_one wZ cZ xB bP cA aD aY bJ aU List.append_nil gU kW eW dX
attribute [go_sem] dJ pers persL flat flatL mat matL fW aDz wH U9

inductive bIs where
 | k
 | j
 | v (x:AV)

def wC (F:Nat→AV):Nat→List bIs→List AV→List AV
 | i,.k::ps,v::vs=>v::wC F (i+1) ps vs
 | i,.j::ps,_::vs=>F i::wC F (i+1) ps vs
 | i,.v x::ps,_::vs=>x::wC F (i+1) ps vs
 | _,_,_=>[]
def iL:List bIs→List AV→List AV→Prop
 | .k::ps,v::vs,w::ws=>w=v∧iL ps vs ws
 | .j::ps,_::vs,_::ws=>iL ps vs ws
 | .v x::ps,_::vs,w::ws=>w=x∧iL ps vs ws
 | [],[],[]=>True
 | _,_,_=>False

theorem aZm:∀ (ps:List bIs) (E e:List AV) (i:Nat) (F:Nat→AV),(∀ m v,e[m]? = some v→F (i+m)=v)→iL ps E e→wC F i ps E=e:=by
 intro ps
 induction ps with
 | nil=>intro E e i F _ h; cases E <;> cases e <;> simp [iL] at h; simp [wC]
 | cons p ps ih=>
   intro E e i F hF h
   cases E with
   | nil=>cases e <;> cases p <;> simp [iL] at h
   | cons v vs=>
     cases e with
     | nil=>cases p <;> simp [iL] at h
     | cons w ws=>
       have hF':∀ m v,ws[m]? = some v→F (i+1+m)=v:=fun m u hm=>by have:=hF (m+1) u (by simpa using hm); rw [← this]; congr 1; omega
       cases p with
       | k=>obtain ⟨h1,h2⟩:=h; simp only [wC]; rw [ih vs ws _ F hF' h2,h1]
       | j=>simp only [wC]; rw [ih vs ws _ F hF' h]; have:=hF 0 w rfl; simpa using this
       | v x=>obtain ⟨h1,h2⟩:=h; simp only [wC]; rw [ih vs ws _ F hF' h2,h1]

section
variable {P:Program} {G:Md} {env:List AV} {h:List AObj} {Q:Exit→List AV→List AObj→Prop}

theorem dD {c:lD} {S:Type} (ps:S→List bIs) (hp:S→List AObj) (I:S→Prop) (μ:S→Nat) (s0:S) (h0:I s0) (hh:h=hp s0) (k0:iL (ps s0) env env)
   (round:∀ (s:S) (j:Nat→AV),I s→awx P G c (B0 (fun e' h'=>∃ s',I s'∧μ s' < μ s∧h'=hp s'∧iL (ps s') env e') Q) (wC j 0 (ps s) env) (hp s)):awx P G (.loop c) Q env h:=by
 refine aWw (fun s e h'=>I s∧h'=hp s∧iL (ps s) env e) μ s0 ⟨h0,hh,k0⟩ ?_
 rintro s e h' ⟨hI,rfl,hf⟩
 have he:wC (fun n=>e.getD n .u) 0 (ps s) env=e:=aZm _ env e 0 _ (fun m v hv=>by simp [List.getD,hv]) hf
 have r:=round s (fun n=>e.getD n .u) hI
 rw [he] at r
 have mono:(fun e2 h2=>∃ s',I s'∧μ s' < μ s∧h2=hp s'∧iL (ps s') env e2)=fun e2 h2=>∃ s',(I s'∧h2=hp s'∧iL (ps s') env e2)∧μ s' < μ s:=by
   funext e2 h2
   exact propext ⟨fun ⟨s',a,b,c,d⟩=>⟨s',⟨a,c,d⟩,b⟩,fun ⟨s',⟨a,c,d⟩,b⟩=>⟨s',a,b,c,d⟩⟩
 rw [mono] at r
 exact r

end

section
variable {P:Program} {G:Md} {env:List AV} {h:List AObj} {Q:Exit→List AV→List AObj→Prop}
theorem jW {c:lD} {S:Type} (ps:S→List bIs) (hp:S→List AObj) (I:S→Prop) (μ:S→Nat) (s0:S) (g0:List AObj) (h0:I s0) (hh:h=hp s0++g0) (k0:iL (ps s0) env env)
   (round:∀ (s:S) (g:List AObj) (j:Nat→AV),I s→awx P G c (B0 (fun e' h'=>∃ s' g',I s'∧μ s' < μ s∧h'=hp s'++g'∧iL (ps s') env e') Q) (wC j 0 (ps s) env) (hp s++g)):awx P G (.loop c) Q env h:=by
 refine dD (S:=S × List AObj) (fun s=>ps s.1) (fun s=>hp s.1++s.2) (fun s=>I s.1) (fun s=>μ s.1) (s0,g0) h0 hh k0 ?_
 rintro ⟨s,g⟩ j hI
 have r:=round s g j hI
 have mono:(fun (e2:List AV) (h2:List AObj)=>∃ s' g',I s'∧μ s' < μ s∧h2=hp s'++g'∧iL (ps s') env e2)=fun e2 h2=>∃ s':S × List AObj,I s'.1∧μ s'.1 < μ s∧h2=hp s'.1++s'.2∧iL (ps s'.1) env e2:=by
   funext e2 h2
   exact propext ⟨fun ⟨s',g',a,b,c,d⟩=>⟨(s',g'),a,b,c,d⟩,fun ⟨s',a,b,c,d⟩=>⟨s'.1,s'.2,a,b,c,d⟩⟩
 rw [mono] at r
 exact r
end

section
variable {α:Type} {f:α→List AV} {m:Nat}
theorem mV (hf:∀ x,(f x).length=m):∀ (l:List α),(l.flatMap f).length=l.length * m
 | []=>by simp
 | x::l=>by rw [dL,aG,hf,mV hf l,aD,Nat.succ_mul,nE]
theorem yP (hf:∀ x,(f x).length=m):∀ (l:List α) (k:Nat),(l.flatMap f).drop (k * m)=(l.drop k).flatMap f
 | l,0=>by simp
 | [],k+1=>by simp
 | x::l,k+1=>by
   rw [dL,Nat.succ_mul,nE,← zZ,List.drop_left' (hf x),yP hf l k,eW]
theorem yO (hf:∀ x,(f x).length=m):∀ (l:List α) (k:Nat),(l.flatMap f).take (k * m)=(l.take k).flatMap f
 | l,0=>by simp
 | [],k+1=>by simp
 | x::l,k+1=>by
   rw [dL,Nat.succ_mul,nE,List.take_append,hf,Nat.add_sub_cancel_left,yO hf l k,gU,dL,aJ (by rw [hf]; omega)]
theorem oK (hf:∀ x,(f x).length=m) (l:List α) (k:Nat):((l.flatMap f).drop (k * m)).take m=((l[k]?).map f).getD []:=by
 rw [yP hf]
 have:(l.drop k).flatMap f=((l[k]?).map f).getD []++(l.drop (k+1)).flatMap f:=by
   cases hk:l[k]? with
   | none=>
     have hle:=List.getElem?_eq_none_iff.1 hk
     rw [cK hle,cK (by omega)]; simp
   | some x=>
     obtain ⟨hlt,hx⟩:=eL.1 hk
     rw [cP hlt,dL,hx]; simp
 rw [this]
 cases hk:l[k]? with
 | none=>
   have hle:=List.getElem?_eq_none_iff.1 hk
   rw [cK (by omega)]; simp
 | some x=>simp [List.take_left' (hf x)]
theorem aCr (hf:∀ x,(f x).length=m) (l:List α) (k:Nat) {j:Nat} (hj:j < m):(l.flatMap f)[k * m+j]? = (l[k]?).bind fun x=>(f x)[j]? := by
 have h1:(l.flatMap f)[k * m+j]? = ((((l.flatMap f).drop (k * m)).take m))[j]? := by
   rw [List.getElem?_take_of_lt hj,dT]
 rw [h1,oK hf]
 cases hk:l[k]? with
 | none=>simp
 | some x=>simp
end
end Go.Vo

namespace Go.Vo
section
variable {P:Program} {G:Md} {dr:Option DR} {d:Option Nat} {os:List fI} {K:List AV→List AObj→Prop} {env:List AV} {h:List AObj} {Q:Exit→List AV→List AObj→Prop}
theorem aVs {op:Op} {x:Bool} (h1:x=true→dW P G dr op d os K env h) (h2:x=false→dB P G dr os K (gJ env d (.tup [])) h):lJ P G dr (.b x) true op d os K env h:=yM h1 h2
theorem aLj {op:Op} {x:Bool} (h1:x=false→dW P G dr op d os K env h) (h2:x=true→dB P G dr os K (gJ env d (.tup [])) h):lJ P G dr (.b x) false op d os K env h:=yM h1 h2
end
theorem aP {h:List AObj} {x r:AV} (hr:r=x) (hp:pers x=true):Fin h x r:=.inl ⟨hr,hp⟩
attribute [go_sem] true_and and_true if_true if_false aH aA exists_eq_left' reduceCtorEq or_true false_or true_or or_false
attribute [go_sem] wC iL
theorem wrap64 {x:Int} (h1 : -9223372036854775808≤x) (h2:x≤9223372036854775807):IntKind.i64.wrap x=x:=IntWalk.i64_in _ (by omega)
theorem aXn {s:List UInt8}:decide (s=[])=decide (s.length=0):=by cases s <;> simp
attribute [go_sem] wrap64 aXn Int.toNat_zero bX bY
theorem aOd {d:Nat}:tY Option.none d=some d:=rfl
theorem aUb {k:IntKind} {n:Int} {d:Nat} (h:0≤n):tY (some (.i k n)) d=some n.toNat:=if_pos h
theorem aEn {m:Nat}:((m:Int) - 1).toNat=m - 1:=by omega
theorem aEm {m:Nat}:((m:Int) - 2).toNat=m - 2:=by omega
theorem aEo {m:Nat}:((m:Int)+1).toNat=m+1:=by omega
theorem W6 {m:Nat} (h:2≤m):((m:Int) - 2+1).toNat=m - 1:=by omega
attribute [go_sem] aOd aUb aEn aEm aEo W6 Option.map_none wY Option.isSome_some cS cR aW aS aM bS
theorem aKs {l:List (List UInt8)} {k:Nat} (h:k < l.length):(l.map AV.s)[k]? = some (.s (l.getD k [])):=by simp [h]
theorem R7 {q:IntKind} {l:List Int} {k:Nat} (h:k < l.length):(l.map (AV.i q))[k]? = some (.i q (l.getD k 0)):=by simp [h]
attribute [go_sem] aKs R7
theorem aLx {h:List AObj} {id sz n m:Nat} {cells cs:List AV} (hid:h[id]? = some (.arr false sz cs)) (hm:m=n) (hc:cells=cs) (hl:cs.length=n * sz) (hp:persL cs=true):Fin h (.hs id 0 n false) (.own sz cells m):=by
 subst hm hc
 refine .inr ⟨⟨rfl,rfl,cells,hid,by omega,?_,hp⟩,by simp [cD],by simp [cD,iW]⟩
 rw [dX,aJ (by omega)]
theorem aPg {α:Type} {l:List α} {n:Nat} (h:l.length≤n):l.take n=l:=aJ h
attribute [go_sem] fM
def qX (h:List AObj) (a:AV):AV:=
 let L:=fun l=>if persL l then l else l.map (fU 8 h)
 match a with
 | .e0=>.sl [] 0
 | .hs id off n _=>match h[id]? with
   | some (.arr _ sz cells)=>if off+n * sz≤cells.length then .sl (L ((cells.drop off).take (n * sz))) n else .u
   | _=>.u
 | .ptr id off=>match h[id]? with
   | some (.box _ cells)=>.box (L cells) off
   | some (.arr _ _ cells)=>.box (L cells) off
   | _=>.u
 | .mp id=>match h[id]? with
   | some (.map _ ks vs)=>.mapv (L ks) (L vs)
   | _=>.u
 | .fn f a b=>.fn f (L a) (L b)
 | .agg cs=>.agg (L cs)
 | .tup vs=>.tup (L vs)
 | _=>.u
theorem fS {h:List AObj} {a:AV}:fU dep h a=if pers a then a else qX h a:=rfl
theorem kY {l:List (List UInt8)}:persL (l.map AV.s)=true:=by
 induction l with
 | nil=>rfl
 | cons x l ih=>simp [persL,pers,ih]
theorem fX {k:IntKind} {l:List Int}:persL (l.map (AV.i k))=true:=by
 induction l with
 | nil=>rfl
 | cons x l ih=>simp [persL,pers,ih]
theorem bI {P:Program} {G:Md} {dr:Option DR} {d:Option Nat} {os:List fI} {K:List AV→List AObj→Prop} {env:List AV} {h:List AObj} {f:FuncId} {A A':List AV} {r:AV} (s:Ctr P G f A' r) (hA:A.map (fU dep h)=A')
   (k:dB P G dr os K (gJ env d (mat r (fW r h A)).1) (mat r (fW r h A)).2):tV P G dr f A d os K env h:=aNe (hA ▸ s) k
theorem aPf {α β:Type} {f:α→β} {l:List α} {k:Nat}:(l.map f).take k=(l.take k).map f:=List.map_take.symm
theorem aSp {α β:Type} {f:α→β} {l:List α} {k:Nat}:(l.map f).drop k=(l.drop k).map f:=List.map_drop.symm
attribute [go_sem] fS qX kY fX aPf aSp nB Nat.sub_zero
attribute [go_sem] aPg
theorem bAd {l:List (List UInt8)}:flatL (l.map AV.s)=true:=by
 induction l with
 | nil=>rfl
 | cons x l ih=>simp [flatL,flat,ih]
theorem bAe {k:IntKind} {l:List Int}:flatL (l.map (AV.i k))=true:=by
 induction l with
 | nil=>rfl
 | cons x l ih=>simp [flatL,flat,ih]
attribute [go_sem] aX bAd bAe jB jC dL freeze AObj.fz
section
variable {P:Program} {G:Glob} {N:DR} {env:List AV}
theorem bBb {T:TypeId} {x:Operand}:J6 G N (.load T x) env=kU N (aev G env x):=by simp [J6,Op.operands,pN]
theorem bHu {x:Operand}:J6 G N (.nilCheck x) env=kU N (aev G env x):=by simp [J6,Op.operands,pN]
theorem U2 {T:TypeId} {x:Operand} {f:Nat}:J6 G N (.fieldAddr T x f) env=kU N (aev G env x):=by simp [J6,Op.operands,pN]
theorem U1 {T:TypeId} {x i:Operand}:J6 G N (.indexAddr T x i) env=(kU N (aev G env x)∧kU N (aev G env i)):=by simp [J6,Op.operands,pN]
theorem bHv {T:TypeId} {x:Operand}:J6 G N (.call ⟨.builtin .len,#[x],#[T]⟩) env=kU N (aev G env x):=by simp [J6,Op.operands,Call.operands,pN]
theorem aNa {T:TypeId} {s x:Operand}:J6 G N (.call ⟨.builtin .append,#[s,x],#[T,T]⟩) env=vH N (aev G env s):=by simp [J6]
variable {P:Program} {d:Option Nat} {os:List fI} {K:List AV→List AObj→Prop} {h:List AObj}
theorem bEf {T:TypeId} {x:Operand}:ckV P G N (.load T x) d os K env h=(kU N (aev G env x)∧dW P G (some N) (.load T x) d os K env h):=by rw [← bBb (T:=T)]; rfl
theorem aZu {T:TypeId} {a x:Operand}:ckV P G N (.store T a x) d os K env h=(vH N (aev G env a)∧dW P G (some N) (.store T a x) d os K env h):=rfl
theorem bKp {x:Operand}:ckV P G N (.nilCheck x) d os K env h=(kU N (aev G env x)∧dW P G (some N) (.nilCheck x) d os K env h):=by rw [← bHu]; rfl
theorem aAc {T:TypeId} {x:Operand} {f:Nat}:ckV P G N (.fieldAddr T x f) d os K env h=(kU N (aev G env x)∧dW P G (some N) (.fieldAddr T x f) d os K env h):=by rw [← U2 (T:=T) (f:=f)]; rfl
theorem aAb {T:TypeId} {x i:Operand}:ckV P G N (.indexAddr T x i) d os K env h=((kU N (aev G env x)∧kU N (aev G env i))∧dW P G (some N) (.indexAddr T x i) d os K env h):=by rw [← U1 (T:=T)]; rfl
theorem bKq {T:TypeId} {x:Operand}:ckV P G N (.call ⟨.builtin .len,#[x],#[T]⟩) d os K env h=(kU N (aev G env x)∧dW P G (some N) (.call ⟨.builtin .len,#[x],#[T]⟩) d os K env h):=by rw [← bHv (T:=T)]; rfl
theorem aRp {T:TypeId} {s x:Operand}:ckV P G N (.call ⟨.builtin .append,#[s,x],#[T,T]⟩) d os K env h=(vH N (aev G env s)∧dW P G (some N) (.call ⟨.builtin .append,#[s,x],#[T,T]⟩) d os K env h):=by rw [← aNa (T:=T) (x:=x)]; rfl
theorem aYx {n id:Nat}:DR.old ⟨n,[]⟩ id=(id < n):=rfl
theorem aYw {n x id:Nat}:DR.old ⟨n,[x]⟩ id=(id < n∧¬ id=x):=by simp [DR.old]
theorem aYv {n x y id:Nat}:DR.old ⟨n,[x,y]⟩ id=(id < n∧¬ id=x∧¬ id=y):=by simp [DR.old]
theorem aZl {n id:Nat}:DR.mut ⟨n,[]⟩ id=(n≤id):=rfl
theorem aZk {n x id:Nat}:DR.mut ⟨n,[x]⟩ id=(n≤id∨id=x):=by simp [DR.mut]
end
theorem bAa {α:Type} {l m:List α} {n:Nat}:(l++m)[l.length+n]? = m[n]? := by rw [aF (by omega)]; congr 1; omega
theorem aSc {α:Type} {l m:List α}:(l++m)[l.length]? = m[0]? := by rw [aF (by omega)]; congr 1; omega
theorem aXs {α:Type} {l m:List α} {n:Nat} {a:α}:(l++m).set (l.length+n) a=l++m.set n a:=by rw [rD _ _ (by omega)]; congr 2; omega
theorem aPq {α:Type} {l m:List α} {a:α}:(l++m).set l.length a=l++m.set 0 a:=by rw [rD _ _ (by omega)]; congr 2; omega
attribute [go_sem] bAa aSc aXs aPq bW aG
attribute [go_sem ↓] bEf aZu bKp aAc aAb bKq aRp
attribute [go_sem] kU vH AV.refs aYx aYw aYv aZl aZk
def fD (sz N:Nat) (g:List AObj) (out:AV) (cells:List AV) (n:Nat):Prop:=
 (out=.e0∧cells=[]∧n=0)∨∃ i,out=.hs (i+N) 0 n false∧g[i]? = some (.arr false sz cells)∧cells.length=n * sz
theorem kK {sz N:Nat} {g:List AObj}:fD sz N g .e0 [] 0:=.inl ⟨rfl,rfl,rfl⟩
theorem fD.more {sz N:Nat} {g:List AObj} {out:AV} {cells:List AV} {n:Nat} (h:fD sz N g out cells n) (g':List AObj):fD sz N (g++g') out cells n:=by
 rcases h with h | ⟨i,h1,h2,h3⟩
 · exact .inl h
 · exact .inr ⟨i,h1,by rw [aC (aK h2)]; exact h2,h3⟩
theorem fD.len {sz N:Nat} {g:List AObj} {out:AV} {cells:List AV} {n:Nat} (h:fD sz N g out cells n):cells.length=n * sz:=by
 rcases h with ⟨_,h2,h3⟩ | ⟨i,h1,h2,h3⟩
 · simp [h2,h3]
 · exact h3

section
variable {P:Program} {G:Md} {dr:Option DR} {d:Option Nat} {os:List fI} {K:List AV→List AObj→Prop} {env:List AV}
theorem aNz {pre g:List AObj} {T e by_:Nat} {z:List AV} {out x:AV} {cells news:List AV} {n m:Nat} (ho:fD z.length pre.length g out cells n) (hT:eI P T=some e) (hz:zeroOf P e=some z) (hs:kB P e=some z.length) (hb:aAs P e=some by_)
   (hpos:0 < z.length) (hp:jL (pre++g) x=true) (hx:C2 (pre++g) z.length x=some (news,m)) (hbd:(n+m) * by_≤140737488355328∧n+m≤140737488355328)
   (k:∀ out' g',fD z.length pre.length g' out' (cells++news) (n+m)→(∀ (i:Nat) (o:AObj),g[i]? = some o→(∀ c:List AV,o ≠ .arr false z.length c)→g'[i]? = some o)→dB P G dr os K (gJ env d out') (pre++g')):kV P G dr (sB P (pre++g) T out x) d os K env:=by
 have hm : news.length=m * z.length:=by
   cases x with
   | e0=>simp only [C2,aA,aI] at hx; obtain ⟨rfl,rfl⟩:=hx; simp
   | sl c q=>
     simp only [C2] at hx
     split at hx
     · simp only [aA,aI] at hx; obtain ⟨rfl,rfl⟩:=hx; assumption
     · cases hx
   | hs id off q t=>
     simp only [C2] at hx
     split at hx
     · split at hx
       · rename_i hc
         simp only [aA,aI] at hx; obtain ⟨rfl,rfl⟩:=hx
         rw [eZ,nB]; omega
       · cases hx
     · cases hx
   | _=>simp [C2] at hx
 have e1:sB P (pre++g) T out x=fJ P (pre++g) T out x:=by simp [sB,hp]
 rw [e1]
 rcases ho with ⟨rfl,rfl,rfl⟩ | ⟨i,rfl,hi,hl⟩
 · have e2:fJ P (pre++g) T .e0 x=some (.hs (pre++g).length 0 m false,(pre++g)++[.arr false z.length news]):=by
     simp only [fJ,hT,hz,hb,hpos,hs,hx,and_self,if_true,true_and]
     rw [if_pos (by simpa using hbd)]
   rw [e2]
   show dB P G dr os K _ _
   rw [bW]
   refine k _ _ (.inr ⟨g.length,?_,by simp,by simpa using hm⟩) (fun i o ho _=>by rw [aC (aK ho)]; exact ho)
   simp [nE]
 · have hlt:=aK hi
   have hg:(pre++g)[i+pre.length]? = some (.arr false z.length cells):=by
     rw [aF (by omega)]; simpa using hi
   have e2:fJ P (pre++g) T (.hs (i+pre.length) 0 n false) x=some (.hs (pre++g).length 0 (n+m) false,(pre++g).set (i+pre.length) .dead++[.arr false z.length (cells++news)]):=by
     simp only [fJ,hT,hz,hb,hpos,hs,hx,hg,and_self,if_true,true_and,hl,cZ,aX,hbd,aH,if_false,dX]
   rw [e2]
   show dB P G dr os K _ _
   rw [rD _ _ (by omega),bW,Nat.add_sub_cancel]
   refine k _ _ (.inr ⟨g.length,?_,by simp,?_⟩) (fun j o hj hn=>?_)
   · simp [nE]
   · rw [aG,hl,hm,Nat.add_mul]
   · have hne:i ≠ j:=by
       rintro rfl
       rw [hi] at hj; cases hj
       exact hn _ rfl
     rw [aC (by simpa using aK hj),dE hne]
     exact hj
theorem fE {h pre g more:List AObj} {T e by_ sz N:Nat} {z:List AV} {out x:AV} {cells news:List AV} {n m:Nat} (ho:fD sz N g out cells n) (hN:pre.length=N) (hh:h=pre++(g++more)) (hT:eI P T=some e) (hz:zeroOf P e=some z) (hs:kB P e=some sz) (hb:aAs P e=some by_)
   (hzl:z.length=sz) (hpos:0 < sz) (hp:jL h x=true) (hx:C2 h sz x=some (news,m)) (hbd:(n+m) * by_≤140737488355328∧n+m≤140737488355328)
   (k:∀ out' g',fD sz N g' out' (cells++news) (n+m)→(∀ (i:Nat) (o:AObj),g[i]? = some o→(∀ c:List AV,o ≠ .arr false sz c)→g'[i]? = some o)→dB P G dr os K (gJ env d out') (pre++g')):kV P G dr (sB P h T out x) d os K env:=by
 subst hh hzl hN
 exact aNz (ho.more more) hT hz hs hb hpos hp hx hbd (fun out' g' h1 h2=>k out' g' h1 (fun i o hi hn=>h2 i o (by rw [aC (aK hi)]; exact hi) hn))
end
theorem yQ {pre g:List AObj} {sz n:Nat} {out:AV} {cells:List AV} (ho:fD sz pre.length g out cells n) (hp:persL cells=true):Fin (pre++g) out (.own sz cells n):=by
 rcases ho with ⟨rfl,rfl,rfl⟩ | ⟨i,rfl,hi,hl⟩
 · exact .inr ⟨⟨rfl,rfl⟩,by simp [cD],by simp [cD]⟩
 · exact aLx (by rw [aF (by omega)]; simpa using hi) rfl rfl hl hp

def aXp (k:Nat) (h:List AObj) (a:AV):AV:=
 let L:=fun l=>if persL l then l else l.map (fU k h)
 match a with
 | .e0=>.sl [] 0
 | .hs id off n _=>match h[id]? with
   | some (.arr _ sz cells)=>if off+n * sz≤cells.length then .sl (L ((cells.drop off).take (n * sz))) n else .u
   | _=>.u
 | .ptr id off=>match h[id]? with
   | some (.box _ cells)=>.box (L cells) off
   | some (.arr _ _ cells)=>.box (L cells) off
   | _=>.u
 | .mp id=>match h[id]? with
   | some (.map _ ks vs)=>.mapv (L ks) (L vs)
   | _=>.u
 | .fn f a b=>.fn f (L a) (L b)
 | .agg cs=>.agg (L cs)
 | .tup vs=>.tup (L vs)
 | _=>.u
def xV (k:Nat) (h:List AObj) (a:AV):List Nat:=
 let L:=fun l=>if persL l then [] else l.flatMap (dJ k h)
 match a with
 | .hs id off n _=>match h[id]? with
   | some (.arr _ sz cells)=>id::L ((cells.drop off).take (n * sz))
   | _=>[]
 | .ptr id off=>match h[id]? with
   | some (.box _ cells)=>id::L cells
   | some (.arr _ _ cells)=>id::L cells
   | _=>[]
 | .mp id=>match h[id]? with
   | some (.map _ ks vs)=>id::(L ks++L vs)
   | _=>[]
 | .fn f a b=>L a++L b
 | .agg cs=>L cs
 | .tup vs=>L vs
 | _=>[]
theorem sU {h:List AObj} {a:AV}:dJ dep h a=if pers a then [] else xV 8 h a:=rfl
theorem aUy {h:List AObj} {a:AV}:fU 8 h a=if pers a then a else aXp 7 h a:=rfl
theorem X9 {h:List AObj} {a:AV}:dJ 8 h a=if pers a then [] else xV 7 h a:=rfl
theorem bRg {a:AObj} {l:List AObj} {f:AObj→AObj}:(a::l).modify 0 f=f a::l:=rfl
theorem bRf {a:AObj} {l:List AObj} {n:Nat} {f:AObj→AObj}:(a::l).modify (n+1) f=a::l.modify n f:=rfl
theorem aVt {l m:List AObj} {n:Nat} {f:AObj→AObj}:(l++m).modify (l.length+n) f=l++m.modify n f:=by
 apply qH
 intro i
 rw [eP]
 by_cases h:i < l.length
 · rw [aC h,aC h]
   have:l.length+n ≠ i:=by omega
   simp [this]
 · rw [aF (by omega),aF (by omega),eP]
   by_cases e:l.length+n=i
   · subst e; simp
   · have:n ≠ i - l.length:=by omega
     simp [e,this]
theorem bAc {l m:List AObj} {f:AObj→AObj}:(l++m).modify l.length f=l++m.modify 0 f:=by
 have:=aVt (l:=l) (m:=m) (n:=0) (f:=f); simpa using this
attribute [go_sem] sU aUy X9 aXp xV bRg bRf aVt bAc
end Go.Vo

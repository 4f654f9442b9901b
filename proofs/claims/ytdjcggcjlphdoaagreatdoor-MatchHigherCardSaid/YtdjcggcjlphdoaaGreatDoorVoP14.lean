/-
  The abstract layer, part Pc: a statement whose order Go leaves open: run in the order of its text it stands for every order. It speaks of any program that mixes its orders; no condition.
-/
import Derived.Test.YtdjcggcjlphdoaaGreatDoorVoP13
set_option linter.unusedVariables false
set_option linter.unusedSimpArgs false
set_option linter.constructorNameAsVariable false
namespace Go.Vo

def mK (ops:Array Oper) (i:Nat):Bool:=match ops[i]? with | some o=>dH o | Option.none=>false
def Fs (ops:Array Oper):List Nat:=(List.range ops.size).filter (mK ops)
def Rs (ops:Array Oper):List Nat:=(List.range ops.size).filter fun i => !mK ops i
def InR (ops:Array Oper) (p i:Nat):Prop:=∃ m,m < p∧(Rs ops)[m]? = some i
def Chg (rx:RX) (ops:Array Oper) (o:Oper):Prop:=dk rx ops o=some .w∨dk rx ops o=some .l

section
variable {P:Program} {G:Md} {rx:RX} {ops:Array Oper}
theorem bSu {o:Oper}:dk rx ops o=some .a↔dH o=true:=by
 constructor
 · intro h; exact aYp.1 (O8 h (by decide) (by decide)).2.2
 · intro h
   have hv:vOf rx ops o=false:=by
     cases hq:vOf rx ops o with
     | false=>rfl
     | true=>
       obtain ⟨T,len,ps,ho,_⟩:=aDw hq
       unfold dH at h; rw [ho] at h; cases h
   have hz:zOf rx o=false:=by
     cases hq:zOf rx o with
     | false=>rfl
     | true=>
       obtain ⟨f,as,ts,ho⟩:=S2 hq
       unfold dH at h; rw [ho] at h; cases h
   unfold dk
   rw [hv,hz]
   simpa using aYp.2 h
theorem bJb {o:Oper} {k:DK} (h:dk rx ops o=some k) (hk:k ≠ .c) (hl:k ≠ .l):omOf rx ops o=.n:=bHy (O8 h hk hl).1 (O8 h hk hl).2.1
theorem aPg {N:DR} {o:Oper} {k:DK} (h:dk rx ops o=some k) (hk:k ≠ .c) (hl:k ≠ .l) {env:List AV} {hh h':List AObj} {x:AV} (e:DOc P G N (omOf rx ops o) o.op env hh x h'):DOp P G o.op env hh x h':=by
 rw [bJb h hk hl] at e; exact e
theorem bIz {N:DR} {o:Oper} {k:DK} (h:dk rx ops o=some k) (hk:k ≠ .c) (hl:k ≠ .l) {env:List AV} {hh h':List AObj} {x:AV} (e:DOp P G o.op env hh x h'):DOc P G N (omOf rx ops o) o.op env hh x h':=by
 rw [bJb h hk hl]; exact e
theorem aFt {N:DR} {o:Oper} (h:dk rx ops o=some .w) {env:List AV} {hh h':List AObj} {x:AV} (e:DOc P G N (omOf rx ops o) o.op env hh x h'):yJ hh h':=bGg (O8 h (by decide) (by decide)).2.2 (aPg h (by decide) (by decide) e)
theorem aFs {N:DR} {o:Oper} (h:dk rx ops o=some .c) {env:List AV} {h0 hh:List AObj} {x:AV} (e:DOc P G N (omOf rx ops o) o.op env h0 x hh):hh=h0∧∀ h',DOc P G N (omOf rx ops o) o.op env h' x h':=by
 cases hv:vOf rx ops o with
 | true=>
   have hm:omOf rx ops o=.v:=by simp [omOf,hv]
   rw [hm] at e ⊢
   exact ⟨e.2,fun h'=>⟨e.1,rfl⟩⟩
 | false=>
   have hz:zOf rx o=false:=by
     cases hq:zOf rx o with
     | false=>rfl
     | true=>unfold dk at h; rw [hv,hq] at h; simp at h
   rw [bHy hv hz] at e ⊢
   have hd:sI o=some .c:=by unfold dk at h; rw [hv,hz] at h; simpa using h
   exact bBw hd e
theorem aFr {N:DR} {o:Oper} (hk:dk rx ops o=some .r∨dk rx ops o=some .c) {env:List AV} {h hh:List AObj} {x:AV} (e:DOc P G N (omOf rx ops o) o.op env h x hh):hh=h:=by
 rcases hk with hk | hk
 · exact (U3 (aFe (O8 hk (by decide) (by decide)).2.2) (aPg hk (by decide) (by decide) e)).1
 · exact (aFs hk e).1
theorem aBf {f:Operand} {as:Array Operand} {ts:Array TypeId} {K:AV→List AObj→Prop} {env env':List AV} {h:List AObj} (he:∀ o ∈ (Op.call ⟨.value f,as,ts⟩).operands.toList,aev G env o=aev G env' o) (e:eZ P G.np false (.call ⟨.value f,as,ts⟩) K env h):eZ P G.np false (.call ⟨.value f,as,ts⟩) K env' h:=by
 simp only [eZ,mA] at e ⊢
 have hargs:as.toList.map (aev G env')=as.toList.map (aev G env):=(mO (fun o ho=>he o (by simp only [Op.operands,Call.operands]; simp; simp at ho; exact .inr ho))).symm
 rw [hargs,(he f (by simp [Op.operands,Call.operands])).symm]
 exact e
theorem aAb {N:DR} {m:OM} {op:Op} {env env':List AV} {h h':List AObj} {x:AV} (he:∀ o ∈ op.operands.toList,aev G env o=aev G env' o) (e:DOc P G N m op env h x h'):DOc P G N m op env' h x h':=by
 cases m with
 | n=>exact J9 he e
 | z=>
   obtain ⟨⟨f,as,ts,rfl⟩,h1,h2⟩:=e
   exact ⟨⟨f,as,ts,rfl⟩,aBf he h1,h2⟩
 | v =>
   obtain ⟨⟨T,len,ps,rfl,ha⟩,rfl⟩:=e
   refine ⟨⟨T,len,ps,rfl,?_⟩,rfl⟩
   have hm:(ps.toList.map fun (i,x)=>(i,aev G env' x))=ps.toList.map fun (i,x)=>(i,aev G env x):=by
     apply iE
     rintro ⟨i,y⟩ hp
     simp only [bE,true_and]
     exact (he y (by simp only [Op.operands]; simp; exact ⟨i,by simpa using hp⟩)).symm
   unfold aJi at ha ⊢
   rw [hm]
   exact ha
theorem bJa {N:DR} {o:Oper} {X:Ctx} {w:World} {h h1:List AObj} {env:List AV} {a:Act} {x:AV} {next:Act→World→Prop} {Q:Exit→Act→World→Prop} (g:GH G X w h) (r:EnvOK G.ds X w h env a) (e:DOc P G N (omOf rx ops o) o.op env h x h1)
   (hn:∀ a' w' X',GH G X' w' h1→EnvOK G.ds X' w' h1 (gN env o.dst x) a'→Tr X w h X' w' h1→next a' w'):o.wp P a w next Q:=by
 cases hm:omOf rx ops o with
 | n=>
   rw [hm] at e
   refine C8 (K:=fun x1 h2=>x1=x∧h2=h1) o g r e ?_ (fun h=>by cases h)
   rintro x' h' a' w' X' ⟨rfl,rfl⟩ g' r' t
   exact hn _ _ _ g' r' t
 | z=>
   rw [hm] at e
   refine C8 (G:=G.np) (K:=fun x1 h2=>x1=x∧h2=h1) o g r e.2.1 ?_ (fun _ _ _ _ _ _ k=>k.elim)
   rintro x' h' a' w' X' ⟨rfl,rfl⟩ g' r' t
   exact hn _ _ _ g' r' t
 | v=>
   rw [hm] at e
   obtain ⟨⟨T,len,ps,ho,ha⟩,rfl⟩:=e
   exact jY r (aLh o ho g r ha) hn
end

theorem S6 {α:Type} (ops:Array α):ops.toList=(List.range ops.size).filterMap (ops[·]?):=by
 apply mU
 intro i
 have key:∀ n,n≤ops.size→(List.range n).filterMap (ops[·]?)=ops.toList.take n:=by
   intro n
   induction n with
   | zero=>intro _; simp
   | succ n ih=>
     intro hn
     have hlt:n < ops.size:=by omega
     rw [List.range_succ,List.filterMap_append,ih (by omega)]
     simp [hlt,List.take_add_one]
 rw [key ops.size (bQ _)]
 simp [← Array.length_toList]

theorem aUu (ops:Array Oper):eQ ops=(Fs ops++Rs ops).filterMap (ops[·]?):=by
 have h1:∀ (q:Oper→Bool) (q':Nat→Bool),(∀ i o,ops[i]? = some o→q' i=q o)→ops.toList.filter q=((List.range ops.size).filter q').filterMap (ops[·]?):=by
   intro q q' hq
   rw [S6]
   generalize List.range ops.size=l
   induction l with
   | nil=>rfl
   | cons i l ih=>
     cases ho:ops[i]? with
     | none=>
       rw [lE,ho]
       simp only
       rw [ih,aY]
       split
       · rw [lE,ho]
       · rfl
     | some o=>
       rw [lE,ho]
       simp only
       rw [aY,aY,hq i o ho]
       split
       · rw [lE,ho,ih]
       · exact ih
 unfold eQ Fs Rs
 rw [List.filterMap_append,h1 dH (mK ops) (fun i o ho=>by simp [mK,ho]),h1 (fun o => !dH o) (fun i => !mK ops i) (fun i o ho=>by simp [mK,ho])]

section
variable {ops:Array Oper}
theorem xF {i:Nat}:i ∈ Fs ops↔i < ops.size∧mK ops i=true:=by simp [Fs]
theorem xE {i:Nat}:i ∈ Rs ops↔i < ops.size∧mK ops i=false:=by simp [Rs]
theorem sU (n:Nat) (q:Nat→Bool) {m m' k k':Nat} (h1:((List.range n).filter q)[m]? = some k) (h2:((List.range n).filter q)[m']? = some k') (hl:m < m'):k < k':=by
 have hp:((List.range n).filter q).Pairwise (· < ·):=aJu _ (List.pairwise_lt_range (n:=n))
 rw [eV] at hp
 obtain ⟨a1,b1⟩:=fK.1 h1
 obtain ⟨a2,b2⟩:=fK.1 h2
 have:=hp m m' a1 a2 hl
 rw [b1,b2] at this
 exact this
theorem nL {m m' k k':Nat} (h1:(Rs ops)[m]? = some k) (h2:(Rs ops)[m']? = some k') (hl:m < m'):k < k':=sU _ _ h1 h2 hl
theorem aRs {m m' k:Nat} (h1:(Rs ops)[m]? = some k) (h2:(Rs ops)[m']? = some k):m=m':=by
 rcases Nat.lt_trichotomy m m' with h | h | h
 · have:=nL h1 h2 h; omega
 · exact h
 · have:=nL h2 h1 h; omega
theorem aTx:(Fs ops++Rs ops).Nodup:=by
 rw [mT]
 refine ⟨aJu _ List.nodup_range,aJu _ List.nodup_range,?_⟩
 intro a ha b hb hab
 subst hab
 have:=(xF.1 ha).2
 rw [(xE.1 hb).2] at this; cases this
end

structure Told (P:Program) (G:Md) (N:DR) (rx:RX) (ops:Array Oper) (h0:List AObj) (env0:List AV) (x:Nat→AV) (hr:Nat→List AObj) (zz:Nat→List AV):Prop where
 free:∀ (q i:Nat),(Fs ops)[q]? = some i→∃ (o:Oper) (T:TypeId),ops[i]? = some o∧o.op=.alloc T∧zeroOf P T=some (zz i)∧x i=.ptr (h0.length+q) 0∧(hr 0)[h0.length+q]? = some (.box false (zz i))
 start:∃ obs,hr 0=h0++obs∧∀ ob ∈ obs,AObj.isH ob=false
 rest:∀ (q i:Nat) (o:Oper),(Rs ops)[q]? = some i→ops[i]? = some o→∃ e,EnvIs ops x env0 (fun k=>k ∈ Fs ops∨InR ops q k) e∧OpAt P G N rx ops o e (hr q) (x i) (hr (q+1))

section
variable {P:Program} {G:Md} {N:DR} {rx:RX} {ops:Array Oper} {B:Nat→Nat→Prop} {h0:List AObj} {env0:List AV}

theorem aUb {α:Type} (l:List α) (q:Nat) (k:α):k ∈ l.take q↔∃ m,m < q∧l[m]? = some k:=by
 rw [cM]
 constructor
 · rintro ⟨m,hm⟩
   rw [dR] at hm
   split at hm
   · exact ⟨m,‹_›,hm⟩
   · cases hm
 · rintro ⟨m,h1,h2⟩
   exact ⟨m,by rw [dR,if_pos h1]; exact h2⟩

theorem bAn (D:DOK rx ops B) {K:List AV→List AObj→Prop} {al:List fE} (hs:bP rx ops (eQ ops)=some al) (e:cX P G (some N) al K env0 h0) :
   ∃ x hr zz,Told P G N rx ops h0 env0 x hr zz∧∀ e,EnvIs ops x env0 (fun i=>i < ops.size) e→K e (hr (Rs ops).length):=by
 rw [aUu] at hs
 obtain ⟨x,hh,e0,hK,htr⟩:=bGq (Fs ops++Rs ops) al env0 h0 (fun i hi=>by
   rcases cR.1 hi with h | h
   · exact (xF.1 h).1
   · exact (xE.1 h).1) aTx hs e
 have hfr:∀ q i,(Fs ops)[q]? = some i→∃ (o:Oper) (T:TypeId) (z:List AV),ops[i]? = some o∧o.op=.alloc T∧zeroOf P T=some z∧x i=.ptr (hh q).length 0∧hh (q+1)=hh q++[.box false z]:=by
   intro q i hq
   have hm:=xF.1 (dG hq)
   have ho:ops[i]? = some ops[i]:=by simp [hm.1]
   have hf:dH ops[i]=true:=by have:=hm.2; simp only [mK,ho] at this; exact this
   obtain ⟨T,hop,hg,_⟩:=B0 hf
   have hat:=htr q i ops[i] (by rw [aJ (bO hq)]; exact hq) ho
   unfold OpAt at hat
   rw [hg] at hat
   have hvf:vOf rx ops ops[i]=false:=by unfold vOf tE; rw [hop]; simp
   have hzf:zOf rx ops[i]=false:=by unfold zOf; rw [hop]
   have hd2:=hat.2
   rw [bHy hvf hzf] at hd2
   obtain ⟨z,hz,hx,hh'⟩:=aAa (hop ▸ hd2)
   exact ⟨ops[i],T,z,ho,hop,hz,hx,hh'⟩
 have hzz:∃ zz:Nat→List AV,∀ q i,(Fs ops)[q]? = some i→∃ (o:Oper) (T:TypeId),ops[i]? = some o∧o.op=.alloc T∧zeroOf P T=some (zz i)∧x i=.ptr (hh q).length 0∧hh (q+1)=hh q++[.box false (zz i)]:=by
   refine ⟨fun i=>match ops[i]? with | some o=>(match o.op with | .alloc T=>(zeroOf P T).getD [] | _=>[]) | Option.none=>[],?_⟩
   intro q i hq
   obtain ⟨o,T,z,ho,hop,hz,hx,hh'⟩:=hfr q i hq
   exact ⟨o,T,ho,hop,by simp [ho,hop,hz],hx,by simp [ho,hop,hz,hh']⟩
 obtain ⟨zz,hzz⟩:=hzz
 have hlen:∀ q,q≤(Fs ops).length→(hh q).length=h0.length+q∧(∃ obs,hh q=h0++obs∧∀ ob ∈ obs,AObj.isH ob=false)∧∀ m i,m < q→(Fs ops)[m]? = some i→(hh q)[h0.length+m]? = some (.box false (zz i)):=by
   intro q
   induction q with
   | zero=>intro _; exact ⟨by rw [e0]; rfl,⟨[],by rw [e0]; simp,by simp⟩,fun m i h=>by omega⟩
   | succ q ih=>
     intro hq
     obtain ⟨i1,⟨obs,i2,i2b⟩,i3⟩:=ih (by omega)
     have hqi:(Fs ops)[q]? = some (Fs ops)[q]:=by simp [show q < (Fs ops).length by omega]
     obtain ⟨o,T,ho,hop,hz,hx,hh'⟩:=hzz q _ hqi
     refine ⟨by rw [hh']; simp [i1]; omega,⟨obs++[.box false (zz (Fs ops)[q])],by rw [hh',i2]; simp,fun ob hob=>by exact (cR.1 hob).elim (i2b ob) (fun m=>by rw [bV] at m; subst m; rfl)⟩,?_⟩
     intro m i hm hmi
     rw [hh']
     by_cases hmq:m=q
     · subst hmq
       rw [hqi] at hmi; cases hmi
       rw [aR (by omega)]
       simp [i1]
     · rw [aJ (by omega)]
       exact i3 m i (by omega) hmi
 obtain ⟨l1,l2,l3⟩:=hlen (Fs ops).length (bQ _)
 refine ⟨x,fun q=>hh ((Fs ops).length+q),zz,⟨?_,l2,?_⟩,?_⟩
 · intro q i hq
   obtain ⟨o,T,ho,hop,hz,hx,hh'⟩:=hzz q i hq
   refine ⟨o,T,ho,hop,hz,?_,l3 q i (bO hq) hq⟩
   rw [hx,(hlen q (Nat.le_of_lt (bO hq))).1]
 · intro q i o hq ho
   refine ⟨_,?_,htr ((Fs ops).length+q) i o (by rw [aR (by omega)]; simpa using hq) ho⟩
   refine (aFp D _).congr (fun k=>?_)
   rw [List.take_append,bD (by omega),Nat.add_sub_cancel_left,cR,aUb (Rs ops)]
   rfl
 · intro e he
   have:e=wI ops x (Fs ops++Rs ops) env0:=he.unique D ((aFp D _).congr (fun k=>by
     rw [cR,xF,xE]
     cases mK ops k <;> simp))
   rw [this]
   have:=hK
   rw [List.length_append] at this
   exact this

structure Inv (P:Program) (G:Md) (rx:RX) (ops:Array Oper) (h0:List AObj) (env0:List AV) (x:Nat→AV) (hr:Nat→List AObj) (zz:Nat→List AV) (X0:Ctx) (w0:World) (S:Nat→Prop) (X:Ctx) (w:World) (a:Act) (p:Nat) (e:List AV):Prop where
 hp:p≤(Rs ops).length
 g:GH G X w (hr p)
 ei:EnvIs ops x env0 S e
 eo:EnvOK G.ds X w (hr p) e a
 tr:Tr X0 w0 h0 X w (hr p)
 ch:∀ (i:Nat) (o:Oper),ops[i]? = some o→Chg rx ops o→(S i↔InR ops p i)
 pend:∀ (q i:Nat),(Fs ops)[q]? = some i→¬ S i→(hr p)[h0.length+q]? = some (.box false (zz i))∧X.ι (h0.length+q)=Option.none
 cl:Closed ops S
 lt:∀ i,S i→i < ops.size

variable {x:Nat→AV} {hr:Nat→List AObj} {zz:Nat→List AV} {X0:Ctx} {w0:World} {S:Nat→Prop} {X:Ctx} {w:World} {a:Act} {p:Nat} {e:List AV}

theorem C2 {i:Nat} {o:Oper} (cl:Closed ops S) (hi:ops[i]? = some o) (hpre:∀ e,e ∈ anyPre o→S e):Closed ops (fun k=>S k∨k=i):=by
 rintro k ok (s | rfl) hk e he
 · exact .inl (cl k ok s hk e he)
 · rw [hi] at hk; cases hk; exact .inl (hpre e he)

theorem M9 (D:DOK rx ops B) (T:Told P G N rx ops h0 env0 x hr zz) {m k:Nat} {ok:Oper} (hm:(Rs ops)[m]? = some k) (hk:ops[k]? = some ok) (hc:¬ Chg rx ops ok):(dk rx ops ok=some .r∨dk rx ops ok=some .c)∧hr (m+1)=hr m:=by
 have hnf:dH ok=false:=by
   have:=(xE.1 (dG hm)).2
   simp only [mK,hk] at this; exact this
 have hkind:dk rx ops ok=some .r∨dk rx ops ok=some .c:=by
   have:=D.kind k ok hk
   cases hd:dk rx ops ok with
   | none=>rw [hd] at this; cases this
   | some d=>
     cases d with
     | c=>exact .inr rfl
     | a=>rw [bSu.1 hd] at hnf; cases hnf
     | r=>exact .inl rfl
     | w=>exact absurd (.inl hd) hc
     | l=>exact absurd (.inr hd) hc
 refine ⟨hkind,?_⟩
 obtain ⟨eT,_,hat⟩:=T.rest m k ok hm hk
 unfold OpAt at hat
 cases hg:ok.guard with
 | none=>rw [hg] at hat; exact aFr hkind hat.2
 | some q=>
   obtain ⟨j,want⟩:=q
   rw [hg] at hat
   obtain ⟨d,b,_,_,h1,h2⟩:=hat
   cases b with
   | true=>exact aFr hkind (h1 rfl).2
   | false=>exact (h2 rfl).2

theorem yL (D:DOK rx ops B) (T:Told P G N rx ops h0 env0 x hr zz) {m k:Nat} {ok:Oper} (hm:(Rs ops)[m]? = some k) (hk:ops[k]? = some ok) (hc:dk rx ops ok ≠ some .l):yJ (hr m) (hr (m+1)):=by
 by_cases hc2:Chg rx ops ok
 · have hw:dk rx ops ok=some .w:=hc2.resolve_right hc
   obtain ⟨eT,_,hat⟩:=T.rest m k ok hm hk
   unfold OpAt at hat
   cases hg:ok.guard with
   | none=>rw [hg] at hat; exact aFt hw hat.2
   | some q=>
     obtain ⟨j,want⟩:=q
     rw [hg] at hat
     obtain ⟨d,b,_,_,h1,h2⟩:=hat
     cases b with
     | true=>exact aFt hw (h1 rfl).2
     | false=>rw [(h2 rfl).2]; exact .refl _
 · rw [(M9 D T hm hk hc2).2]; exact .refl _

theorem O6 {a:Nat}:∀ (b:Nat),a≤b→(∀ m,a≤m→m < b→hr (m+1)=hr m)→hr b=hr a
 | 0, h, _ => by have:a=0:=by omega
                 rw [this]
 | b + 1,h,hs=>by
   by_cases hab:a=b+1
   · rw [hab]
   · rw [hs b (by omega) (by omega)]
     exact O6 b (by omega) (fun m h1 h2=>hs m h1 (by omega))
theorem wF {a:Nat}:∀ (b:Nat),a≤b→(∀ m,a≤m→m < b→yJ (hr m) (hr (m+1)))→yJ (hr a) (hr b)
 | 0, h, _ => by have:a=0:=by omega
                 rw [this]; exact .refl _
 | b+1,h,hs=>by
   by_cases hab:a=b+1
   · rw [hab]; exact .refl _
   · exact (wF b (by omega) (fun m h1 h2=>hs m h1 (by omega))).trans (hs b (by omega) (by omega))

theorem lG.refl (N:DR) (h:List AObj):lG N h h:=fun id o _ ho=>⟨o,ho,rfl⟩
theorem lG.trans {N:DR} {a b c:List AObj} (x:lG N a b) (y:lG N b c):lG N a c:=fun id o hn ho=>by
 obtain ⟨o1,h1,e1⟩:=x id o hn ho
 obtain ⟨o2,h2,e2⟩:=y id o1 hn h1
 exact ⟨o2,h2,e2.trans e1⟩
theorem yJ.toN {N:DR} {h h':List AObj} (g:yJ h h'):lG N h h':=fun id o _ ho=>g id o ho
theorem tG {N:DR} {a:Nat}:∀ (b:Nat),a≤b→(∀ m,a≤m→m < b→lG N (hr m) (hr (m+1)))→lG N (hr a) (hr b)
 | 0, h, _ => by have:a=0:=by omega
                 rw [this]; exact .refl _ _
 | b+1,h,hs=>by
   by_cases hab:a=b+1
   · rw [hab]; exact .refl _ _
   · exact (tG b (by omega) (fun m h1 h2=>hs m h1 (by omega))).trans (hs b (by omega) (by omega))
theorem lG.app {N:DR} (h obs:List AObj):lG N h (h++obs):=(yJ.app h obs).toN
theorem lG.set {N:DR} {id:Nat} {h:List AObj} {ob:AObj} (hn:N.mut id):lG N h (h.set id ob):=fun i o hi ho=>⟨o,by rw [dJ (wR (DR.apart hi hn))]; exact ho,rfl⟩

theorem xM {N:DR} {h h':List AObj} {T:TypeId} {s x y:AV} (hs:sP N s) (e:gA P h T s x=some (y,h')):lG N h h':=by
 unfold gA at e
 split at e
 case h_2=>cases e
 split at e
 case h_2=>cases e
 split at e
 case isFalse=>cases e
 split at e
 case h_2=>cases e
 split at e
 · split at e
   · cases e; exact .app _ _
   · cases e
 · rename_i id off n t
   have hn:N.mut id:=hs
   split at e
   case h_2=>cases e
   split at e
   case isFalse=>cases e
   split at e
   · split at e
     · cases e; exact .app _ _
     · cases e
   split at e
   · cases e
   split at e
   · cases e; exact (lG.set hn).trans (.app _ _)
   split at e
   · cases e; exact .set hn
   · cases e; exact (lG.set hn).trans (.app _ _)
 · cases e

theorem aFd {p q:Oper} (h:F5 rx ops p q=true):F5 rx ops q p=true:=by
 unfold F5 at h ⊢
 simp only [aE,cN] at h ⊢
 exact ⟨h.1,h.2.symm⟩

theorem I5 {N:DR}:∀ {l:List AV},sO N l→∀ a ∈ l,lH N a
 | [],_,a,h=>by cases h
 | x::l,h,a,ha=>by
   rcases dE.1 ha with rfl | ha
   · exact h.1
   · exact I5 h.2 a ha

theorem bLv {N:DR} {o:Oper} (hk:sI o=some .r) {env:List AV} (hck:aJa G (some N) true o.op env):∀ y ∈ o.op.operands.toList,∀ {id:Nat},(aev G env y).refs=some id→N.old id:=by
 intro y hy id hid
 have hall:sO N (o.op.operands.toList.map (aev G env)):=by
   simp only [aJa] at hck
   unfold aAl at hck
   unfold sI at hk
   cases ho:o.op with
   | call c=>
     rw [ho] at hck hk
     simp only at hck hk
     cases hc:c.callee with
     | builtin b=>rw [hc] at hck hk; cases b <;> first | exact hck | simp at hk
     | value f=>rw [hc] at hk; simp at hk
     | invoke _ _=>rw [hc] at hk; simp at hk
   | store T a x=>rw [ho] at hk; simp at hk
   | buildSlice T n ps=>rw [ho] at hk; simp only at hk; split at hk <;> simp at hk
   | _=>rw [ho] at hck; exact hck
 have:=I5 hall _ (gK.2 ⟨y,hy,rfl⟩)
 unfold lH at this
 rw [hid] at this
 exact this

theorem bDc {ok:Oper} {eT:List AV} {h0 h1:List AObj} {xk:AV} (hmm:aCr ok=true) (hc:aJa G (some N) true ok.op eT) (hd:DOp P G ok.op eT h0 xk h1):lG N h0 h1:=by
 have h2:=hmm
 unfold aCr at h2
 rcases cN _ _ ▸ h2 with h2 | h2
 case inr=>
   unfold jC at h2
   split at h2
   case h_2=>cases h2
   rename_i T y z ho
   rw [ho] at hc hd
   simp only [aJa,aAl] at hc
   unfold DOp at hd
   simp only [eZ,aop] at hd
   cases hst:rJ P (h0) T (aev G eT y) (aev G eT z) with
   | none=>rw [hst] at hd; exact hd.elim
   | some h'=>
     rw [hst] at hd
     obtain ⟨_,rfl⟩:=hd
     unfold rJ at hst
     split at hst
     case h_2=>cases hst
     rename_i id off cs n hy _ _
     rw [hy] at hc
     have hn:N.mut id:=hc
     split at hst
     · split at hst
       · rw [← fI hst]; exact .set hn
       · cases hst
     · split at hst
       · rw [← fI hst]; exact .set hn
       · cases hst
     · cases hst
 unfold pL at h2
 split at h2
 case h_2=>cases h2
 rename_i args tys ho
 rw [ho] at hc hd
 simp only [aJa,aAl] at hc
 unfold DOp at hd
 simp only [eZ,mA] at hd
 split at hc
 case h_2=>exact hc.elim
 rename_i s z hargs
 rw [hargs] at hd
 split at hd
 case h_2=>exact hd.elim
 rename_i A B s' z' _ hz
 simp only [gU,and_true] at hz
 obtain ⟨rfl,rfl⟩:=hz
 split at hd
 case isFalse=>
   split at hd
   case h_2=>exact hd.elim
   cases ha:qD P (h0) A s z with
   | none=>rw [ha] at hd; exact hd.elim
   | some q=>
     rw [ha] at hd
     obtain ⟨y,h'⟩:=q
     obtain ⟨_,rfl⟩:=hd
     unfold qD at ha
     split at ha
     case h_2=>cases ha
     split at ha
     case h_2=>cases ha
     split at ha
     case isFalse=>cases ha
     split at ha
     · simp only [aA,bE] at ha; rw [← ha.2]; exact .refl _ _
     · simp only [aA,bE] at ha; rw [← ha.2]; exact .app _ _
 split at hd
 · cases ha:gA P (h0) A s z with
   | none=>rw [ha] at hd; exact hd.elim
   | some q=>
     rw [ha] at hd
     obtain ⟨y,h'⟩:=q
     obtain ⟨_,rfl⟩:=hd
     exact xM hc ha
 · cases ha:gA P (freeze (dW dep (h0) z) (h0)) A s (gG dep (h0) z) with
   | none=>rw [ha] at hd; exact hd.elim
   | some q=>
     rw [ha] at hd
     obtain ⟨y,h'⟩:=q
     obtain ⟨_,rfl⟩:=hd
     exact (yJ.freeze _ _).toN.trans (xM hc ha)
theorem aNs {o ok:Oper} (hl:F5 rx ops o ok=true) (hr0:dk rx ops o=some .r):rx.on=true∧ckX rx ops o=true∧aNg rx ops ok=true:=by
 have hr':=(O8 hr0 (by decide) (by decide)).2.2
 unfold F5 at hl
 simp only [aE,cN] at hl
 rcases hl.2 with h | h
 · exact ⟨hl.1,h.1.2,h.2⟩
 · exfalso
   have h2:=h.2
   unfold aNg at h2
   simp only [cN,aE] at h2
   rcases h2 with h2 | h2
   · have h2:=h2.1
     unfold aCr pL jC at h2
     unfold sI at hr'
     cases ho:o.op with
     | call c=>
       rw [ho] at hr' h2
       obtain ⟨ce,as,ts⟩:=c
       cases ce with
       | builtin b=>cases b <;> simp at hr' h2
       | _=>simp at h2
     | store T a x=>rw [ho] at hr'; simp at hr'
     | _=>rw [ho] at h2; simp at h2
   · rw [(O8 hr0 (by decide) (by decide)).2.1] at h2; cases h2
theorem aUk (T:Told P G N rx ops h0 env0 x hr zz) {m k:Nat} {ok o:Oper} (hm:(Rs ops)[m]? = some k) (hk:ops[k]? = some ok) (hl:F5 rx ops o ok=true) (hr0:dk rx ops o=some .r):lG N (hr m) (hr (m+1)):=by
 obtain ⟨eT,_,hat⟩:=T.rest m k ok hm hk
 obtain ⟨hon,hcx,hmut⟩:=aNs hl hr0
 have go0:OpD P G N rx ops ok eT (hr m) (x k) (hr (m+1))→lG N (hr m) (hr (m+1)):=by
   intro hOD
   unfold aNg at hmut
   simp only [cN,aE] at hmut
   rcases hmut with hmm | hz
   case inr=>
     have hvz:vOf rx ops ok=false:=by
       cases hq:vOf rx ops ok with
       | false=>rfl
       | true=>
         obtain ⟨T,len,ps,ho,_⟩:=aDw hq
         obtain ⟨f,as,ts,ho2⟩:=S2 hz
         rw [ho] at ho2; cases ho2
     have hom:omOf rx ops ok=.z:=by simp [omOf,hvz,hz]
     have:=hOD.2
     rw [hom] at this
     exact this.2.2
   have hvm:vOf rx ops ok=false:=by
     cases hq:vOf rx ops ok with
     | false=>rfl
     | true=>
       obtain ⟨T,len,ps,ho,_⟩:=aDw hq
       have h2:=hmm.1
       unfold aCr pL jC at h2; rw [ho] at h2; simp at h2
   have hzm:zOf rx ok=false:=by
     cases hq:zOf rx ok with
     | false=>rfl
     | true=>
       obtain ⟨f,as,ts,ho⟩:=S2 hq
       have h2:=hmm.1
       unfold aCr pL jC at h2; rw [ho] at h2; simp at h2
   have happ:aCr ok=true∧ckF rx ops ok=true:=⟨hmm.1,by simp [ckF,hon,hmm.2]⟩
   revert hOD
   rintro ⟨hc,hd⟩
   rw [happ.2] at hc
   rw [bHy hvm hzm] at hd
   exact bDc happ.1 hc hd
 unfold OpAt at hat
 cases hg:ok.guard with
 | none=>rw [hg] at hat; exact go0 hat
 | some gq=>
   obtain ⟨j,want⟩:=gq
   rw [hg] at hat
   obtain ⟨d,b,_,_,h1,h2⟩:=hat
   cases b with
   | true=>exact go0 (h1 rfl)
   | false=>rw [(h2 rfl).2]; exact .refl _ _

structure bXf (P:Program) (G:Md) (N:DR) (rx:RX) (ops:Array Oper) (hr:Nat→List AObj) (S:Nat→Prop) (i p:Nat) (o:Oper) (e eT:List AV) (q:Nat) (x:AV):Prop where
 agree:∀ t,t ∈ ouses ops o→e.getD t .u=eT.getD t .u
 at_:OpAt P G N rx ops o eT (hr q) x (hr (q+1))
 run:OpD P G N rx ops o eT (hr q) x (hr (q+1))→∃ p',p'≤(Rs ops).length∧DOc P G N (omOf rx ops o) o.op e (hr p) x (hr p')∧∀ (k:Nat) (ok:Oper),ops[k]? = some ok→Chg rx ops ok→((S k∨k=i)↔InR ops p' k)
 drop:hr (q+1)=hr q→∃ p',p'≤(Rs ops).length∧hr p'=hr p∧∀ (k:Nat) (ok:Oper),ops[k]? = some ok→Chg rx ops ok→((S k∨k=i)↔InR ops p' k)

theorem bVo (D:DOK rx ops B) (T:Told P G N rx ops h0 env0 x hr zz) (I:Inv P G rx ops h0 env0 x hr zz X0 w0 S X w a p e) {i:Nat} {o:Oper} (hi:ops[i]? = some o) (hS:¬ S i) (hpre:∀ e,e ∈ anyPre o→S e) (hf:dH o=false) :
   ∃ eT q,bXf P G N rx ops hr S i p o e eT q (x i):=by
 have hlt:i < ops.size:=(bA.1 hi).1
 have hiR:i ∈ Rs ops:=xE.2 ⟨hlt,by simp only [mK,hi]; exact hf⟩
 obtain ⟨q,hq⟩:=cM.1 hiR
 obtain ⟨eT,hT,hat⟩:=T.rest q i o hq hi
 have notF:i ∉ Fs ops:=fun h=>by have:=(xF.1 h).2; simp only [mK,hi] at this; rw [hf] at this; cases this
 have bef1:∀ k,B k i→S k:=D.before I.cl i o hi hpre
 have bef2:∀ k ok,ops[k]? = some ok→S k→¬ B i k:=fun k ok hk s hb=>hS (D.before I.cl k ok hk (I.cl k ok s hk) i hb)
 have agree:∀ t,t ∈ ouses ops o→e.getD t .u=eT.getD t .u:=by
   intro t ht
   refine I.ei.agree D hT t (fun k hk=>?_)
   obtain ⟨ok,hok,hdk⟩:∃ ok,ops[k]? = some ok∧ok.dst=some t:=by
     unfold mR at hk
     cases hok:ops[k]? with
     | none=>rw [hok] at hk; cases hk
     | some ok=>rw [hok] at hk; exact ⟨ok,rfl,hk⟩
   have hkl:k < ops.size:=(bA.1 hok).1
   constructor
   · intro s
     cases hfk:mK ops k with
     | true=>exact .inl (xF.2 ⟨hkl,hfk⟩)
     | false=>
       right
       obtain ⟨m,hm⟩:=cM.1 (xE.2 ⟨hkl,hfk⟩)
       by_cases hmq:m < q
       · exact ⟨m,hmq,hm⟩
       · exfalso
         have hne:m ≠ q:=fun h=>by subst h; rw [hq] at hm; cases hm; exact hS s
         have hik:=nL hq hm (by omega)
         rcases D.ind k i ok o hok hi (by omega) with h | h | h
         · have:=D.blt i o hi k h; omega
         · exact bef2 k ok hok s h
         · exact (oP h).1 t hdk ht
   · intro hkk
     by_cases s:S k
     · exact s
     · exfalso
       have hne:k ≠ i:=by
         rintro rfl
         rcases hkk with h | ⟨m,hm,hmk⟩
         · exact notF h
         · have:=aRs hmk hq; omega
       rcases D.ind k i ok o hok hi hne with h | h | h
       · exact s (bef1 k h)
       · rcases hkk with hF | ⟨m,hm,hmk⟩
         · have hfr:dH ok=true:=by have:=(xF.1 hF).2; simp only [mK,hok] at this; exact this
           obtain ⟨_,_,_,hp0⟩:=B0 hfr
           rcases D.clo k ok hok i h with h | ⟨e,he,_⟩
           · rw [hp0] at h; cases h
           · rw [hp0] at he; cases he
         · have:=D.blt k ok hok i h
           have:=nL hmk hq hm
           omega
       · exact (oP h).1 t hdk ht
 have opd:∀ y ∈ o.op.operands.toList,aev G eT y=aev G e y:=by
   intro y hy
   cases y with
   | tmp t=>
     simp only [aev]
     exact (agree t (by
       unfold ouses
       refine eO _ (gB _ ?_)
       unfold bHu
       exact List.mem_filterMap.2 ⟨.tmp t,hy,rfl⟩)).symm
   | _=>rfl
 have pend:∀ m k ok,(Rs ops)[m]? = some k→ops[k]? = some ok→p≤m→m < q→Chg rx ops ok→¬ S k:=by
   intro m k ok hm hk h1 h2 hc s
   obtain ⟨m',hm',hmk⟩:=(I.ch k ok hk hc).1 s
   have:=aRs hmk hm; omega
 have at_m:∀ m,m < (Rs ops).length→∃ k ok,(Rs ops)[m]? = some k∧ops[k]? = some ok:=by
   intro m hm
   have h1:(Rs ops)[m]? = some (Rs ops)[m]:=by simp [hm]
   have h2:=(xE.1 (dG h1)).1
   exact ⟨_,ops[(Rs ops)[m]],h1,by simp [h2]⟩
 have hql:q < (Rs ops).length:=bO hq
 by_cases hc:Chg rx ops o
 · have hpq:p≤q:=by
     rcases kG q p with h | h
     · exact absurd ((I.ch i o hi hc).2 ⟨q,h,hq⟩) hS
     · exact h
   have none:∀ m k ok,(Rs ops)[m]? = some k→ops[k]? = some ok→p≤m→m < q→¬ Chg rx ops ok:=by
     intro m k ok hm hk h1 h2 hck
     have s:=pend m k ok hm hk h1 h2 hck
     have hki:=nL hm hq h2
     rcases D.ind k i ok o hk hi (by omega) with h | h | h
     · exact s (bef1 k h)
     · have:=D.blt k ok hk i h; omega
     · obtain ⟨_,_,a,b,ha,hb,hab⟩:=oP h
       rcases hab with hab | hab
       · rcases hck with c1 | c1 <;> rcases hc with c2 | c2 <;> (rw [c1] at ha; rw [c2] at hb; cases ha; cases hb; simp [zZ] at hab)
       · unfold F5 at hab
         rcases hck with c1 | c1 <;> rcases hc with c2 | c2 <;> simp [c1,c2] at hab
   have heq:hr q=hr p:=O6 q hpq (fun m h1 h2=>by
     obtain ⟨k,ok,hk,hok⟩:=at_m m (by omega)
     exact (M9 D T hk hok (none m k ok hk hok h1 h2)).2)
   have chq:∀ (k:Nat) (ok:Oper),ops[k]? = some ok→Chg rx ops ok→((S k∨k=i)↔InR ops (q+1) k):=by
     intro k ok hok hck
     constructor
     · rintro (s | rfl)
       · obtain ⟨m,hm,hmk⟩:=(I.ch k ok hok hck).1 s
         exact ⟨m,by omega,hmk⟩
       · exact ⟨q,by omega,hq⟩
     · rintro ⟨m,hm,hmk⟩
       by_cases h1:m < p
       · exact .inl ((I.ch k ok hok hck).2 ⟨m,h1,hmk⟩)
       · by_cases h2:m=q
         · subst h2; rw [hq] at hmk; cases hmk; exact .inr rfl
         · exact absurd hck (none m k ok hmk hok (by omega) (by omega))
   refine ⟨eT,q,agree,hat,fun d=>⟨q+1,hql,?_,chq⟩,fun hd=>⟨q+1,hql,by rw [hd,heq],chq⟩⟩
   rw [← heq]; exact aAb opd d.2
 · obtain ⟨hkind,hsame⟩:=M9 D T hq hi hc
   have chp:∀ (k:Nat) (ok:Oper),ops[k]? = some ok→Chg rx ops ok→((S k∨k=i)↔InR ops p k):=by
     intro k ok hok hck
     constructor
     · rintro (s | rfl)
       · exact (I.ch k ok hok hck).1 s
       · rw [hi] at hok; cases hok; exact absurd hck hc
     · intro h; exact .inl ((I.ch k ok hok hck).2 h)
   refine ⟨eT,q,agree,hat,fun d=>⟨p,I.hp,?_,chp⟩,fun _=>⟨p,I.hp,rfl,chp⟩⟩
   rcases hkind with hk | hk
   · refine bIz hk (by decide) (by decide) (J9 opd ((U3 (aFe (O8 hk (by decide) (by decide)).2.2) (aPg hk (by decide) (by decide) d.2)).2 (hr p) ?_))
     intro y hy
     intro id hid
     have notL:∀ m k ok,(Rs ops)[m]? = some k→ops[k]? = some ok→((p≤m∧m < q)∨(q≤m∧m < p))→dk rx ops ok ≠ some .l∨F5 rx ops o ok=true:=by
       intro m k ok hm hok hpm
       by_cases hl:dk rx ops ok=some .l
       case neg=>exact .inl hl
       right
       have hck:Chg rx ops ok:=.inr hl
       rcases hpm with ⟨h1,h2⟩ | ⟨h1,h2⟩
       · have s:=pend m k ok hm hok h1 h2 hck
         have hki:=nL hm hq h2
         rcases D.ind k i ok o hok hi (by omega) with h | h | h
         · exact absurd (bef1 k h) s
         · have:=D.blt k ok hok i h; omega
         · obtain ⟨_,_,a,b,ha,hb,hab⟩:=oP h
           rcases hab with hab | hab
           · rw [hl] at ha; rw [hk] at hb; cases ha; cases hb; simp [zZ] at hab
           · exact aFd hab
       · have s:S k:=(I.ch k ok hok hck).2 ⟨m,h2,hm⟩
         have hne:m ≠ q:=fun h=>by subst h; rw [hq] at hm; cases hm; exact hS s
         have hik:=nL hq hm (by omega)
         rcases D.ind k i ok o hok hi (by omega) with h | h | h
         · have:=D.blt i o hi k h; omega
         · exact absurd h (bef2 k ok hok s)
         · obtain ⟨_,_,a,b,ha,hb,hab⟩:=oP h
           rcases hab with hab | hab
           · rw [hl] at ha; rw [hk] at hb; cases ha; cases hb; simp [zZ] at hab
           · exact aFd hab
     have hpl:=I.hp
     by_cases hflag:ckF rx ops o=true
     · -- what it reads was there before
       have hold:N.old id:=by
         have hck:=d.1
         rw [hflag] at hck
         exact bLv (O8 hk (by decide) (by decide)).2.2 hck y hy hid
       have step:∀ m,m < (Rs ops).length→((p≤m∧m < q)∨(q≤m∧m < p))→lG N (hr m) (hr (m+1)):=by
         intro m hml hpm
         obtain ⟨k,ok,hk',hok⟩:=at_m m hml
         rcases notL m k ok hk' hok hpm with h | h
         · exact (yL D T hk' hok h).toN
         · exact aUk T hk' hok h (by rw [hk])
       rcases Nat.le_total p q with h | h
       · have gr:lG N (hr p) (hr q):=tG q h (fun m h1 h2=>step m (by omega) (.inl ⟨h1,h2⟩))
         have rv:=iA I.g I.eo y
         rw [← opd y hy] at rv
         obtain ⟨ob,hob⟩:=aLl rv hid
         obtain ⟨ob',h1,h2⟩:=gr id ob hold hob
         right; rw [hob,h1]; simp [h2]
       · have gr:lG N (hr q) (hr p):=tG p h (fun m h1 h2=>step m (by omega) (.inr ⟨h1,h2⟩))
         cases hx:(hr q)[id]? with
         | none=>left; rfl
         | some ob=>obtain ⟨ob',h1,h2⟩:=gr id ob hold hx; right; rw [h1]; simp [h2]
     · have notL2:∀ m k ok,(Rs ops)[m]? = some k→ops[k]? = some ok→((p≤m∧m < q)∨(q≤m∧m < p))→dk rx ops ok ≠ some .l:=by
         intro m k ok hm hok hpm
         rcases notL m k ok hm hok hpm with h | h
         · exact h
         · obtain ⟨q1,q2,_⟩:=aNs h hk
           exact absurd (by simp [ckF,q1,q2]) hflag
       rcases Nat.le_total p q with h | h
       · have gr:yJ (hr p) (hr q):=wF q h (fun m h1 h2=>by
           obtain ⟨k,ok,hk,hok⟩:=at_m m (by omega)
           exact yL D T hk hok (notL2 m k ok hk hok (.inl ⟨h1,h2⟩)))
         have rv:=iA I.g I.eo y
         rw [← opd y hy] at rv
         obtain ⟨ob,hob⟩:=aLl rv hid
         obtain ⟨ob',h1,h2⟩:=gr id ob hob
         right; rw [hob,h1]; simp [h2]
       · have gr:yJ (hr q) (hr p):=wF p h (fun m h1 h2=>by
           obtain ⟨k,ok,hk,hok⟩:=at_m m (by omega)
           exact yL D T hk hok (notL2 m k ok hk hok (.inr ⟨h1,h2⟩)))
         cases hx:(hr q)[id]? with
         | none=>left; rfl
         | some ob=>obtain ⟨ob',h1,h2⟩:=gr id ob hx; right; rw [h1]; simp [h2]
   · exact aAb opd ((aFs hk d.2).2 (hr p))

theorem aEv (D:DOK rx ops B) (I:Inv P G rx ops h0 env0 x hr zz X0 w0 S X w a p e) {i:Nat} {o:Oper} (hi:ops[i]? = some o) (hpre:∀ e,e ∈ anyPre o→S e) {p':Nat} (hp:p'≤(Rs ops).length)
   (ch:∀ (k:Nat) (ok:Oper),ops[k]? = some ok→Chg rx ops ok→((S k∨k=i)↔InR ops p' k)) {X':Ctx} {w':World} {a':Act} (g:GH G X' w' (hr p')) (eo:EnvOK G.ds X' w' (hr p') (gN e o.dst (x i)) a') (t:Tr X w (hr p) X' w' (hr p')) :
   Inv P G rx ops h0 env0 x hr zz X0 w0 (fun k=>S k∨k=i) X' w' a' p' (gN e o.dst (x i)):=by
 have hd:mR ops i=o.dst:=by simp [mR,hi]
 refine ⟨hp,g,hd ▸ I.ei.step D i,eo,I.tr.trans t,ch,?_,C2 I.cl hi hpre,?_⟩
 · intro q k hq hk
   obtain ⟨h1,h2⟩:=I.pend q k hq (fun s=>hk (.inl s))
   refine ⟨t.abs _ _ h1 h2,?_⟩
   obtain ⟨o',ho',c⟩:=t.ext.obj _ _ h1
   rw [t.abs _ _ h1 h2] at ho'
   cases ho'
   rcases c with c | ⟨_,c⟩
   · cases c
   · exact (c.resolve_right (by simp)).trans h2
 · rintro k (s | rfl)
   · exact I.lt k s
   · exact (bA.1 hi).1

theorem aUs (D:DOK rx ops B) (T:Told P G N rx ops h0 env0 x hr zz) (I:Inv P G rx ops h0 env0 x hr zz X0 w0 S X w a p e) {i:Nat} {o:Oper} (hi:ops[i]? = some o) (hS:¬ S i) (hpre:∀ e,e ∈ anyPre o→S e)
   {Q:Exit→Act→World→Prop} {K:Act→World→Prop} (hK:∀ X' w' a' p' e',Inv P G rx ops h0 env0 x hr zz X0 w0 (fun k=>S k∨k=i) X' w' a' p' e'→K a' w'):wpOp P ops Q i K a w:=by
 unfold wpOp
 simp only [hi]
 have hd:mR ops i=o.dst:=by simp [mR,hi]
 cases hf:dH o with
 | true=>
   obtain ⟨_,_,hg,_⟩:=B0 hf
   have hiF:i ∈ Fs ops:=xF.2 ⟨(bA.1 hi).1,by simp only [mK,hi]; exact hf⟩
   obtain ⟨q,hq⟩:=cM.1 hiF
   obtain ⟨o',Ty,ho',hop,hz,hx,hbox⟩:=T.free q i hq
   rw [hi] at ho'; cases ho'
   have hw:Region.wanted o (yielded ops a.tmps)=true:=by simp [Region.wanted,hg]
   rw [if_pos hw]
   refine .inl ?_
   obtain ⟨hid,hι⟩:=I.pend q i hq hS
   obtain ⟨iz,zv,hiz,hizv,hzc⟩:=hJ hz
   obtain ⟨h1,h2,h3⟩:=jO (X:=X) (w:=w) (h:=hr p) hzc
   have pp:=fZ.alloc w (.cells zv.cells Ty (0,0))
   obtain ⟨ex,g',st⟩:=bDn I.g pp hid hι h1 h2 h3
   have hrun:(execOp a.eval o).run P w=.ok (.value (.pointer (some ⟨w.heap.size,0,Option.none⟩))) (w.alloc (.cells zv.cells Ty (0,0))):=by
     have hnr:(newRow Ty zv.cells).run P w=.ok ⟨w.heap.size,0,Option.none⟩ (w.alloc (.cells zv.cells Ty (0,0))):=rfl
     unfold execOp
     simp only [hop]
     simp [Instr.alloc,pG hiz hizv,newVar,hnr]
   unfold Oper.wp
   rw [hrun]
   simp only [Oper.upon]
   have rp:RV (X.upd (h0.length+q) (some (w.heap.size,0))) (w.alloc (.cells zv.cells Ty (0,0))) (hr p) (x i) (.pointer (some ⟨w.heap.size,0,Option.none⟩)):=by
     rw [hx]
     have:=RV.ptr (X:=X.upd (h0.length+q) (some (w.heap.size,0))) (w:=w.alloc (.cells zv.cells Ty (0,0))) (h:=hr p) (id:=h0.length+q) (off:=0) (ob:=.box false (zz i)) (b:=w.heap.size) (o:=0) hid (by simp) (Ctx.upd_same _ _ _)
     simpa using this
   refine hK _ _ _ p (gN e o.dst (x i)) ⟨I.hp,g',hd ▸ I.ei.step D i,?_,⟨I.tr.step.trans st,?_,I.tr.abs⟩,?_,?_,C2 I.cl hi hpre,?_⟩
   · exact EnvOK.put ⟨I.eo.defers,I.eo.size,fun j y v hy hv=>(I.eo.rel j y v hy hv).monoW ex⟩ _ rp
   · refine ⟨fun b hb=>I.tr.ext.fr b hb,fun b hb=>(ex.keep b (I.tr.ext.fr b hb)).trans (I.tr.ext.keep b hb),fun b s hs=>ex.shp b s (I.tr.ext.shp b s hs),fun k ob hk=>?_⟩
     obtain ⟨ob',ho',c⟩:=I.tr.ext.obj k ob hk
     refine ⟨ob',ho',c.imp id (fun c=>⟨c.1,?_⟩)⟩
     rw [Ctx.upd_other _ _ (by have:=bO hk; omega)]
     exact c.2
   · intro k ok hok hck
     rw [← I.ch k ok hok hck]
     constructor
     · rintro (s | rfl)
       · exact s
       · rw [hi] at hok; cases hok
         rcases hck with c | c <;> (rw [bSu.2 hf] at c; cases c)
     · exact .inl
   · intro q' k hq' hk
     obtain ⟨p1,p2⟩:=I.pend q' k hq' (fun s=>hk (.inl s))
     refine ⟨p1,?_⟩
     have hne:q' ≠ q:=fun h=>by subst h; rw [hq] at hq'; cases hq'; exact hk (.inr rfl)
     rw [Ctx.upd_other _ _ (by omega)]
     exact p2
   · rintro k (s | rfl)
     · exact I.lt k s
     · exact (bA.1 hi).1
 | false =>
   obtain ⟨eT,q,H⟩:=bVo D T I hi hS hpre hf
   have go:OpD P G N rx ops o eT (hr q) (x i) (hr (q+1))→o.wp P a w K Q:=by
     intro d
     obtain ⟨p',hp',d',ch⟩:=H.run d
     refine bJa I.g I.eo d' ?_
     intro a' w' X' g' r' t
     exact hK _ _ _ _ _ (aEv D I hi hpre hp' ch g' r' t)
   have stop:hr (q+1)=hr q→x i=.tup []→K (a.put o.dst undef) w:=by
     intro d hx
     obtain ⟨p',hp',hh,ch⟩:=H.drop d
     refine hK X w (a.put o.dst undef) p' _ (aEv D I hi hpre hp' ch (by rw [hh]; exact I.g) (by rw [hh,hx]; exact I.eo.put _ (.tup (vs := #[]) rfl (by simp))) (by rw [hh]; exact .refl _ _ _))
   have hat:=H.at_
   unfold OpAt at hat
   cases hg:o.guard with
   | none=>
     rw [hg] at hat
     have hw:Region.wanted o (yielded ops a.tmps)=true:=by simp [Region.wanted,hg]
     rw [if_pos hw]
     exact .inl (go hat)
   | some gq=>
     obtain ⟨j,want⟩:=gq
     rw [hg] at hat
     obtain ⟨d,b,hdj,hb,h1,h2⟩:=hat
     have hx:F8 (e.getD d .u) want=.b b:=by
       rw [H.agree d (by
         unfold ouses bRz
         rw [hg]
         refine eO _ (eO _ ?_)
         have:((ops[j]?).bind fun x=>x.dst)=some d:=hdj
         simp [this])]
       exact hb
     rw [S3 I.eo hg hdj hx]
     cases b with
     | true=>
       simp only [if_true]
       exact .inl (go (h1 rfl))
     | false=>
       simp only [aG,if_false]
       obtain ⟨e1,e2⟩:=h2 rfl
       exact stop e2 e1

theorem aAg {α:Type} {p q:α→Bool}:∀ (l:List α),(∀ y ∈ l,q y=true→p y=true)→(∃ y ∈ l,p y=true∧q y=false)→l.countP q < l.countP p
 | [],_,h=>by obtain ⟨y,hy,_⟩:=h; cases hy
 | y :: l,hs,h=>by
   have hle:l.countP q≤l.countP p:=List.countP_mono_left (fun z hz=>hs z (by simp [hz]))
   rw [List.countP_cons,List.countP_cons]
   by_cases hy:p y=true∧q y=false
   · rw [hy.1,hy.2]; simp; omega
   · have h':∃ z ∈ l,p z=true∧q z=false:=by
       obtain ⟨z,hz,hpz⟩:=h
       rcases dE.1 hz with rfl | hz
       · exact absurd hpz hy
       · exact ⟨z,hz,hpz⟩
     have:=aAg l (fun z hz=>hs z (by simp [hz])) h'
     have h1:=hs y (by simp)
     cases hq:q y with
     | true=>rw [h1 hq]; omega
     | false=>simp; omega

theorem gI {o:Oper} {e:Nat}:e ∈ anyPre o↔∃ d ∈ o.after,Region.binds .any d=true∧d.on=e:=by
 unfold anyPre
 simp only [gK,List.mem_filter,aJx]
 constructor
 · rintro ⟨d,⟨h1,h2⟩,h3⟩; exact ⟨d,h1,h2,h3⟩
 · rintro ⟨d,h1,h2,h3⟩; exact ⟨d,⟨h1,h2⟩,h3⟩

def qG (l:Array Bool) (i:Nat):Prop:=l.getD i false=true

theorem bMp (D:DOK rx ops B) (T:Told P G N rx ops h0 env0 x hr zz) {Q:Exit→Act→World→Prop} (hQ:∀ X w a p e,Inv P G rx ops h0 env0 x hr zz X0 w0 (fun i=>i < ops.size) X w a p e→Q .normal a w) :
   ∀ (fuel:Nat) (l:Array Bool),l.size=ops.size→(List.range ops.size).countP (fun i => !l.getD i true)≤fuel→∀ (X:Ctx) (w:World) (a:Act) (p:Nat) (e:List AV),Inv P G rx ops h0 env0 x hr zz X0 w0 (qG l) X w a p e →
     wpAny P .any ops Q fuel l a w:=by
 have all:∀ (l:Array Bool),l.size=ops.size→Region.ready .any ops l=[]→∀ i,i < ops.size→qG l i:=by
   intro l hl hr i
   induction i using Nat.strongRecOn with
   | ind i ih=>
     intro hi
     have ho:ops[i]? = some ops[i]:=by simp [hi]
     have hn:i ∉ Region.ready .any ops l:=by rw [hr]; simp
     rw [mem_ready] at hn
     have hpre:∀ d ∈ ops[i].after,Region.binds .any d=true→l.getD d.on false=true:=by
       intro d hd hb
       have hlt:=D.lt i ops[i] ho d.on (gI.2 ⟨d,hd,hb,rfl⟩)
       exact ih d.on hlt (by omega)
     unfold qG
     have hli:i < l.size:=by omega
     cases hc:l[i] with
     | true=>simp [Array.getD,hli,hc]
     | false=>exact absurd ⟨by simp [Array.getD,hli,hc],ops[i],ho,hpre⟩ hn
 have fin:∀ (l:Array Bool),l.size=ops.size→Region.ready .any ops l=[]→∀ X w a p e,Inv P G rx ops h0 env0 x hr zz X0 w0 (qG l) X w a p e→Q .normal a w:=by
   intro l hl hr X w a p e I
   have hs:(qG l)=(fun i=>i < ops.size):=funext fun i=>propext ⟨I.lt i,all l hl hr i⟩
   exact hQ X w a p e (hs ▸ I)
 intro fuel
 induction fuel with
 | zero=>
   intro l hl hc X w a p e I
   have hr:Region.ready .any ops l=[]:=by
     rw [gD]
     intro i hi
     obtain ⟨h1,o,ho,_⟩:=mem_ready.1 hi
     have hlt:i < ops.size:=(bA.1 ho).1
     have hz:(List.range ops.size).countP (fun i => !l.getD i true)=0:=by omega
     rw [List.countP_eq_zero] at hz
     have:=hz i (fG.2 hlt)
     rw [h1] at this
     exact this rfl
   exact ⟨hr,fin l hl hr X w a p e I⟩
 | succ fuel ih=>
   intro l hl hc X w a p e I
   refine ⟨fun hr=>fin l hl hr X w a p e I,fun i hi=>?_⟩
   obtain ⟨h1,o,ho,hall⟩:=mem_ready.1 hi
   have hlt:i < ops.size:=(bA.1 ho).1
   have hli:i < l.size:=by omega
   have hf:l[i]=false:=by simpa [Array.getD,hli] using h1
   refine aUs D T I ho ?_ ?_ (fun X' w' a' p' e' I'=>ih (l.setIfInBounds i true) (by simp [hl]) ?_ X' w' a' p' e' ?_)
   · intro s
     unfold qG at s
     simp [Array.getD,hli,hf] at s
   · intro d hd
     obtain ⟨d',h1,h2,rfl⟩:=gI.1 hd
     exact hall d' h1 h2
   · have:(List.range ops.size).countP (fun k => !(l.setIfInBounds i true).getD k true) < (List.range ops.size).countP (fun k => !l.getD k true):=by
       refine aAg _ ?_ ⟨i,fG.2 hlt,by rw [h1]; rfl,by simp [Array.getD,hli]⟩
       intro k hk hk'
       by_cases hik:i=k
       · subst hik; rw [h1]; rfl
       · rw [getD_set_ne true hik] at hk'; exact hk'
     omega
   · have hs:(qG (l.setIfInBounds i true))=(fun k=>qG l k∨k=i):=funext fun k=>propext (by
       unfold qG
       by_cases hik:i=k
       · subst hik; simp [Array.getD,hli]
       · rw [getD_set_ne false hik]
         constructor
         · exact .inl
         · rintro (s | rfl)
           · exact s
           · exact absurd rfl hik)
     rw [hs]; exact I'

theorem uX (hd:rE rx ops=true) {al:List fE} (hl:bP rx ops (eQ ops)=some al) {K:List AV→List AObj→Prop} {env:List AV} {h:List AObj} {X:Ctx} {w:World} {a:Act} {Q:Exit→Act→World→Prop}
   (e:cX P G (some N) al K env h) (g:GH G X w h) (r:EnvOK G.ds X w h env a) (hQ:∀ a' w',kU G X w h K a' w'→Q .normal a' w'):wpAny P .any ops Q ops.size (Array.replicate ops.size false) a { w with drawn:=w.drawn+1 }:=by
 have D:=aPf hd
 obtain ⟨x,hr,zz,T,hK⟩:=bAn (P:=P) (G:=G) D hl e
 obtain ⟨g1,t1⟩:=bDl (w':={ w with drawn:=w.drawn+1 }) g rfl rfl rfl rfl
 obtain ⟨obs,hobs,hobs2⟩:=T.start
 obtain ⟨g2,t2⟩:=bDm g1 obs hobs2
 have t12:=t1.trans t2
 refine bMp (x:=x) (hr:=hr) (zz:=zz) (h0:=h) (env0:=env) (X0:=X) (w0:=w) D T ?_ ops.size (Array.replicate ops.size false) (by simp) (by
   have:=List.countP_le_length (p:=fun i => !(Array.replicate ops.size false).getD i true) (l:=List.range ops.size)
   simpa using this) X _ a 0 env ?_
 · intro X' w' a' p' e' I
   refine hQ a' w' ⟨e',hr (Rs ops).length,X',hK e' I.ei,?_⟩
   have heq:hr (Rs ops).length=hr p':=O6 _ I.hp (fun m h1 h2=>by
     have hm':(Rs ops)[m]? = some (Rs ops)[m]:=by simp [h2]
     have hlt:=(xE.1 (dG hm')).1
     refine (M9 D T hm' (ok:=ops[(Rs ops)[m]]) (by simp [hlt]) (fun hc=>?_)).2
     obtain ⟨m',hm1,hm2⟩:=(I.ch (Rs ops)[m] ops[(Rs ops)[m]] (by simp [hlt]) hc).1 hlt
     have:=aRs hm2 hm'
     omega)
   rw [heq]
   exact ⟨I.g,I.eo,I.tr⟩
 · have nol:∀ i,¬ qG (Array.replicate ops.size false) i:=by
     intro i s
     unfold qG at s
     by_cases hi:i < ops.size <;> simp [Array.getD,hi] at s
   have hs:qG (Array.replicate ops.size false)=fun _=>False:=funext fun i=>propext ⟨nol i,False.elim⟩
   refine ⟨bJ _,hobs ▸ g2,hs ▸ EnvIs.start,hobs ▸ r.mono t12.ext,hobs ▸ t12,?_,?_,?_,?_⟩
   · intro i o _ _
     exact ⟨fun s=>absurd s (nol i),fun ⟨m,hm,_⟩=>by omega⟩
   · intro q i hq _
     obtain ⟨o,Ty,_,_,_,_,hb⟩:=T.free q i hq
     refine ⟨hb,?_⟩
     cases hi:X.ι (h.length+q) with
     | none=>rfl
     | some bo=>
       obtain ⟨ob,hob⟩:=g.dom _ _ hi
       have:=bO hob
       omega
   · intro i o s; exact absurd s (nol i)
   · intro i s; exact absurd s (nol i)
theorem bEi (hm:P.follows .mixedOrders=true) {id:Nat} (hd:rE rx ops=true) {al:List fE} (hl:bP rx ops (eQ ops)=some al) {K:List AV→List AObj→Prop} {env:List AV} {h:List AObj} {X:Ctx} {w:World} {a:Act} {Q:Exit→Act→World→Prop}
   (e:cX P G (some N) al K env h) (g:GH G X w h) (r:EnvOK G.ds X w h env a) (hQ:∀ a' w',kU G X w h K a' w'→Q .normal a' w'):(Code.region id ops true).wp P Q a w:=
 wp_region_any hm (uX hd hl e g r hQ)
end
def aIj (pre:Array Oper) (o:Oper):Bool:=
 ((anyPre o).all fun e=>decide (e < pre.size)) &&
 (List.range pre.size).all fun i=>(anyPre o).contains i || (List.range pre.size).any fun j=>decide (i < j) && match pre[j]? with
   | some p=>(anyPre p).contains i
   | Option.none=>false
def rD (pre:Array Oper):Bool:=pre.toList.all fun p=>match p.guard with
 | some (j,_)=>decide (j < pre.size)
 | Option.none=>true
section
variable {P:Program} {pre:Array Oper} {o:Oper} {Q:Exit→Act→World→Prop}
def Cl (pre:Array Oper) (l:Array Bool):Prop:=∀ i p,pre[i]? = some p→l.getD i false=true→∀ e ∈ anyPre p,l.getD e false=true
def oB (P:Program) (pre:Array Oper) (o:Oper) (Q:Exit→Act→World→Prop):Exit→Act→World→Prop
 | .normal,a,w=>wpOp P (pre.push o) Q pre.size (fun a w=>Q .normal a w) a w
 | x,a,w=>Q x a w
theorem iV {l:Array Bool} {i:Nat} {d:Bool} (h:i < l.size):(l.push false).getD i d=l.getD i d:=by
 simp [Array.getD,h,yK,Nat.lt_succ_of_lt h]
theorem zI {l:Array Bool} {d:Bool}:(l.push false).getD l.size d=false:=by simp [Array.getD]
theorem pN {i:Nat} (h:i < pre.size):(pre.push o)[i]? = pre[i]? := by rw [dM]; rw [if_neg (by omega)]
theorem zK {l:Array Bool} (hlt:∀ i p,pre[i]? = some p→∀ e ∈ anyPre p,e < i) (hl:l.size=pre.size) (hr:Region.ready .any pre l=[]):∀ i,i < pre.size→l.getD i false=true:=by
 intro i
 induction i using Nat.strongRecOn with
 | ind i ih=>
   intro hi
   have ho:pre[i]? = some pre[i]:=by simp [hi]
   have hn:i ∉ Region.ready .any pre l:=by rw [hr]; simp
   rw [mem_ready] at hn
   have hli:i < l.size:=by omega
   cases hc:l[i] with
   | true=>simp [Array.getD,hli,hc]
   | false=>
     refine absurd ⟨by simp [Array.getD,hli,hc],pre[i],ho,fun d hd hb=>?_⟩ hn
     have hlt':=hlt i pre[i] ho d.on (gI.2 ⟨d,hd,hb,rfl⟩)
     exact ih d.on hlt' (by omega)
theorem aUl {l:Array Bool} (hL:aIj pre o=true) (hc:Cl pre l) (hd:∀ e ∈ anyPre o,l.getD e false=true):∀ i,i < pre.size→l.getD i false=true:=by
 simp only [aIj,aE,bL,fG,cN] at hL
 have key:∀ k i,pre.size - i≤k→i < pre.size→l.getD i false=true:=by
   intro k
   induction k with
   | zero=>intro i h1 h2; omega
   | succ k ih=>
     intro i h1 h2
     rcases hL.2 i h2 with h | h
     · exact hd i (iN.1 h)
     · rw [List.any_eq_true] at h
       obtain ⟨j,hj,hj2⟩:=h
       rw [fG] at hj
       simp only [aE,decide_eq_true_eq] at hj2
       have hp:pre[j]? = some pre[j]:=by simp [hj]
       rw [hp] at hj2
       exact hc j _ hp (ih j (by omega) hj) i (iN.1 hj2.2)
 exact fun i h=>key _ i (bQ _) h
theorem rU {l:Array Bool} {i:Nat} (hlt:∀ i p,pre[i]? = some p→∀ e ∈ anyPre p,e < i) (hl:l.size=pre.size) (hi:i < pre.size):i ∈ Region.ready .any (pre.push o) (l.push false)↔i ∈ Region.ready .any pre l:=by
 rw [mem_ready,mem_ready,pN hi,iV (by omega)]
 have ho:pre[i]? = some pre[i]:=by simp [hi]
 rw [ho]
 have h1:∀ d ∈ pre[i].after,Region.binds .any d=true→(l.push false).getD d.on false=l.getD d.on false:=fun d hd hb=>iV (by have:=hlt i _ ho d.on (gI.2 ⟨d,hd,hb,rfl⟩); omega)
 constructor
 · rintro ⟨a,p,hp,hall⟩; cases hp; exact ⟨a,_,rfl,fun d hd hb=>(h1 d hd hb).symm.trans (hall d hd hb)⟩
 · rintro ⟨a,p,hp,hall⟩; cases hp; exact ⟨a,_,rfl,fun d hd hb=>(h1 d hd hb).trans (hall d hd hb)⟩
theorem aGv {ops:Array Oper} {l:Array Bool} (hl:∀ i,i < ops.size→l.getD i true=true) {a:Act} {w:World} (q:Q .normal a w):∀ fuel,wpAny P .any ops Q fuel l a w:=by
 have hr:Region.ready .any ops l=[]:=by
   rw [gD]
   intro i hi
   obtain ⟨h1,p,hp,_⟩:=mem_ready.1 hi
   have:=hl i (bA.1 hp).1
   rw [h1] at this; cases this
 intro fuel
 cases fuel with
 | zero=>exact ⟨hr,q⟩
 | succ f=>exact ⟨fun _=>q,fun i hi=>by rw [hr] at hi; cases hi⟩
theorem sT (hg:rD pre=true) {i:Nat} {p:Oper} (hp:pre[i]? = some p) (ts:Array Value):Region.wanted p (yielded (pre.push o) ts)=Region.wanted p (yielded pre ts):=by
 simp only [rD,bL] at hg
 have:=hg p (aJx.2 (iO hp))
 unfold Region.wanted
 cases hq:p.guard with
 | none=>rfl
 | some q=>
   obtain ⟨j,b⟩:=q
   rw [hq] at this
   simp only [decide_eq_true_eq] at this
   simp only [yielded,pN this]
theorem jZ {o:Oper} {a:Act} {w:World} {K:Act→World→Prop} {Q Q':Exit→Act→World→Prop} (hQ:∀ x a w,x ≠ .normal→Q x a w→Q' x a w) (hL:LetsOut Q→LetsOut Q') (h:o.wp P a w K Q):o.wp P a w K Q':=by
 unfold Oper.wp at *
 generalize (execOp a.eval o).run P w=r at *
 cases r with
 | ok n w'=>
   cases n <;> simp only [Oper.upon] at h ⊢ <;> first
     | exact h
     | exact Calls.mono h (fun e w'' he=>by cases e <;> first | exact he | exact hQ _ _ _ (by simp) he | exact hL he)
 | halt x w'=>cases x <;> simp only [Oper.upon] at h ⊢ <;> first | exact h | exact hQ _ _ _ (by simp) h
theorem aRj (hlt:∀ i p,pre[i]? = some p→∀ e ∈ anyPre p,e < i) (hL:aIj pre o=true) (hg:rD pre=true) :
   ∀ (fuel:Nat) (l:Array Bool),l.size=pre.size→Cl pre l→∀ (a:Act) (w:World),wpAny P .any pre (oB P pre o Q) fuel l a w→wpAny P .any (pre.push o) Q (fuel+1) (l.push false) a w:=by
 have hn:(pre.push o)[pre.size]? = some o:=by simp
 have hdl:∀ e ∈ anyPre o,e < pre.size:=by
   simp only [aIj,aE,bL,decide_eq_true_eq] at hL
   exact hL.1
 have fin:∀ (fuel:Nat) (l:Array Bool),l.size=pre.size→(∀ i,i < pre.size→l.getD i false=true)→∀ (a:Act) (w:World),oB P pre o Q .normal a w→wpAny P .any (pre.push o) Q (fuel+1) (l.push false) a w:=by
   intro fuel l hl hall a w hB
   have hmem:pre.size ∈ Region.ready .any (pre.push o) (l.push false):=by
     rw [mem_ready]
     refine ⟨by rw [← hl]; exact zI,o,hn,fun d hd hb=>?_⟩
     have:=hdl d.on (gI.2 ⟨d,hd,hb,rfl⟩)
     rw [iV (by omega)]
     exact hall _ this
   refine ⟨fun hr=>(by rw [hr] at hmem; cases hmem),fun i hi=>?_⟩
   have hlt2:i < pre.size+1:=by
     obtain ⟨_,p,hp,_⟩:=mem_ready.1 hi
     have:=(bA.1 hp).1
     simpa using this
   by_cases hin:i < pre.size
   · have h1:=(mem_ready.1 hi).1
     rw [iV (by omega)] at h1
     have h2:=hall i hin
     have hli:i < l.size:=by omega
     simp [Array.getD,hli] at h1 h2
     rw [h1] at h2; cases h2
   · obtain rfl:i=pre.size:=by omega
     refine wpOp_mono (fun a w q=>aGv (fun k hk=>?_) q fuel) hB
     rw [mI] at hk
     by_cases hk2:k < pre.size
     · have h2:=hall k hk2
       have hkl:k < l.size:=by omega
       have:((l.push false).setIfInBounds pre.size true).getD k true=l.getD k false:=by
         rw [getD_set_ne true (by omega),iV hkl]
         simp [Array.getD,hkl]
       rw [this]; exact h2
     · obtain rfl:k=pre.size:=by omega
       rw [← hl]; simp [Array.getD]
 intro fuel
 induction fuel with
 | zero=>
   intro l hl hc a w h
   exact fin 0 l hl (zK hlt hl h.1) a w h.2
 | succ fuel ih=>
   intro l hl hc a w h
   by_cases hr:Region.ready .any pre l=[]
   · exact fin (fuel+1) l hl (zK hlt hl hr) a w (h.1 hr)
   · refine ⟨fun hr'=>?_,fun i hi=>?_⟩
     · obtain ⟨k,hk⟩:=E4 _ hr
       have hkl:k < pre.size:=by obtain ⟨_,p,hp,_⟩:=mem_ready.1 hk; exact (bA.1 hp).1
       have:=(rU (o:=o) hlt hl hkl).2 hk
       rw [hr'] at this; cases this
     · have hlt2:i < pre.size+1:=by
         obtain ⟨_,p,hp,_⟩:=mem_ready.1 hi
         have:=(bA.1 hp).1
         simpa using this
       by_cases hin:i < pre.size
       · have hi':=(rU hlt hl hin).1 hi
         have h2:=h.2 i hi'
         have hp:pre[i]? = some pre[i]:=by simp [hin]
         have hli:i < l.size:=by omega
         have hset:(l.push false).setIfInBounds i true=(l.setIfInBounds i true).push false:=by
           apply G5
           · simp
           · intro k h1 h2
             have q1:=cG (xs:=l.push false) (i:=i) (j:=k) (a:=true)
             rw [bX h1] at q1
             have q2:=dM (xs:=l.setIfInBounds i true) (x:=false) (i:=k)
             rw [bX h2] at q2
             apply fI
             rw [q1,q2,cG,dM]
             simp only [mI,kR]
             by_cases hik:i=k
             · subst hik; rw [if_pos rfl,if_pos (by omega),if_neg (by omega),if_pos rfl,if_pos hli]
             · rw [if_neg hik]
               by_cases hkl:k=l.size
               · rw [if_pos hkl,if_pos hkl]
               · rw [if_neg hkl,if_neg hkl,if_neg hik]
         have K:∀ a w,wpAny P .any pre (oB P pre o Q) fuel (l.setIfInBounds i true) a w→wpAny P .any (pre.push o) Q (fuel+1) ((l.push false).setIfInBounds i true) a w:=fun a w q=>by
           rw [hset]
           refine ih _ (by simp [hl]) ?_ a w q
           intro k p hp' hk e he
           by_cases hik:i=k
           · subst hik
             obtain ⟨_,p2,hp2,hall⟩:=mem_ready.1 hi'
             rw [hp'] at hp2; cases hp2
             obtain ⟨d,hd1,hd2,rfl⟩:=gI.1 he
             have:=hlt _ _ hp' d.on he
             rw [getD_set_ne false (by omega)]
             exact hall d hd1 hd2
           · rw [getD_set_ne false hik] at hk
             have:=hc k p hp' hk e he
             by_cases hie:i=e
             · subst hie; simp [Array.getD,hli]
             · rw [getD_set_ne false hie]; exact this
         unfold wpOp at h2 ⊢
         rw [pN hin,hp]
         rw [hp] at h2
         dsimp only at h2 ⊢
         rw [sT hg hp]
         by_cases hw:Region.wanted pre[i] (yielded pre a.tmps)=true
         · rw [if_pos hw] at h2 ⊢
           have up:LetsOut (oB P pre o Q)→LetsOut Q:=fun ⟨a,w,q⟩=>⟨a,w,q⟩
           rcases h2 with h2 | ⟨h2,h3⟩
           · exact .inl (jZ (fun x a w hx q=>by cases x <;> first | exact absurd rfl hx | exact q) up (sJ K h2))
           · exact .inr ⟨h2,up h3⟩
         · rw [if_neg hw] at h2 ⊢
           exact K _ _ h2
       · obtain rfl:i=pre.size:=by omega
         exfalso
         apply hr
         have hall:=aUl hL hc (fun e he=>by
           obtain ⟨_,p,hp,hd⟩:=mem_ready.1 hi
           rw [hn] at hp; cases hp
           obtain ⟨d,hd1,hd2,rfl⟩:=gI.1 he
           have:=hd d hd1 hd2
           rwa [iV (by have:=hdl _ he; omega)] at this)
         rw [gD]
         intro k hk
         obtain ⟨h1,p,hp,_⟩:=mem_ready.1 hk
         have hkl:=(bA.1 hp).1
         have h2:=hall k hkl
         have hkl':k < l.size:=by omega
         simp [Array.getD,hkl'] at h1 h2
         rw [h1] at h2; cases h2
end
section
variable {P:Program} {G:Md} {N:DR} {rx:RX} {pre:Array Oper} {o:Oper}
def xA (pre:Array Oper):List Oper→Bool
 | []=>true
 | o::l=>(aIj pre o && rD pre) && ((match o.guard with | some (j,_)=>decide (j < pre.size) | Option.none=>true) && xA (pre.push o) l)
def qA (P:Program) (ops:Array Oper) (l:List Oper) (Q:Exit→Act→World→Prop):Exit→Act→World→Prop
 | .normal,a,w=>wpList P ops Q l a w
 | x,a,w=>Q x a w
theorem kP {ops:Array Oper} {Q Q':Exit→Act→World→Prop} (hQ:∀ x a w,Q x a w→Q' x a w):∀ (fuel:Nat) (l:Array Bool) (a:Act) (w:World),wpAny P .any ops Q fuel l a w→wpAny P .any ops Q' fuel l a w
 | 0,l,a,w,h=>⟨h.1,hQ _ _ _ h.2⟩
 | fuel+1,l,a,w,h=>⟨fun hr=>hQ _ _ _ (h.1 hr),fun i hi=>by
     have h2:=h.2 i hi
     unfold wpOp at h2 ⊢
     have up:LetsOut Q→LetsOut Q':=fun ⟨a,w,q⟩=>⟨a,w,hQ _ _ _ q⟩
     split
     · rename_i ho; rw [ho] at h2; exact kP hQ fuel _ a w h2
     · rename_i o ho
       rw [ho] at h2
       dsimp only at h2
       split
       · rename_i hw; rw [if_pos hw] at h2
         rcases h2 with h2 | ⟨h2,h3⟩
         · exact .inl (jZ (fun x a w _ q=>hQ x a w q) up (sJ (fun a w q=>kP hQ fuel _ a w q) h2))
         · exact .inr ⟨h2,up h3⟩
       · rename_i hw; rw [if_neg hw] at h2
         exact kP hQ fuel _ _ w h2⟩
theorem vO {pre full:Array Oper} {p:Oper} (hg:∀ j b,p.guard=some (j,b)→j < pre.size∧full[j]? = pre[j]?) (ts:Array Value):Region.wanted p (yielded full ts)=Region.wanted p (yielded pre ts):=by
 unfold Region.wanted
 cases hq:p.guard with
 | none=>rfl
 | some q=>
   obtain ⟨j,b⟩:=q
   obtain ⟨h1,h2⟩:=hg j b hq
   simp only [yielded,h2]
theorem Q6:∀ (l:List Oper) (pre:Array Oper),(∀ i p,pre[i]? = some p→∀ e ∈ anyPre p,e < i)→xA pre l=true→∀ (Q:Exit→Act→World→Prop) (a:Act) (w:World) (fuel:Nat),
   wpAny P .any pre (qA P (pre++l.toArray) l Q) fuel (Array.replicate pre.size false) a w→wpAny P .any (pre++l.toArray) Q (fuel+l.length) (Array.replicate (pre++l.toArray).size false) a w
 | [],pre,hlt,ht,Q,a,w,fuel,h=>by
   have e:pre++([]:List Oper).toArray=pre:=by simp
   rw [e] at h ⊢
   exact kP (fun x a w q=>by cases x <;> exact q) _ _ _ _ h
 | o :: l,pre,hlt,ht,Q,a,w,fuel,h=>by
   simp only [xA,aE] at ht
   obtain ⟨⟨hL,hg⟩,hgo,ht⟩:=ht
   have e:pre++(o::l).toArray=pre.push o++l.toArray:=by apply mW; simp
   have hdl:∀ e ∈ anyPre o,e < pre.size:=by
     have hL:=hL
     simp only [aIj,aE,bL,decide_eq_true_eq] at hL
     exact hL.1
   have hlt1:∀ i p,(pre.push o)[i]? = some p→∀ e ∈ anyPre p,e < i:=by
     intro i p hp e he
     rw [dM] at hp
     split at hp
     · rename_i hi; cases hp; rw [hi]; exact hdl e he
     · exact hlt i p hp e he
   rw [e] at h ⊢
   rw [bH,show fuel+(l.length+1)=fuel+1+l.length by omega]
   refine Q6 l (pre.push o) hlt1 ht Q a w (fuel+1) ?_
   have e1:(pre.push o).size=pre.size+1:=by simp
   have e2:Array.replicate (pre.size+1) false=(Array.replicate pre.size false).push false:=by
     apply G5
     · simp
     · intro k h1 h2; simp [yK]
   rw [e1,e2]
   refine aRj hlt hL hg _ _ (by simp) ?_ a w (kP ?_ _ _ _ _ h)
   · intro i p hp hi
     exfalso
     have:=(bA.1 hp).1
     simp [Array.getD,this] at hi
   · intro x a w q
     cases x with
     | normal=>
       simp only [qA,oB] at q ⊢
       have hn:(pre.push o)[pre.size]? = some o:=by simp
       unfold wpOp
       rw [hn]
       dsimp only
       simp only [wpList] at q
       have hw:Region.wanted o (yielded (pre.push o++l.toArray) a.tmps)=Region.wanted o (yielded (pre.push o) a.tmps):=vO (fun j b hj=>by
         rw [hj] at hgo
         simp only [decide_eq_true_eq] at hgo
         exact ⟨by rw [e1]; omega,dF (by rw [e1]; omega)⟩) _
       rw [hw] at q
       split
       · rename_i hw2; rw [if_pos hw2] at q
         have up:LetsOut Q→LetsOut (qA P (pre.push o++l.toArray) l Q):=fun ⟨a,w,q⟩=>⟨a,w,q⟩
         rcases q with q | ⟨q,q3⟩
         · exact .inl (jZ (fun x a w hx q=>by cases x <;> first | exact absurd rfl hx | exact q) up q)
         · exact .inr ⟨q,up q3⟩
       · rename_i hw2; rw [if_neg hw2] at q; exact q
     | _=>exact q
theorem Z9 (hm:P.follows .mixedOrders=true) {id:Nat} {l:List Oper} (hd:rE rx pre=true) (ht:xA pre l=true) {al:List fE} {al2:List fE} (hl:bP rx pre (eQ pre)=some al) (ho:bP .off (pre++l.toArray) l=some al2)
   {K:List AV→List AObj→Prop} {env:List AV} {h:List AObj} {X:Ctx} {w:World} {a:Act} {Q:Exit→Act→World→Prop}
   (e:cX P G (some N) al (fun env h=>cX P G Option.none al2 K env h) env h) (g:GH G X w h) (r:EnvOK G.ds X w h env a) (hQ:∀ a' w',kU G X w h K a' w'→Q .normal a' w')
   (hP:∀ v a' w',kU G X w h (G.pan v) a' w'→Q (.panic [{ v:=v,recovered:=false }]) a' w'):(Code.region id (pre++l.toArray) true).wp P Q a w:=by
 have D:=aPf hd
 refine wp_region_any hm ?_
 rw [show (pre++l.toArray).size=pre.size+l.length by simp]
 have:=Q6 (P:=P) l pre (fun i p hp=>D.lt i p hp) ht Q a { w with drawn:=w.drawn+1 } pre.size (uX hd hl e g r ?_)
 · rw [show (pre++l.toArray).size=pre.size+l.length by simp] at this
   exact this
 · rintro a' w' ⟨env',h',X',k1,k2,k3,k4⟩
   exact kO (ops:=pre++l.toArray) (Q:=Q) l al2 ho env' h' X' w' a' k1 k2 k3 (fun a2 w2 ⟨env2,h2,X2,m1,m2,m3,m4⟩=>hQ a2 w2 ⟨env2,h2,X2,m1,m2,m3,k4.trans m4⟩)
     (fun _ v a2 w2 ⟨env2,h2,X2,m1,m2,m3,m4⟩=>hP v a2 w2 ⟨env2,h2,X2,m1,m2,m3,k4.trans m4⟩)
end

def kE:Option TH→Bool
 | some t=>t.k == 1000
 | Option.none=>false
def dT:Option TH→Bool
 | some t=>t.split
 | Option.none=>false
def lJ:Option TH→Nat
 | some t=>t.k
 | Option.none=>0
def mX:List Oper→List Oper × List Oper
 | []=>([],[])
 | [o]=>([],[o])
 | a::b::l=>(a::(mX (b::l)).1,(mX (b::l)).2)
def splitK:Nat→List Oper→List Oper × List Oper
 | 0,l=>([],l)
 | _+1,[]=>([],[])
 | k+1,a::l=>(a::(splitK k l).1,(splitK k l).2)
def mJ (k:Nat) (l:List Oper):List Oper × List Oper:=
 match k with
 | 0=>mX l
 | k+1=>splitK (k+1) l
theorem T0:∀ (l:List Oper),l=(mX l).1++(mX l).2
 | []=>rfl
 | [a]=>rfl
 | a::b::l=>by rw [mX,aI,← T0 (b::l)]
theorem T2:∀ (k:Nat) (l:List Oper),l=(splitK k l).1++(splitK k l).2
 | 0,l=>rfl
 | _+1,[]=>rfl
 | k+1,a::l=>by rw [splitK,aI,← T2 k l]
theorem aLe (k:Nat) (l:List Oper):l=(mJ k l).1++(mJ k l).2:=by
 cases k with
 | zero=>exact T0 l
 | succ k=>exact T2 _ l
def aYn (rx:RX) (k:Nat) (ops:Array Oper):Bool:=rE rx (mJ k ops.toList).1.toArray && xA (mJ k ops.toList).1.toArray (mJ k ops.toList).2
def strip (rx:Bool) (th:Nat→Option TH):Code→Option jX
 | .skip=>some .skip
 | .region id ops true=>match kE (th id) with
   | true=>some (.raw (.region id ops true))
   | false=>match dT (th id) with
     | true=>match bP (kD rx (th id)) (mJ (lJ (th id)) ops.toList).1.toArray (eQ (mJ (lJ (th id)) ops.toList).1.toArray),bP .off ops (mJ (lJ (th id)) ops.toList).2 with
       | some l,some a=>some (.seq (.draw (th id) l) (.region a))
       | _,_=>Option.none
     | false=>match bP (kD rx (th id)) ops (eQ ops) with
       | some l=>some (.draw (th id) l)
       | Option.none=>Option.none
 | .region id ops false=>match kE (th id) with
   | true=>some (.raw (.region id ops false))
   | false=>match bP .off ops ops.toList with
     | some l=>some (.region l)
     | Option.none=>Option.none
 | .seq a b=>match strip rx th a,strip rx th b with
   | some x,some y=>some (.seq x y)
   | _,_=>Option.none
 | .cond c a b=>match strip rx th a,strip rx th b with
   | some x,some y=>some (.cond c x y)
   | _,_=>Option.none
 | .block id c=>match strip rx th c with
   | some x=>some (.block id x)
   | Option.none=>Option.none
 | .loop c=>match strip rx th c with
   | some x=>some (.loop x)
   | Option.none=>Option.none
 | .exit id=>some (.exit id)
 | .ret=>some .ret
 | .rangeFunc a b c d=>some (.raw (.rangeFunc a b c d))
 | _=>Option.none

def hZ (rx:Bool) (th:Nat→Option TH):Code→Bool
 | .region id ops true=>match kE (th id) with
   | true=>true
   | false=>match dT (th id) with
     | true=>aYn (kD rx (th id)) (lJ (th id)) ops
     | false=>rE (kD rx (th id)) ops
 | .seq a b | .cond _ a b=>hZ rx th a && hZ rx th b
 | .block _ c | .loop c=>hZ rx th c
 | _=>true

section
variable {P:Program} {G:Md} {rx:Bool} {th:Nat→Option TH}

theorem aHd {c:Code} {S:Type} (I:S→Act→World→Prop) (μ:S→Nat) {Q:Exit→Act→World→Prop} (s0:S) {a:Act} {w:World} (h₀:I s0 a w)
   (round:∀ s a w,I s a w→c.wp P (Exit.then (fun a' w'=>∃ s',I s' a' w'∧μ s' < μ s) Q) a w):(Code.loop c).wp P Q a w:=by
 intro b k cs
 have key:∀ n s a w,μ s=n→I s a w →
     ∃ e a' w',Q e a' w'∧Arrives P (lone (b.at a (.code c::.inLoop c::k)) cs w) b k cs e a' w':=by
   intro n
   induction n using Nat.strongRecOn with
   | _ n ih=>
     intro s a w hn hI
     obtain ⟨e,a₁,w₁,hq,harr⟩:=round s a w hI b (.inLoop c::k) cs
     cases e with
     | normal=>
       obtain ⟨s',hI₁,hlt⟩:=hq
       obtain ⟨e₂,a₂,w₂,hq₂,harr₂⟩:=ih (μ s') (hn ▸ hlt) s' a₁ w₁ rfl hI₁
       exact ⟨e₂,a₂,w₂,hq₂,.of_steps (Steps.trans harr (.one step_inLoop)) harr₂⟩
     | exit id=>exact ⟨_,a₁,w₁,hq,.pass (x:=.inLoop c) rfl (fun _ _=>.inl (by simp)) harr⟩
     | goto l=>exact ⟨_,a₁,w₁,hq,.pass (x:=.inLoop c) rfl (fun _ _=>.inl (by simp)) harr⟩
     | ret=>exact ⟨_,a₁,w₁,hq,.pass (x:=.inLoop c) rfl (fun _ _=>.inl (by simp)) harr⟩
     | panic ch=>exact ⟨_,a₁,w₁,hq,.pass (x:=.inLoop c) rfl (fun _ _=>.inl (by simp)) harr⟩
     | outgrown=>exact ⟨_,a₁,w₁,hq,.pass (x:=.inLoop c) rfl (fun _ _=>.inl (by simp)) harr⟩
 obtain ⟨e,a',w',hq,harr⟩:=key _ s0 a w rfl h₀
 exact ⟨e,a',w',hq,.of_steps (.one step_loop) harr⟩

theorem kU.trans {X X1:Ctx} {w w1:World} {h h1:List AObj} {K:List AV→List AObj→Prop} {a':Act} {w':World} (t:Tr X w h X1 w1 h1) (k:kU G X1 w1 h1 K a' w'):kU G X w h K a' w':=by
 obtain ⟨env',h',X',k1,k2,k3,k4⟩:=k
 exact ⟨env',h',X',k1,k2,k3,t.trans k4⟩

theorem rI (hm:P.follows .mixedOrders=true):∀ (c:Code) (ac:jX),hZ rx th c=true→strip rx th c=some ac→∀ (Q:Exit→List AV→List AObj→Prop) (env:List AV) (h:List AObj),awx P G ac Q env h→AW P G c Q env h
 | .skip,ac,hd,hs,Q,env,h,e=>by
   simp only [strip,aA] at hs; subst hs
   intro X w a g r
   exact wp_skip ⟨env,h,X,e,g,r,.refl _ _ _⟩
 | .region id ops false,ac,hd,hs,Q,env,h,e=>by
   simp only [strip] at hs
   cases hr:kE (th id) with
   | true=>
     rw [hr] at hs
     simp only [aA] at hs
     subst hs
     exact e
   | false=>
   rw [hr] at hs
   simp only at hs
   cases hl:bP .off ops ops.toList with
   | none=>simp [hl] at hs
   | some al=>
     simp only [hl,aA] at hs
     subst hs
     intro X w a g r
     exact wp_region_list (kO ops.toList al hl env h X w a e g r (fun a' w' k=>k) (fun _ v a' w' ⟨env2,h2,X2,m1,m2,m3,m4⟩=>⟨env2,h2,X2,⟨v,rfl,m1⟩,m2,m3,m4⟩))
 | .region id ops true,ac,hd,hs,Q,env,h,e=>by
   simp only [strip] at hs
   simp only [hZ] at hd
   cases hr:kE (th id) with
   | true=>
     rw [hr] at hs
     simp only [aA] at hs
     subst hs
     exact e
   | false=>
   rw [hr] at hs hd
   simp only at hs hd
   cases hq:dT (th id) with
   | true=>
     rw [hq] at hs hd
     simp only [aYn,aE] at hs hd
     have he:=aLe (lJ (th id)) ops.toList
     generalize mJ (lJ (th id)) ops.toList=q at hs hd he
     obtain ⟨p,l⟩:=q
     have hops:ops=p.toArray++l.toArray:=by
       apply mW
       rw [he]; simp
     split at hs
     · rename_i al a' h2 h3
       simp only [aA] at hs
       subst hs
       intro X w a g r
       rw [hops]
       exact Z9 hm hd.1 hd.2 h2 (hops ▸ h3) e g r (fun a' w' k=>k) (fun v a' w' ⟨env2,h2,X2,m1,m2,m3,m4⟩=>⟨env2,h2,X2,⟨v,rfl,m1⟩,m2,m3,m4⟩)
     · cases hs
   | false=>
   rw [hq] at hs hd
   simp only at hs hd
   cases hl:bP (kD rx (th id)) ops (eQ ops) with
   | none=>simp [hl] at hs
   | some al=>
     simp only [hl,aA] at hs
     subst hs
     intro X w a g r
     exact bEi hm hd hl e g r (fun a' w' k=>k)
 | .seq x y,ac,hd,hs,Q,env,h,e=>by
   simp only [hZ,aE] at hd
   simp only [strip] at hs
   cases hx:strip rx th x with
   | none=>simp [hx] at hs
   | some ax=>
   cases hy:strip rx th y with
   | none=>simp [hx,hy] at hs
   | some ay=>
     simp only [hx,hy,aA] at hs
     subst hs
     intro X w a g r
     refine wp_seq (wp_mono (rI hm x ax hd.1 hx _ env h e X w a g r) ?_)
     intro e' a' w' k
     cases e' with
     | normal=>
       obtain ⟨env',h',X',k1,k2,k3,k4⟩:=k
       exact wp_mono (rI hm y ay hd.2 hy _ env' h' k1 X' w' a' k2 k3) (fun e2 a2 w2 k5=>k5.trans k4)
     | _=>exact k
 | .cond c x y,ac,hd,hs,Q,env,h,e=>by
   simp only [hZ,aE] at hd
   simp only [strip] at hs
   cases hx:strip rx th x with
   | none=>simp [hx] at hs
   | some ax=>
   cases hy:strip rx th y with
   | none=>simp [hx,hy] at hs
   | some ay=>
     simp only [hx,hy,aA] at hs
     subst hs
     intro X w a g r
     have rc:=iA g r c
     simp only [awx] at e
     cases hc:aev G env c with
     | b t=>
       rw [hc] at e rc
       have hv:=aDf rc
       cases t with
       | true=>exact wp_cond_true hv (rI hm x ax hd.1 hx _ env h (e.1 rfl) X w a g r)
       | false=>exact wp_cond_false hv (rI hm y ay hd.2 hy _ env h (e.2 rfl) X w a g r)
     | _=>rw [hc] at e; exact e.elim
 | .block id c,ac,hd,hs,Q,env,h,e=>by
   simp only [hZ] at hd
   simp only [strip] at hs
   cases hx:strip rx th c with
   | none=>simp [hx] at hs
   | some ax=>
     simp only [hx,aA] at hs
     subst hs
     intro X w a g r
     refine wp_block (wp_mono (rI hm c ax hd hx _ env h e X w a g r) ?_)
     intro e' a' w' k
     cases e' with
     | exit i=>
       simp only [Exit.inBlock]
       obtain ⟨env',h',X',k1,k2,k3,k4⟩:=k
       simp only [bCe,xL] at k1
       split
       · rename_i hi; rw [if_pos hi] at k1; exact ⟨env',h',X',k1,k2,k3,k4⟩
       · rename_i hi; rw [if_neg hi] at k1; exact ⟨env',h',X',k1,k2,k3,k4⟩
     | _=>exact k
 | .loop c,ac,hd,hs,Q,env,h,e=>by
   simp only [hZ] at hd
   simp only [strip] at hs
   cases hx:strip rx th c with
   | none=>simp [hx] at hs
   | some ax=>
     simp only [hx,aA] at hs
     subst hs
     intro X w a g r
     simp only [awx,Loop] at e
     obtain ⟨S,I,μ,s0,h0,hround⟩:=e
     refine aHd (S:=S × List AV × List AObj × Ctx) (fun s a' w'=>I s.1 s.2.1 s.2.2.1∧GH G s.2.2.2 w' s.2.2.1∧EnvOK G.ds s.2.2.2 w' s.2.2.1 s.2.1 a'∧Tr X w h s.2.2.2 w' s.2.2.1) (fun s=>μ s.1) (s0,env,h,X) ⟨h0,g,r,.refl _ _ _⟩ ?_
     rintro ⟨s1,env1,h1,X1⟩ a1 w1 ⟨i1,g1,r1,t1⟩
     refine wp_mono (rI hm c ax hd hx _ env1 h1 (hround s1 env1 h1 i1) X1 w1 a1 g1 r1) ?_
     intro e' a' w' k
     cases e' with
     | normal=>
       obtain ⟨env',h',X',⟨s',k1,k1'⟩,k2,k3,k4⟩:=k
       exact ⟨(s',env',h',X'),⟨k1,k2,k3,t1.trans k4⟩,k1'⟩
     | _=>exact k.trans t1
 | .exit id,ac,hd,hs,Q,env,h,e=>by
   simp only [strip,aA] at hs; subst hs
   intro X w a g r
   exact wp_exit ⟨env,h,X,e,g,r,.refl _ _ _⟩
 | .ret,ac,hd,hs,Q,env,h,e=>by
   simp only [strip,aA] at hs; subst hs
   intro X w a g r
   exact wp_ret ⟨env,h,X,e,g,r,.refl _ _ _⟩
 | .rangeFunc _ _ _ _,ac,hd,hs,Q,env,h,e=>by
   simp only [strip,aA] at hs
   subst hs
   exact e
 | .scope _,ac,hd,hs,Q,env,h,e=>by simp [strip] at hs
 | .label _,ac,hd,hs,Q,env,h,e=>by simp [strip] at hs
 | .goto _,ac,hd,hs,Q,env,h,e=>by simp [strip] at hs
 | .refuse _,ac,hd,hs,Q,env,h,e=>by simp [strip] at hs
end

mutual
def cV:AV→AV→List Nat
 | .hs id _ _ _,.own .. => [id]
 | .agg xs,.agg rs=>finIdsL xs rs
 | .tup xs,.tup rs=>finIdsL xs rs
 | _,_=>[]
def finIdsL:List AV→List AV→List Nat
 | x::xs,r::rs=>cV x r++finIdsL xs rs
 | _,_=>[]
end
mutual
def jJ (h:List AObj):AV→AV→List Nat
 | .hs _ _ _ _,.own .. => []
 | .e0,.own .. => []
 | .agg xs,.agg rs=>finRchL h xs rs
 | .tup xs,.tup rs=>finRchL h xs rs
 | x,_=>dW dep h x
def finRchL (h:List AObj):List AV→List AV→List Nat
 | x::xs,r::rs=>jJ h x r++finRchL h xs rs
 | _,_=>[]
end
mutual
def nE (h:List AObj):AV→AV→Prop
 | .hs id off n t,.own sz cells m=>t=false∧m=n∧∃ cs,h[id]? = some (.arr false sz cs)∧off+n * sz≤cs.length∧cells=(cs.drop off).take (n * sz)∧persL cells=true
 | .e0,.own sz cells m=>cells=[]∧m=0
 | .agg xs,.agg rs=>finOKL h xs rs
 | .tup xs,.tup rs=>finOKL h xs rs
 | x,r=>r=gG dep h x
def finOKL (h:List AObj):List AV→List AV→Prop
 | [],[]=>True
 | x::xs,r::rs=>nE h x r∧finOKL h xs rs
 | _,_=>False
end

def Fin (h:List AObj) (x r:AV):Prop:=(r=x∧pers x=true)∨(nE h x r∧(cV x r).Nodup∧∀ i ∈ cV x r,i ∉ jJ h x r)

def FB (X:Ctx) (ids:List Nat) (b:Nat):Prop:=X.F b∨∃ id o,id ∉ ids∧X.ι id=some (b,o)

section
variable {P:Program} {G:Glob} {D:List Deferred} {X:Ctx} {w:World} {h:List AObj}

def P7 (X:Ctx) (ids:List Nat):List Nat:=ids.filterMap fun i=>(X.ι i).map (·.1)
theorem aDg (X:Ctx) (a b:List Nat):P7 X (a++b)=P7 X a++P7 X b:=by simp [P7]
theorem P6 {X:Ctx} {ids:List Nat} {b:Nat} (hb:b ∈ P7 X ids):∃ id ∈ ids,∃ o,X.ι id=some (b,o):=by
 simp only [P7,List.mem_filterMap,cS] at hb
 obtain ⟨id,hi,⟨c,o⟩,hc,rfl⟩:=hb
 exact ⟨id,hi,o,hc⟩
theorem wK (g:GH G X w h):∀ {ids:List Nat},ids.Nodup→(P7 X ids).Nodup
 | [],_=>by simp [P7]
 | id::ids,hn=>by
   rw [pX] at hn
   have ih:=wK g hn.2
   simp only [P7,lE]
   cases hb:X.ι id with
   | none=>simp only [Option.map_none]; exact ih
   | some bo=>
     obtain ⟨b,o⟩:=bo
     simp only [hb,dA]
     rw [pX]
     refine ⟨fun hm=>?_,ih⟩
     obtain ⟨id',hi',o',ho'⟩:=P6 (X:=X) (ids:=ids) hm
     exact hn.1 (g.inj _ _ _ _ _ hb ho' ▸ hi')

theorem iT (g:GH G X w h) (ids:List Nat) {x:AV} {v:Value} (r:RV X w h x v) (hd:∀ i ∈ ids,i ∉ dW dep h x):RR (FB X ids) w (gG dep h x) v []:=by
 refine RR.val ((yS g dep x v r).monoF ?_)
 rintro b (hb | ⟨id,hi,o,ho⟩)
 · exact .inl hb
 · exact .inr ⟨id,o,fun hm=>hd id hm hi,ho⟩

mutual
theorem aOq (g:GH G X w h) (ids:List Nat):∀ (x r:AV) (v:Value),nE h x r→RV X w h x v→(∀ i ∈ ids,i ∉ jJ h x r)→RR (FB X ids) w r v (P7 X (cV x r))
 | .hs id off n t,r,v,e,rv,hd=>by
   have gen:nE h (.hs id off n t) r=(r=gG dep h (.hs id off n t))→cV (.hs id off n t) r=[]→jJ h (.hs id off n t) r=dW dep h (.hs id off n t)→RR (FB X ids) w r v (P7 X (cV (.hs id off n t) r)):=by
     intro e1 e2 e3
     rw [e1] at e
     rw [e2,e]
     rw [e3] at hd
     exact iT g ids rv hd
   cases r with
   | own sz cells m=>
     clear gen
     simp only [nE] at e
     obtain ⟨rfl,rfl,cs,hid,hle,rfl,hp⟩:=e
     simp only [cV,RR]
     cases rv with
     | dead hr hd' _=>simp [AV.refs] at hr; subst hr; rw [hid] at hd'; cases hd'
     | hs0 hid' hf ho=>exact .inr ⟨by simp,rfl,_,rfl⟩
     | @hs _ _ _ _ fz' s' cells' b o cap T N hid' hι hsh hn hcc hN htt hff=>
       rw [hid] at hid'; cases hid'
       have ok:=g.objs _ _ hid
       cases ok with
       | absent h0=>rw [h0] at hι; cases hι
       | @arr _ _ _ b' o' cur T' fr h0 hb hf1 hf2 hl h1 hr hc1=>
       rw [h0] at hι; cases hι
       obtain ⟨hF,rfl⟩:=hf2 rfl
       have hNs:N=cur.size:=by simp [World.shape?,hb] at hsh; exact hsh.2.symm
       subst hNs
       refine .inl ⟨b,o+off,cur,T',cap,by simp [P7,h0],rfl,hb,by simp; omega,hcc,hN,hc1,?_⟩
       · intro j y u hy hu
         have hy':=hy
         rw [dR] at hy
         split at hy
         · rw [dS] at hy
           exact (hr (off+j) y u hy (by rw [← dO]; exact hu)).pers (gP hp j y hy') (fun b hb=>.inl hb) (fun _ _=>rfl)
         · cases hy
   | _=>exact gen rfl rfl rfl
 | .e0,r,v,e,rv,hd=>by
   have gen:nE h .e0 r=(r=gG dep h .e0)→cV .e0 r=[]→jJ h .e0 r=dW dep h .e0→RR (FB X ids) w r v (P7 X (cV .e0 r)):=by
     intro e1 e2 e3
     rw [e1] at e
     rw [e2,e]
     rw [e3] at hd
     exact iT g ids rv hd
   cases r with
   | own sz cells m=>
     clear gen
     simp only [nE] at e
     obtain ⟨rfl,rfl⟩:=e
     simp only [cV,RR]
     cases rv with
     | e0 a=>exact .inr ⟨trivial,trivial,a,rfl⟩
     | dead hr _ _=>simp [AV.refs] at hr
   | _=>exact gen rfl rfl rfl
 | .agg xs,r,v,e,rv,hd=>by
   have gen:nE h (.agg xs) r=(r=gG dep h (.agg xs))→cV (.agg xs) r=[]→jJ h (.agg xs) r=dW dep h (.agg xs)→RR (FB X ids) w r v (P7 X (cV (.agg xs) r)):=by
     intro e1 e2 e3
     rw [e1] at e
     rw [e2,e]
     rw [e3] at hd
     exact iT g ids rv hd
   cases r with
   | agg rs=>
     clear gen
     simp only [nE] at e
     simp only [cV]
     cases rv with
     | @agg _ vs hl h1 hr=>exact ⟨vs,rfl,h1,finL_ok g ids xs rs vs.toList e (by simpa using hl) (fun j a v ha hv=>hr j a v ha (by simpa using hv)) hd⟩
     | dead hr _ _=>simp [AV.refs] at hr
   | _=>exact gen rfl rfl rfl
 | .tup xs,r,v,e,rv,hd=>by
   have gen:nE h (.tup xs) r=(r=gG dep h (.tup xs))→cV (.tup xs) r=[]→jJ h (.tup xs) r=dW dep h (.tup xs)→RR (FB X ids) w r v (P7 X (cV (.tup xs) r)):=by
     intro e1 e2 e3
     rw [e1] at e
     rw [e2,e]
     rw [e3] at hd
     exact iT g ids rv hd
   cases r with
   | tup rs=>
     clear gen
     simp only [nE] at e
     simp only [cV]
     cases rv with
     | @tup _ vs hl hr=>exact ⟨vs,rfl,finL_ok g ids xs rs vs.toList e (by simpa using hl) (fun j a v ha hv=>hr j a v ha (by simpa using hv)) hd⟩
     | dead hr _ _=>simp [AV.refs] at hr
   | _=>exact gen rfl rfl rfl
 | .u,r,v,e,rv,hd=>by
   have e':r=gG dep h (.u):=by cases r <;> exact e
   have e2:cV (.u) r=[]:=by cases r <;> rfl
   have e3:jJ h (.u) r=dW dep h (.u):=by cases r <;> rfl
   rw [e2,e']
   rw [e3] at hd
   exact iT g ids rv hd
 | .b x,r,v,e,rv,hd=>by
   have e':r=gG dep h (.b x):=by cases r <;> exact e
   have e2:cV (.b x) r=[]:=by cases r <;> rfl
   have e3:jJ h (.b x) r=dW dep h (.b x):=by cases r <;> rfl
   rw [e2,e']
   rw [e3] at hd
   exact iT g ids rv hd
 | .i k n,r,v,e,rv,hd=>by
   have e':r=gG dep h (.i k n):=by cases r <;> exact e
   have e2:cV (.i k n) r=[]:=by cases r <;> rfl
   have e3:jJ h (.i k n) r=dW dep h (.i k n):=by cases r <;> rfl
   rw [e2,e']
   rw [e3] at hd
   exact iT g ids rv hd
 | .s l,r,v,e,rv,hd=>by
   have e':r=gG dep h (.s l):=by cases r <;> exact e
   have e2:cV (.s l) r=[]:=by cases r <;> rfl
   have e3:jJ h (.s l) r=dW dep h (.s l):=by cases r <;> rfl
   rw [e2,e']
   rw [e3] at hd
   exact iT g ids rv hd
 | .p v',r,v,e,rv,hd=>by
   have e':r=gG dep h (.p v'):=by cases r <;> exact e
   have e2:cV (.p v') r=[]:=by cases r <;> rfl
   have e3:jJ h (.p v') r=dW dep h (.p v'):=by cases r <;> rfl
   rw [e2,e']
   rw [e3] at hd
   exact iT g ids rv hd
 | .sl cells n,r,v,e,rv,hd=>by
   have e':r=gG dep h (.sl cells n):=by cases r <;> exact e
   have e2:cV (.sl cells n) r=[]:=by cases r <;> rfl
   have e3:jJ h (.sl cells n) r=dW dep h (.sl cells n):=by cases r <;> rfl
   rw [e2,e']
   rw [e3] at hd
   exact iT g ids rv hd
 | .own sz cells n,r,v,e,rv,hd=>by
   have e':r=gG dep h (.own sz cells n):=by cases r <;> exact e
   have e2:cV (.own sz cells n) r=[]:=by cases r <;> rfl
   have e3:jJ h (.own sz cells n) r=dW dep h (.own sz cells n):=by cases r <;> rfl
   rw [e2,e']
   rw [e3] at hd
   exact iT g ids rv hd
 | .ptr id off,r,v,e,rv,hd=>by
   have e':r=gG dep h (.ptr id off):=by cases r <;> exact e
   have e2:cV (.ptr id off) r=[]:=by cases r <;> rfl
   have e3:jJ h (.ptr id off) r=dW dep h (.ptr id off):=by cases r <;> rfl
   rw [e2,e']
   rw [e3] at hd
   exact iT g ids rv hd
 | .box cells off,r,v,e,rv,hd=>by
   have e':r=gG dep h (.box cells off):=by cases r <;> exact e
   have e2:cV (.box cells off) r=[]:=by cases r <;> rfl
   have e3:jJ h (.box cells off) r=dW dep h (.box cells off):=by cases r <;> rfl
   rw [e2,e']
   rw [e3] at hd
   exact iT g ids rv hd
 | .mp id,r,v,e,rv,hd=>by
   have e':r=gG dep h (.mp id):=by cases r <;> exact e
   have e2:cV (.mp id) r=[]:=by cases r <;> rfl
   have e3:jJ h (.mp id) r=dW dep h (.mp id):=by cases r <;> rfl
   rw [e2,e']
   rw [e3] at hd
   exact iT g ids rv hd
 | .mapv ks vs,r,v,e,rv,hd=>by
   have e':r=gG dep h (.mapv ks vs):=by cases r <;> exact e
   have e2:cV (.mapv ks vs) r=[]:=by cases r <;> rfl
   have e3:jJ h (.mapv ks vs) r=dW dep h (.mapv ks vs):=by cases r <;> rfl
   rw [e2,e']
   rw [e3] at hd
   exact iT g ids rv hd
 | .fn f first capt,r,v,e,rv,hd=>by
   have e':r=gG dep h (.fn f first capt):=by cases r <;> exact e
   have e2:cV (.fn f first capt) r=[]:=by cases r <;> rfl
   have e3:jJ h (.fn f first capt) r=dW dep h (.fn f first capt):=by cases r <;> rfl
   rw [e2,e']
   rw [e3] at hd
   exact iT g ids rv hd
theorem finL_ok (g:GH G X w h) (ids:List Nat):∀ (xs rs:List AV) (vs:List Value),finOKL h xs rs→xs.length=vs.length→(∀ (j:Nat) (a:AV) (v:Value),xs[j]? = some a→vs[j]? = some v→RV X w h a v)→(∀ i ∈ ids,i ∉ finRchL h xs rs) →
   RRs (FB X ids) w rs vs (P7 X (finIdsL xs rs))
 | [],[],[],e,hl,hr,hd=>by simp [finIdsL,P7,RRs]
 | x :: xs,r::rs,v::vs,e,hl,hr,hd=>by
   simp only [finOKL] at e
   simp only [finRchL] at hd
   simp only [finIdsL,aDg]
   exact ⟨_,_,rfl,aOq g ids x r v e.1 (hr 0 x v rfl rfl) (fun i hi hm=>hd i hi (gB _ hm)),
     finL_ok g ids xs rs vs e.2 (by simpa using hl) (fun j a v ha hv=>hr (j+1) a v (by simpa using ha) (by simpa using hv)) (fun i hi hm=>hd i hi (eO _ hm))⟩
 | [],r::rs,vs,e,hl,hr,hd=>by simp [finOKL] at e
 | x::xs,[],vs,e,hl,hr,hd=>by simp [finOKL] at e
 | [],[],_::_,e,hl,hr,hd=>by simp at hl
 | _::_,_::_,[],e,hl,hr,hd=>by simp at hl
end

mutual
theorem O5:∀ (x r:AV),nE h x r→∀ i ∈ cV x r,∃ sz cs,h[i]? = some (.arr false sz cs)
 | .hs id off n t,r,e,i,hi=>by
   cases r with
   | own sz cells m=>
     simp only [nE] at e
     obtain ⟨rfl,rfl,cs,hid,_⟩:=e
     simp only [cV,bV] at hi
     subst hi
     exact ⟨_,_,hid⟩
   | _=>simp [cV] at hi
 | .agg xs,r,e,i,hi=>by
   cases r with
   | agg rs=>simp only [nE] at e; simp only [cV] at hi; exact finL_live xs rs e i hi
   | _=>simp [cV] at hi
 | .tup xs,r,e,i,hi=>by
   cases r with
   | tup rs=>simp only [nE] at e; simp only [cV] at hi; exact finL_live xs rs e i hi
   | _=>simp [cV] at hi
 | .e0,r,e,i,hi=>by cases r <;> simp [cV] at hi
 | .u,r,e,i,hi=>by cases r <;> simp [cV] at hi
 | .b x,r,e,i,hi=>by cases r <;> simp [cV] at hi
 | .i k n,r,e,i,hi=>by cases r <;> simp [cV] at hi
 | .s l,r,e,i,hi=>by cases r <;> simp [cV] at hi
 | .p v',r,e,i,hi=>by cases r <;> simp [cV] at hi
 | .sl cells n,r,e,i,hi=>by cases r <;> simp [cV] at hi
 | .own sz cells n,r,e,i,hi=>by cases r <;> simp [cV] at hi
 | .ptr id off,r,e,i,hi=>by cases r <;> simp [cV] at hi
 | .box cells off,r,e,i,hi=>by cases r <;> simp [cV] at hi
 | .mp id,r,e,i,hi=>by cases r <;> simp [cV] at hi
 | .mapv ks vs,r,e,i,hi=>by cases r <;> simp [cV] at hi
 | .fn f first capt,r,e,i,hi=>by cases r <;> simp [cV] at hi
theorem finL_live:∀ (xs rs:List AV),finOKL h xs rs→∀ i ∈ finIdsL xs rs,∃ sz cs,h[i]? = some (.arr false sz cs)
 | [],[],e,i,hi=>by simp [finIdsL] at hi
 | x::xs,r::rs,e,i,hi=>by
   simp only [finOKL] at e
   simp only [finIdsL,cR] at hi
   rcases hi with hi | hi
   · exact O5 x r e.1 i hi
   · exact finL_live xs rs e.2 i hi
 | [],_::_,e,i,hi=>by simp [finOKL] at e
 | _::_,[],e,i,hi=>by simp [finOKL] at e
end

def aAr (P:Program) (env:List AV) (h:List AObj):ResultVar→Option AV
 | .tmp t=>some (env.getD t .u)
 | .cell a T=>vK P T h (env.getD a .u)
def xX (P:Program) (env:List AV) (h:List AObj):List ResultVar→Option (List AV)
 | []=>some []
 | r::rs=>match aAr P env h r,xX P env h rs with
   | some x,some l=>some (x::l)
   | _,_=>Option.none
def D4 (P:Program) (rs:List ResultVar) (env:List AV) (h:List AObj):Option AV:=
 match xX P env h rs with
 | some [x]=>some x
 | some l=>some (.tup l)
 | Option.none=>Option.none

def aEh (tmps:Array Value):ResultVar→Go.Sem Value
 | .tmp t=>pure (tmps.getD t undef)
 | .cell b t=>do loadVar t (← asAddr (tmps.getD b undef))
theorem aHt (fn:Func) (tmps:Array Value):results fn tmps=(do
   let vs ← fn.results.mapM (aEh tmps)
   pure (if h:vs.size=1 then vs[0] else .tuple vs)):=rfl

theorem aWw {env:List AV} {a:Act} (g:GH G X w h) (r:EnvOK D X w h env a) (rv:ResultVar) {x:AV} (e:aAr P env h rv=some x) :
   ∃ v,(aEh a.tmps rv).run P w=.ok v w∧RV X w h x v:=by
 cases rv with
 | tmp t=>
   simp only [aAr,aA] at e
   subst e
   exact ⟨_,rfl,iA g r (.tmp t)⟩
 | cell b T=>
   simp only [aAr] at e
   have rb:=iA g r (.tmp b)
   simp only [aev,Act.eval] at rb
   obtain ⟨u,hu,ru⟩:=aNp g rb e
   refine ⟨u,?_,ru⟩
   have:∃ ad,a.tmps.getD b undef=.pointer (some ad):=by
     unfold vK at e
     cases ho:aGs h (env.getD b .u) with
     | none=>rw [ho] at e; cases e
     | some q=>
       obtain ⟨cells,off⟩:=q
       obtain ⟨b',o,cs,T',fr,hv,_⟩:=aRg g rb ho
       exact ⟨_,hv⟩
   obtain ⟨ad,had⟩:=this
   simp only [aEh]
   rw [had] at hu ⊢
   simpa [Instr.loadAt,Instr.sureAddr,asAddr] using hu

theorem aGr {env:List AV} {a:Act} (g:GH G X w h) (r:EnvOK D X w h env a):∀ (rs:List ResultVar) (l:List AV),xX P env h rs=some l →
   ∃ vs:List Value,(rs.mapM (aEh a.tmps)).run P w=.ok vs w∧l.length=vs.length∧∀ (j:Nat) (x:AV) (v:Value),l[j]? = some x→vs[j]? = some v→RV X w h x v
 | [],l,e=>by
   simp only [xX,aA] at e
   subst e
   exact ⟨[],by simp,rfl,by simp⟩
 | rv::rs,l,e=>by
   simp only [xX] at e
   cases h1:aAr P env h rv with
   | none=>simp [h1] at e
   | some x=>
   cases h2:xX P env h rs with
   | none=>simp [h1,h2] at e
   | some l'=>
     simp only [h1,h2,aA] at e
     subst e
     obtain ⟨v,hv,rx⟩:=aWw g r rv h1
     obtain ⟨vs,hvs,hl,hr⟩:=aGr g r rs l' h2
     refine ⟨v::vs,?_,by simp [hl],?_⟩
     · rw [List.mapM_cons,bZ,hv,bI,bZ,hvs]; rfl
     · intro j y u hy hu
       cases j with
       | zero=>simp at hy hu; exact hy ▸ hu ▸ rx
       | succ j=>exact hr j y u (by simpa using hy) (by simpa using hu)

theorem Q4 {env:List AV} {a:Act} {fn:Func} (g:GH G X w h) (r:EnvOK D X w h env a) {x:AV} (e:D4 P fn.results.toList env h=some x):∃ v,(results fn a.tmps).run P w=.ok v w∧RV X w h x v:=by
 unfold D4 at e
 cases hl:xX P env h fn.results.toList with
 | none=>simp [hl] at e
 | some l=>
   obtain ⟨vs,hvs,hlen,hr⟩:=aGr g r _ l hl
   have hrun:(results fn a.tmps).run P w=.ok (if h:vs.toArray.size=1 then vs.toArray[0] else .tuple vs.toArray) w:=by
     rw [aHt,bZ,Array.mapM_eq_mapM_toList,Sem.run_map,hvs]
     rfl
   rw [hrun]
   rw [hl] at e
   clear hl hvs hrun
   cases l with
   | nil=>
     cases vs with
     | cons=>simp at hlen
     | nil=>
       simp only [aA] at e
       subst e
       exact ⟨_,rfl,by simpa using .tup (vs := #[]) rfl (by simp)⟩
   | cons y l=>
     cases vs with
     | nil=>simp at hlen
     | cons v vs=>
       cases l with
       | nil=>
         have hvs0:vs=[]:=List.eq_nil_of_length_eq_zero (by simpa using hlen.symm)
         subst hvs0
         simp only [aA] at e
         subst e
         exact ⟨v,by simp,hr 0 y v rfl rfl⟩
       | cons z l=>
         simp only [aA] at e
         subst e
         refine ⟨_,rfl,?_⟩
         have:(v::vs).toArray.size ≠ 1:=by simp at hlen ⊢; intro h0; rw [h0] at hlen; simp at hlen
         rw [dif_neg this]
         exact .tup (by simpa using hlen) (fun j a v ha hv=>hr j a v ha (by simpa using hv))
end

theorem bHa {P:Program} {G:Glob} {f:FuncId} {fn:Func} {c:Code} {args:List AV} {r:AV} (hf:P.funcs[f]? = some fn) (hb:fn.body=some c) (hcal:fY P f=true) (hG:nQ G)
   (h:AW P (pl G) c (fun e env h=>(e=.normal∨e=.ret)∧∃ x,D4 P fn.results.toList env h=some x∧Fin h x r) (args++List.replicate (fn.ntmps - args.length) .u) []):Ctr P G f args r:=by
 refine ⟨hcal,hG,?_⟩
 intro F w vs hF hgl hl hr
 have g0:GH G (.none F) w []:=⟨fun id ob h=>by simp at h,fun id bo h=>by simp [Ctx.none] at h,fun id id' b o o' h=>by simp [Ctx.none] at h,fun id b o h=>by simp [Ctx.none] at h,hF,hgl⟩
 have r0:EnvOK (pl G).ds (.none F) w [] (args++List.replicate (fn.ntmps - args.length) .u) { tmps:=vs++Array.replicate (fn.ntmps - vs.size) undef,defers:=[] }:=by
   refine ⟨rfl,by simp [hl],?_⟩
   intro j x v hx hv
   by_cases hj:j < args.length
   · rw [aJ hj] at hx
     rw [dF (by omega)] at hv
     exact hr j x v hx hv
   · rw [aR (by omega),lD] at hx
     split at hx
     · cases hx; exact .u _
     · cases hx
 refine calls_of_wp hf hb (wp_mono (h (.none F) w _ g0 r0) ?_)
 rintro e a' w' ⟨env',h',X',hk,g',r',t⟩
 obtain ⟨he,x,hres,hfin⟩:=aBz hk
 obtain ⟨v,hrun,rx⟩:=Q4 g' r' hres
 have hgr:E5 w w':=⟨fun b hb=>t.step.frame b hb (fun id o e=>by simp [Ctx.none] at e),t.step.size,t.step.os,t.step.tape,t.step.output⟩
 have hι:∀ id b o,X'.ι id=some (b,o)→w.heap.size≤b:=by
   intro id b o hb
   rcases t.step.new id b o hb with h | ⟨_,_,h⟩
   · exact h
   · simp [Ctx.none] at h
 have hXF:∀ b,X'.F b→F b∨w.heap.size≤b:=by
   intro b hb
   rcases t.step.fnew b hb with h | h | ⟨_,_,h⟩
   · exact .inl h
   · exact .inr h
   · simp [Ctx.none] at h
 have hFB:∀ (ids:List Nat),(∀ b,F b→FB X' ids b)∧(∀ b,FB X' ids b→F b∨w.heap.size≤b)∧(∀ b,FB X' ids b→b < w'.heap.size):=by
   intro ids
   refine ⟨fun b hb=>.inl (t.ext.fr b hb),?_,?_⟩
   · rintro b (hb | ⟨id,o,_,ho⟩)
     · exact hXF b hb
     · exact .inr (hι _ _ _ ho)
   · rintro b (hb | ⟨id,o,_,ho⟩)
     · exact g'.fbnd b hb
     · exact g'.bnd _ _ _ ho
 have hR:∃ v' F' bs,Ending.returned v=.returned v'∧E5 w w'∧(∀ b,F b→F' b)∧(∀ b,F' b→F b∨w.heap.size≤b)∧(∀ b,F' b→b < w'.heap.size)∧RR F' w' r v' bs∧bs.Nodup∧∀ b ∈ bs,¬ F' b∧w.heap.size≤b:=by
   rcases hfin with ⟨rfl,hp⟩ | ⟨hok,hnd,hdis⟩
   · exact ⟨v,FB X' [],[],rfl,hgr,(hFB []).1,(hFB []).2.1,(hFB []).2.2,RR.val (rx.pers hp (fun b hb=>.inl hb) (fun _ _=>rfl)),fJ,by simp⟩
   · refine ⟨v,FB X' (cV x r),P7 X' (cV x r),rfl,hgr,(hFB _).1,(hFB _).2.1,(hFB _).2.2,aOq g' _ x r v hok rx hdis,wK g' hnd,?_⟩
     intro b hb
     obtain ⟨id,hi,o,ho⟩:=P6 hb
     refine ⟨?_,hι _ _ _ ho⟩
     rintro (hF' | ⟨id',o',hn,ho'⟩)
     · obtain ⟨sz,cs,hid⟩:=O5 x r hok id hi
       have ok:=g'.objs _ _ hid
       cases ok with
       | arr h0 h1 h2 h3=>rw [h0] at ho; cases ho; exact (h3 rfl).1 hF'
       | absent h0=>rw [h0] at ho; cases ho
     · exact hn (g'.inj _ _ _ _ _ ho ho' ▸ hi)
 rcases he with rfl | rfl
 · exact ⟨r'.defers,v,hrun,hR⟩
 · exact ⟨r'.defers,v,hrun,hR⟩
theorem oH {rx:Bool} {th:Nat→Option TH} {P:Program} (hm:P.follows .mixedOrders=true) {G:Glob} {f:FuncId} {fn:Func} {c:Code} {ac:jX} {args:List AV} {r:AV} (hf:P.funcs[f]? = some fn) (hb:fn.body=some c) (hcal:fY P f=true) (hd:hZ rx th c=true) (hs:strip rx th c=some ac) (hG:nQ G)
   (h:awx P (pl G) ac (fun e env h=>(e=.normal∨e=.ret)∧∃ x,D4 P fn.results.toList env h=some x∧Fin h x r) (args++List.replicate (fn.ntmps - args.length) .u) []):Ctr P G f args r:=
 bHa hf hb hcal hG (rI hm c ac hd hs _ _ _ h)
abbrev pmd (g:Glob) (v:Value):Md:=⟨g,fun v' _ _=>v'=v,[]⟩
theorem bBb {P:Program} {G:Glob} {f:FuncId} {fn:Func} {c:Code} {args:List AV} {v:Value} (hf:P.funcs[f]? = some fn) (hb:fn.body=some c) (hcal:fY P f=true) (hG:nQ G)
   (h:AW P (pmd G v) c (fun _ _ _=>False) (args++List.replicate (fn.ntmps - args.length) .u) []):bMy P G f args v:=by
 refine ⟨hcal,hG,?_⟩
 intro F w vs hF hgl hl hr
 have g0:GH G (.none F) w []:=⟨fun id ob h=>by simp at h,fun id bo h=>by simp [Ctx.none] at h,fun id id' b o o' h=>by simp [Ctx.none] at h,fun id b o h=>by simp [Ctx.none] at h,hF,hgl⟩
 have r0:EnvOK (pmd G v).ds (.none F) w [] (args++List.replicate (fn.ntmps - args.length) .u) { tmps:=vs++Array.replicate (fn.ntmps - vs.size) undef,defers:=[] }:=by
   refine ⟨rfl,by simp [hl],?_⟩
   intro j x v hx hv
   by_cases hj:j < args.length
   · rw [aJ hj] at hx
     rw [dF (by omega)] at hv
     exact hr j x v hx hv
   · rw [aR (by omega),lD] at hx
     split at hx
     · cases hx; exact .u _
     · cases hx
 refine calls_of_wp hf hb (wp_mono (h (.none F) w _ g0 r0) ?_)
 rintro e a' w' ⟨env',h',X',hk,g',r',t⟩
 cases e with
 | panic ch=>
   obtain ⟨v',rfl,rfl⟩:=hk
   exact ⟨r'.defers,rfl,⟨fun b hb=>t.step.frame b hb (fun id o e=>by simp [Ctx.none] at e),t.step.size,t.step.os,t.step.tape,t.step.output⟩⟩
 | _=>exact hk.elim
theorem aHo {rx:Bool} {th:Nat→Option TH} {P:Program} (hm:P.follows .mixedOrders=true) {G:Glob} {f:FuncId} {fn:Func} {c:Code} {ac:jX} {args:List AV} {v:Value} (hf:P.funcs[f]? = some fn) (hb:fn.body=some c) (hcal:fY P f=true) (hd:hZ rx th c=true) (hs:strip rx th c=some ac) (hG:nQ G)
   (h:awx P (pmd G v) ac (fun _ _ _=>False) (args++List.replicate (fn.ntmps - args.length) .u) []):bMy P G f args v:=
 bBb hf hb hcal hG (rI hm c ac hd hs _ _ _ h)

section
variable (P:Program) (G:Md) (dr:Option DR)

def eB (op:Op) (d:Option Nat) (os:List fE) (K:List AV→List AObj→Prop) (env:List AV) (h:List AObj):Prop:=
 nM P G dr op (fun r h'=>cX P G dr os K (gN env d r) h') env h
def nH (x:Option AV) (d:Option Nat) (os:List fE) (K:List AV→List AObj→Prop) (env:List AV) (h:List AObj):Prop:=
 match x with
 | some v=>cX P G dr os K (gN env d v) h
 | Option.none=>False
def aPs (x:Option (List AObj)) (d:Option Nat) (os:List fE) (K:List AV→List AObj→Prop) (env:List AV):Prop:=
 match x with
 | some h'=>cX P G dr os K (gN env d .u) h'
 | Option.none=>False
def mL (x:Option (AV × List AObj)) (d:Option Nat) (os:List fE) (K:List AV→List AObj→Prop) (env:List AV):Prop:=
 match x with
 | some (v,h')=>cX P G dr os K (gN env d v) h'
 | Option.none=>False
def bEw (fv:AV) (args:List AV) (d:Option Nat) (os:List fE) (K:List AV→List AObj→Prop) (env:List AV) (h:List AObj):Prop:=
 match fv with
 | .fn f first capt=>xT P G (fun v h'=>G.pan v env h') dr.isSome f (first++args++capt) h (fun r h'=>cX P G dr os K (gN env d r) h')
 | _=>False
def xV (f:FuncId) (A:List AV) (d:Option Nat) (os:List fE) (K:List AV→List AObj→Prop) (env:List AV) (h:List AObj):Prop:=
 xT P G (fun v h'=>G.pan v env h') dr.isSome f A h (fun r h'=>cX P G dr os K (gN env d r) h')
def lY (c:AV) (want:Bool) (op:Op) (d:Option Nat) (os:List fE) (K:List AV→List AObj→Prop) (env:List AV) (h:List AObj):Prop:=
 qL (F8 c want) (eB P G dr op d os K env h) (cX P G dr os K (gN env d (.tup [])) h)
def G3 (c:AV) (a b:jX) (Q:Exit→List AV→List AObj→Prop) (env:List AV) (h:List AObj):Prop:=
 qL c (awx P G a Q env h) (awx P G b Q env h)
end

section
variable {P:Program} {G:Md} {dr:Option DR} {d:Option Nat} {os:List fE} {K:List AV→List AObj→Prop} {env:List AV} {h:List AObj} {Q:Exit→List AV→List AObj→Prop}

theorem aCd:cX P G dr [] K env h=K env h:=rfl
theorem aXr {op:Op} {K:AV→List AObj→Prop}:aHr P G dr false op K env h=nM P G dr op K env h:=by
 cases op with
 | call c=>obtain ⟨ce,as,ts⟩:=c; cases ce <;> rfl
 | _=>rfl
theorem aTq {op:Op}:cX P G dr (⟨d,op,none,false⟩::os) K env h=eB P G dr op d os K env h:=by simp only [cX,aJa,true_and,aXr]; rfl
theorem aMw {op:Op} {t:Nat} {want:Bool}:cX P G dr (⟨d,op,some (t,want),false⟩::os) K env h=lY P G dr (env.getD t .u) want op d os K env h:=by simp only [cX,aJa,true_and,aXr]; rfl
def ckV (P:Program) (G:Md) (N:DR) (op:Op) (d:Option Nat) (os:List fE) (K:List AV→List AObj→Prop) (env:List AV) (h:List AObj):Prop:=
 match op with
 | .buildSlice T len ps=>nH P G (some N) (aJi P (aev G env) T len ps) d os K env h
 | .call ⟨.value f,as,ts⟩=>bFy P G N ⟨.value f,as,ts⟩ (fun r h'=>cX P G (some N) os K (gN env d r) h') env h
 | op=>aAl G N op env∧eB P G (some N) op d os K env h
theorem bHv {op:Op} {N:DR}:cX P G (some N) (⟨d,op,none,true⟩::os) K env h=ckV P G N op d os K env h:=by
 cases op with
 | buildSlice T len ps=>
   have e:cX P G (some N) (⟨d,.buildSlice T len ps,none,true⟩::os) K env h=(True∧xQ ((aJi P (aev G env) T len ps).map fun v=>(v,h)) (fun r h'=>cX P G (some N) os K (gN env d r) h')):=rfl
   rw [e,ckV,true_and]
   cases aJi P (aev G env) T len ps <;> rfl
 | call c=>
   obtain ⟨ce,as,ts⟩:=c
   cases ce with
   | value f=>
     have e:cX P G (some N) (⟨d,.call ⟨.value f,as,ts⟩,none,true⟩::os) K env h=(True∧bFy P G N ⟨.value f,as,ts⟩ (fun r h'=>cX P G (some N) os K (gN env d r) h') env h):=rfl
     rw [e,true_and]
     rfl
   | _=>rfl
 | _=>rfl
def bMg (P:Program) (G:Md) (N:DR) (f:FuncId) (A:List AV) (d:Option Nat) (os:List fE) (K:List AV→List AObj→Prop) (env:List AV) (h:List AObj):Prop:=
 ∃ x h',ACalls P G f A h (fun x1 h1=>x1=x∧h1=h')∧lG N h h'∧cX P G (some N) os K (gN env d x) h'
def bQs (P:Program) (G:Md) (N:DR) (fv:AV) (args:List AV) (d:Option Nat) (os:List fE) (K:List AV→List AObj→Prop) (env:List AV) (h:List AObj):Prop:=
 match fv with
 | .fn f first capt=>bMg P G N f (first++args++capt) d os K env h
 | _=>False
theorem aNz {fx:Operand} {args:Array Operand} {tys:Array TypeId} {N:DR}:ckV P G N (.call ⟨.value fx,args,tys⟩) d os K env h=bQs P G N (aev G env fx) (args.toList.map (aev G env)) d os K env h:=by
 rw [ckV]
 simp only [bFy,eZ,mA,bQs,bMg]
 cases aev G env fx <;> simp only [xT,aG,if_false,false_and,exists_false]
 have q:∀ (f:FuncId) (A:List AV) (K:AV→List AObj→Prop),(ACalls P G.g f A h K∨oV P G.g f A h fun _ _=>False)=ACalls P G.g f A h K:=fun f A K=>propext ⟨fun a=>a.elim id oV.none,.inl⟩
 simp only [q]
theorem bMf {f:FuncId} {a b args:List AV} {N:DR}:bQs P G N (.fn f a b) args d os K env h=bMg P G N f (a++args++b) d os K env h:=rfl
def asl:Option (AV × List AObj)→Option AV
 | some (.hs _ _ n _,[.arr _ _ cells])=>if 0 < n∧persL cells=true then some (.sl cells n) else Option.none
 | _=>Option.none
theorem aWu {i o n sz:Nat} {t fz:Bool} {cells:List AV}:asl (some (.hs i o n t,[.arr fz sz cells]))=if 0 < n∧persL cells=true then some (.sl cells n) else Option.none:=rfl
theorem aUv {op:Op}:lY P G dr (.b true) true op d os K env h=eB P G dr op d os K env h:=by simp [lY,F8,qL]
theorem aUz {op:Op}:lY P G dr (.b false) false op d os K env h=eB P G dr op d os K env h:=by simp [lY,F8,qL]
theorem aUw {op:Op}:lY P G dr (.b true) false op d os K env h=cX P G dr os K (gN env d (.tup [])) h:=by simp [lY,F8,qL]
theorem aUy {op:Op}:lY P G dr (.b false) true op d os K env h=cX P G dr os K (gN env d (.tup [])) h:=by simp [lY,F8,qL]
theorem aUx {op:Op} {want:Bool}:lY P G dr (.tup []) want op d os K env h=cX P G dr os K (gN env d (.tup [])) h:=by simp [lY,F8,qL]
theorem A8 {op:Op} {x want:Bool} (h1:x=want→eB P G dr op d os K env h) (h2:x=(!want)→cX P G dr os K (gN env d (.tup [])) h):lY P G dr (.b x) want op d os K env h:=by
 cases x <;> cases want <;> simp_all [lY,F8,qL]

theorem bFz:awx P G .skip Q env h=Q .normal env h:=rfl
theorem aSc {ops:List fE}:awx P G (.region ops) Q env h=cX P G none ops (Q .normal) env h:=rfl
theorem bGb {ops:List fE}:awx P G (.draw Option.none ops) Q env h=cX P G (some ⟨h.length,[]⟩) ops (Q .normal) env h:=rfl
theorem bAe {N k:Nat} {L:List Nat} {v m s:Bool} {xs zs:List Nat} {ops:List fE}:awx P G (.draw (some ⟨some N,L,v,m,s,xs,zs,k⟩) ops) Q env h=cX P G (some ⟨N,L⟩) ops (Q .normal) env h:=rfl
theorem bAf {k:Nat} {L:List Nat} {v m s:Bool} {xs zs:List Nat} {ops:List fE}:awx P G (.draw (some ⟨none,L,v,m,s,xs,zs,k⟩) ops) Q env h=cX P G (some ⟨h.length,L⟩) ops (Q .normal) env h:=rfl
theorem bNo {a b:jX}:awx P G (.seq a b) Q env h=awx P G a (vP (awx P G b Q) Q) env h:=rfl
theorem bGd {c:Operand} {a b:jX}:awx P G (.cond c a b) Q env h=G3 P G (aev G env c) a b Q env h:=rfl
theorem bAg {i:Nat} {c:jX}:awx P G (.block i c) Q env h=awx P G c (xL i Q) env h:=rfl
theorem bGa {i:Nat}:awx P G (.exit i) Q env h=Q (.exit i) env h:=rfl
theorem bNp:awx P G .ret Q env h=Q .ret env h:=rfl
theorem bNq {c:Code}:awx P G (.raw c) Q env h=AW P G c Q env h:=rfl
theorem aBk {K:List AV→List AObj→Prop}:vP K Q .normal env h=K env h:=rfl
theorem aKo {K:List AV→List AObj→Prop} {i:Nat}:vP K Q (.exit i) env h=Q (.exit i) env h:=rfl
theorem aSe {K:List AV→List AObj→Prop}:vP K Q .ret env h=Q .ret env h:=rfl
theorem aAp {i:Nat}:xL i Q .normal env h=Q .normal env h:=rfl
theorem aQk {i:Nat}:xL i Q .ret env h=Q .ret env h:=rfl
theorem aJf {i j:Nat}:xL i Q (.exit j) env h=if j=i then Q .normal env h else Q (.exit j) env h:=rfl
theorem bLs {a b:jX}:G3 P G (.b true) a b Q env h=awx P G a Q env h:=by simp [G3,qL]
theorem bLt {a b:jX}:G3 P G (.b false) a b Q env h=awx P G b Q env h:=by simp [G3,qL]
theorem J7 {a b:jX} {x:Bool} (h1:x=true→awx P G a Q env h) (h2:x=false→awx P G b Q env h):G3 P G (.b x) a b Q env h:=⟨h1,h2⟩

theorem bAd {c:jX} {S:Type} (I:S→List AV→List AObj→Prop) (μ:S→Nat) (s0:S) (h0:I s0 env h) (round:∀ s env h,I s env h→awx P G c (vP (fun e' h'=>∃ s',I s' e' h'∧μ s' < μ s) Q) env h):awx P G (.loop c) Q env h:=
 ⟨S,I,μ,s0,h0,round⟩

theorem bHi {x:Operand}:eB P G dr (.move x) d os K env h=cX P G dr os K (gN env d (aev G env x)) h:=rfl
theorem aTd {x:Operand}:eB P G dr (.assign x) d os K env h=cX P G dr os K (gN env d (aev G env x)) h:=rfl
def bMm:AV→AV→AV→Option AV
 | .b t,a,b=>some (if t then a else b)
 | _,_,_=>Option.none
theorem kZ {x:Option AV}:xQ (match x with | some v=>some (v,h) | Option.none=>Option.none) (fun r h'=>cX P G dr os K (gN env d r) h')=nH P G dr x d os K env h:=by cases x <;> rfl
theorem bHh {c a b:Operand}:eB P G dr (.pick c a b) d os K env h=nH P G dr (bMm (aev G env c) (aev G env a) (aev G env b)) d os K env h:=by
 simp only [eB,nM,eS,oX,eZ,aop]
 cases aev G env c <;> rfl
def aGw:Bool→Option Nat→Option (List AV)→List AObj→Option (AV × List AObj)
 | true,some sz,some cells,h=>some (.ptr h.length 0,h++[.arr false sz cells])
 | true,Option.none,some cells,h=>some (.ptr h.length 0,h++[.box false cells])
 | false,_,some cells,h=>some (.ptr h.length 0,h++[.box false cells])
 | _,_,Option.none,_=>Option.none
theorem aRm {c:List AV} {h:List AObj}:aGw true Option.none (some c) h=some (.ptr h.length 0,h++[.box false c]):=rfl
theorem aWy {q:Option Nat} {c:List AV} {h:List AObj}:aGw false q (some c) h=some (.ptr h.length 0,h++[.box false c]):=rfl
theorem bBu {T:TypeId}:eB P G dr (.alloc T) d os K env h=mL P G dr (aGw dr.isNone (lB P T) (zeroOf P T) h) d os K env:=by
 simp only [eB,nM,eS,oX,eZ,aop]
 cases lB P T <;> cases zeroOf P T <;> cases dr <;> rfl
theorem bOi {T:TypeId} {x:Operand}:eB P G dr (.box T x) d os K env h=mL P G dr (aGw dr.isNone (lB P T) (jU (aev G env x)) h) d os K env:=by
 simp only [eB,nM,eS,oX,eZ,aop]
 cases lB P T <;> cases jU (aev G env x) <;> cases dr <;> rfl
def aRr (pl:Option (List (Nat × Nat))) (z:Option (List AV)) (parts:List (Nat × AV)):Option AV:=
 match pl,z with
 | some pl,some z=>(mH (fun i=>pl[i]?) z parts).map .agg
 | _,_=>Option.none
theorem bBr {T:TypeId} {parts:Array (Nat × Operand)}:eB P G dr (.build T parts) d os K env h=nH P G dr (aRr (iH P T) (zeroOf P T) (parts.toList.map fun (i,x)=>(i,aev G env x))) d os K env h:=by
 simp only [eB,nM,eS,oX,eZ,aop]
 cases iH P T with
 | none=>rfl
 | some pl=>
   cases zeroOf P T with
   | none=>rfl
   | some z=>
     simp only [aRr]
     cases mH (fun i=>pl[i]?) z (parts.toList.map fun (i,x)=>(i,aev G env x)) <;> rfl
def iM (h:List AObj) (el:Option TypeId) (len:Nat) (parts:List (Nat × AV)):Option (AV × List AObj):=
 match el with
 | some e=>match zeroOf P e with
   | some z=>if kJ P e=some z.length∧0 < z.length∧len * z.length≤65536 then
       (if len=0∧parts=[] then some (.e0,h) else (mH (fun i=>some (i * z.length,z.length)) (List.replicate len z).flatten parts).map fun cells=>(.hs h.length 0 len false,h++[.arr false z.length cells])) else Option.none
   | Option.none=>Option.none
 | Option.none=>Option.none
def aIz (dr:Option DR) (l:List (Nat × Operand)) (a b:Option (AV × List AObj)):Option (AV × List AObj):=if (dr.isSome && aIy l)=true then a else b
theorem bVx {l:List (Nat × Operand)} {a b:Option (AV × List AObj)}:aIz Option.none l a b=b:=rfl
theorem bVy {N:DR} {a b:Option (AV × List AObj)}:aIz (some N) [] a b=b:=rfl
theorem bVw {N:DR} {i:Nat} {t:Tmp} {l:List (Nat × Operand)} {a b:Option (AV × List AObj)}:aIz (some N) ((i,.tmp t)::l) a b=b:=rfl
theorem bQo {N:DR} {i:Nat} {v:Value} {a b:Option (AV × List AObj)}:aIz (some N) [(i,.const v)] a b=a:=rfl
theorem bMo {T:TypeId} {len:Nat} {parts:Array (Nat × Operand)}:aop P G env h (.buildSlice T len parts)=iM (P:=P) h (eU P T) len (parts.toList.map fun (i,x)=>(i,aev G env x)):=by
 simp only [aop,iM]
 cases eU P T with
 | none=>rfl
 | some e=>
   simp only
   cases zeroOf P e with
   | none=>rfl
   | some z=>
     simp only
     have hm:(parts.toList=[])↔((parts.toList.map fun (i,x)=>(i,aev G env x))=[]):=by simp
     simp only [hm]
     split
     · split
       · rfl
       · cases mH (fun i=>some (i * z.length,z.length)) (List.replicate len z).flatten (parts.toList.map fun (i,x)=>(i,aev G env x)) <;> rfl
     · rfl
theorem aCc {x:Option (AV × List AObj)}:xQ x (fun r h'=>cX P G dr os K (gN env d r) h')=mL P G dr x d os K env:=by
 cases x <;> rfl
theorem U6 {T:TypeId} {len:Nat} {parts:Array (Nat × Operand)}:eB P G dr (.buildSlice T len parts) d os K env h=mL P G dr (aIz dr parts.toList ((aRz P T len parts).map fun v=>(v,h)) (iM (P:=P) h (eU P T) len (parts.toList.map fun (i,x)=>(i,aev G env x)))) d os K env:=by
 rw [← bMo]
 simp only [eB,nM,eS,oX,eZ]
 exact aCc
def lC:Nat→List (Nat × AV)→Option (List AV)
 | _,[]=>some []
 | i,(j,a)::rest=>if j=i then (match jU a with
   | some [c]=>(lC (i+1) rest).map (c::·)
   | _=>Option.none) else Option.none
theorem aAx:∀ (parts:List (Nat × AV)) (i:Nat) (cells pre:List AV) (z:AV),lC i parts=some cells→pre.length=i →
   mH (fun i=>some (i * 1,1)) (pre++List.replicate cells.length z) parts=some (pre++cells)
 | [],i,cells,pre,z,h,hp=>by
   simp only [lC,aA] at h
   subst h
   simp [mH]
 | (j, a)::rest,i,cells,pre,z,h,hp=>by
   simp only [lC] at h
   split at h
   case isFalse=>cases h
   rename_i hj
   subst hj
   split at h
   case h_2=>cases h
   rename_i c hc
   cases hr:lC (j+1) rest with
   | none=>simp [hr] at h
   | some cs=>
     simp only [hr,dA,aA] at h
     subst h
     have ih:=aAx rest (j+1) cs (pre++[c]) z hr (by simp [hp])
     simp only [mH,hc,bH,cL,List.length_append,List.length_replicate,aRt,dL]
     rw [if_pos ⟨trivial,by omega⟩]
     have hs:jG (pre++List.replicate (cs.length+1) z) j [c]=(pre++[c])++List.replicate cs.length z:=by
       unfold jG
       rw [List.take_left' hp,List.length_singleton,List.drop_append,dI (by omega),hp]
       have:j+1 - j=1:=by omega
       rw [this,aK,fR,aU,bC]
     have e1:(fun i=>some (i * 1,1))=(fun i:Nat=>some (i,1)):=by funext i; rw [aRt]
     rw [e1] at ih
     rw [hs,ih,cD]; rfl
theorem aVi {i:Nat}:lC i []=some []:=rfl
theorem bIr {i:Nat} {rest:List (Nat × AV)} {l:List UInt8}:lC i ((i,.s l)::rest)=(lC (i+1) rest).map (.s l::·):=by simp [lC,jU,AV.one]
theorem bIs {i:Nat} {rest:List (Nat × AV)} {k:IntKind} {n:Int}:lC i ((i,.i k n)::rest)=(lC (i+1) rest).map (.i k n::·):=by simp [lC,jU,AV.one]
theorem bDx {i:Nat} {rest:List (Nat × AV)} {c:List AV} {n:Nat}:lC i ((i,.sl c n)::rest)=(lC (i+1) rest).map (.sl c n::·):=by simp [lC,jU,AV.one]
theorem bDy {i:Nat} {rest:List (Nat × AV)} {id o n:Nat} {t:Bool}:lC i ((i,.hs id o n t)::rest)=(lC (i+1) rest).map (.hs id o n t::·):=by simp [lC,jU,AV.one]
def mB (h:List AObj) (el:Option TypeId) (len:Nat) (parts:List (Nat × AV)):Option (AV × List AObj):=
 match el with
 | some e=>match zeroOf P e,kJ P e,lC 0 parts with
   | some [_],some 1,some cells=>if cells.length=len∧0 < len∧len≤65536 then some (.hs h.length 0 len false,h++[.arr false 1 cells]) else iM (P:=P) h (some e) len parts
   | _,_,_=>iM (P:=P) h (some e) len parts
 | Option.none=>Option.none
theorem rN {el:Option TypeId} {len:Nat} {parts:List (Nat × AV)}:iM (P:=P) h el len parts=mB (P:=P) h el len parts:=by
 unfold mB
 cases el with
 | none=>rfl
 | some e=>
   simp only
   split
   · rename_i z cells hz hs hf
     split
     · rename_i hc
       obtain ⟨hc1,hc0,hc2⟩:=hc
       have:=aAx parts 0 cells [] z hf rfl
       simp only [iM,hz,hs,List.length_singleton]
       rw [if_pos ⟨trivial,by omega,by omega⟩,if_neg (by omega)]
       have e2:(List.replicate len [z]).flatten=[]++List.replicate cells.length z:=by
         rw [hc1,aK]
         clear this hc1 hc0 hc2 hf
         induction len with
         | zero=>rfl
         | succ n ih=>rw [fR,dY,ih,fR]; rfl
       rw [e2,this]; rfl
     · rfl
   · rfl
theorem L9 {T:TypeId} {len:Nat} {parts:Array (Nat × Operand)}:eB P G dr (.buildSlice T len parts) d os K env h=mL P G dr (aIz dr parts.toList ((aRz P T len parts).map fun v=>(v,h)) (mB (P:=P) h (eU P T) len (parts.toList.map fun (i,x)=>(i,aev G env x)))) d os K env:=by
 rw [U6,rN]
theorem bMi {T:TypeId} {len:Nat} {parts:Array (Nat × Operand)}:aJi P (aev G env) T len parts=asl (iM (P:=P) [] (eU P T) len (parts.toList.map fun (i,x)=>(i,aev G env x))):=by
 unfold aJi iM
 cases eU P T with
 | none=>rfl
 | some e=>
   simp only
   cases zeroOf P e with
   | none=>rfl
   | some z=>
     simp only
     by_cases h1:kJ P e=some z.length∧0 < z.length∧len * z.length≤65536
     · rw [if_pos h1]
       by_cases h2:0 < len
       · rw [if_pos ⟨h1.1,h1.2.1,h2,h1.2.2⟩,if_neg (fun q=>by omega)]
         cases mH (fun i=>some (i * z.length,z.length)) (List.replicate len z).flatten (parts.toList.map fun (i,x)=>(i,aev G env x)) with
         | none=>rfl
         | some cells=>simp only [dA,asl,aK,h2,true_and]
       · rw [if_neg (fun q=>h2 q.2.2.1)]
         split
         · rfl
         · cases mH (fun i=>some (i * z.length,z.length)) (List.replicate len z).flatten (parts.toList.map fun (i,x)=>(i,aev G env x)) with
           | none=>rfl
           | some cells=>simp only [dA,asl,aK,h2,false_and,if_false]
     · rw [if_neg h1,if_neg (fun q=>h1 ⟨q.1,q.2.1,q.2.2.2⟩)]; rfl
theorem bDk {T:TypeId} {len:Nat} {parts:Array (Nat × Operand)} {N:DR}:ckV P G N (.buildSlice T len parts) d os K env h=nH P G (some N) (asl (mB (P:=P) [] (eU P T) len (parts.toList.map fun (i,x)=>(i,aev G env x)))) d os K env h:=by
 rw [← rN,← bMi]; rfl
theorem bHj {T:TypeId} {x:Operand}:eB P G dr (.load T x) d os K env h=nH P G dr (vK P T h (aev G env x)) d os K env h:=by
 simp only [eB,nM,eS,oX,eZ,aop]; exact kZ
theorem bBk {T:TypeId} {x y:Operand}:eB P G dr (.store T x y) d os K env h=aPs P G dr (rJ P h T (aev G env x) (aev G env y)) d os K env:=by
 simp only [eB,nM,eS,oX,eZ,aop]
 cases rJ P h T (aev G env x) (aev G env y) <;> rfl
def bRa (h:List AObj):AV→Option AV
 | .ptr id off=>match h[id]? with | some (.box ..) | some (.arr ..) | some (.held false _)=>some (.ptr id off) | _=>Option.none
 | .box cells off=>some (.box cells off)
 | .fn f a b=>some (.fn f a b)
 | _=>Option.none
theorem aHz {x:Operand}:eB P G dr (.nilCheck x) d os K env h=nH P G dr (bRa h (aev G env x)) d os K env h:=by
 simp only [eB,nM,eS,oX,eZ,aop,bRa]
 cases aev G env x with
 | ptr id off=>
   simp only
   cases h[id]? with
   | none=>rfl
   | some ob=>cases ob with
     | held m q=>cases m <;> rfl
     | _=>rfl
 | _=>rfl
theorem bOj {op:BinOp} {T U:TypeId} {x:Operand} {t:Nat}:eB P G dr (.binOp op T x (.tmp t) U) d os K env h=nH P G dr (aXh P op T (aev G env x) (aev G env (.tmp t))) d os K env h:=by
 simp only [eB,nM,eS,oX,bFs,eZ,aop]; exact kZ
theorem bBt {op:BinOp} {T U:TypeId} {x:Operand} {k:IntKind} {n:Int}:eB P G dr (.binOp op T x (.const (.int k n)) U) d os K env h=nH P G dr (aXh P op T (aev G env x) (.i k n)) d os K env h:=by
 simp only [eB,nM,eS,oX,bFs,eZ,aop]; exact kZ
theorem bBs {op:BinOp} {T U:TypeId} {x:Operand} {b:ByteArray}:eB P G dr (.binOp op T x (.const (.string b)) U) d os K env h=nH P G dr (aXh P op T (aev G env x) (aev G env (.const (.string b)))) d os K env h:=by
 simp only [eB,nM,eS,oX,bFs,eZ,aop]; exact kZ
def bOp (P:Program) (G:Md) (A:Option TypeDesc) (v:AV) (d:Option Nat) (os:List fE) (K:List AV→List AObj→Prop) (env:List AV) (h:List AObj):Prop:=
 match A with
 | some (.slice _)=>(match v with
   | .e0=>cX P G none os K (gN env d (.b true)) h∧cX P G none os K (gN env d (.b false)) h
   | .sl _ n=>(n=0→cX P G none os K (gN env d (.b true)) h)∧cX P G none os K (gN env d (.b false)) h
   | _=>False)
 | _=>False
theorem bOf {T U:TypeId} {x:Operand}:eB P G none (.binOp .eql T x (.const (.slice none 0 0)) U) d os K env h=bOp P G (P.underlying T) (aev G env x) d os K env h:=by
 simp only [eB,nM,eS,oX,bFs,aYh,bOp]
 cases P.underlying T with
 | none=>rfl
 | some t=>cases t <;> first | rfl | (cases aev G env x <;> rfl)
theorem aYg {e:TypeId} {cells:List AV} {n:Nat} (h1:n=0→cX P G none os K (gN env d (.b true)) h) (h2:cX P G none os K (gN env d (.b false)) h):bOp P G (some (.slice e)) (.sl cells n) d os K env h:=⟨h1,h2⟩
theorem bUn {op:UnOp} {T:TypeId} {x:Operand}:eB P G dr (.unOp op T x) d os K env h=nH P G dr (aUn op (aev G env x)) d os K env h:=by
 simp only [eB,nM,eS,oX,eZ,aop]; exact kZ
theorem bHl {S T:TypeId} {x:Operand}:eB P G dr (.convert S T x) d os K env h=nH P G dr (aDm P S T (aev G env x)) d os K env h:=by
 simp only [eB,nM,eS,oX,eZ,aop]; exact kZ
theorem aIa {f:FuncId} {a b:Array Operand}:eB P G dr (.makeFunc (.func f) a b) d os K env h=cX P G dr os K (gN env d (.fn f (a.toList.map (aev G env)) (b.toList.map (aev G env)))) h:=rfl
theorem aMa {T:TypeId}:eB P G none (.makeMap T none) d os K env h=cX P G none os K (gN env d (.mp h.length)) (h++[.map false [] []]):=rfl
theorem aBt {T:TypeId} {l c:Operand}:eB P G dr (.makeSlice T l c) d os K env h=mL P G dr (lP P h T (aev G env l) (aev G env c)) d os K env:=by
 simp only [eB,nM,eS,oX,eZ,aop]
 cases lP P h T (aev G env l) (aev G env c) <;> rfl
theorem bBl {T:TypeId} {x:Operand} {l hi m:Option Operand}:eB P G dr (.slice T x l hi m) d os K env h=nH P G dr (qE P h T (aev G env x) (l.map (aev G env)) (hi.map (aev G env)) (m.map (aev G env))) d os K env h:=by
 simp only [eB,nM,eS,oX,eZ,aop]; exact kZ
def wQ (h:List AObj) (q:Option (Nat × Option Nat)) (x:AV):Option AV:=
 match q with
 | some (fo,some (_+1))=>match x with
   | .ptr id off=>match h[id]? with | some (.box ..) | some (.arr ..) | some (.held false _)=>some (.ptr id (off+fo)) | _=>Option.none
   | .box cells off=>some (.box cells (off+fo))
   | _=>Option.none
 | _=>Option.none
def dQ (P:Program) (S:TypeId) (f:Nat):Option (Nat × Option Nat):=(kN P S f).map fun q=>(q.1,kJ P q.2)
theorem aBv {S:TypeId} {x:Operand} {f:Nat}:eB P G dr (.fieldAddr S x f) d os K env h=nH P G dr (wQ h (dQ P S f) (aev G env x)) d os K env h:=by
 simp only [eB,nM,eS,oX,eZ,aop,wQ,dQ]
 cases kN P S f with
 | none=>rfl
 | some q=>
   obtain ⟨fo,ft⟩:=q
   simp only [dA]
   cases kJ P ft with
   | none=>rfl
   | some n=>
     cases n with
     | zero=>rfl
     | succ n=>
       cases aev G env x with
       | ptr id off=>
         simp only
         cases h[id]? with
         | none=>rfl
         | some ob=>cases ob with
           | held m q=>cases m <;> rfl
           | _=>rfl
       | _=>rfl
theorem aBu {T:TypeId} {x i:Operand}:eB P G dr (.indexAddr T x i) d os K env h=nH P G dr (iY P h T (aev G env x) (aev G env i)) d os K env h:=by
 simp only [eB,nM,eS,oX,eZ,aop]; exact kZ
theorem bBp {T:TypeId} {x i:Operand}:eB P G dr (.index T x i) d os K env h=nH P G dr (D9 P T (aev G env x) (aev G env i)) d os K env h:=by
 simp only [eB,nM,eS,oX,eZ,aop]; exact kZ
theorem aTc {T:TypeId} {m k:Operand} {ok:Bool}:eB P G dr (.lookup T m k ok) d os K env h=nH P G dr (nK P h T (aev G env m) (aev G env k) ok) d os K env h:=by
 simp only [eB,nM,eS,oX,eZ,aop]; exact kZ
def bEz (P:Program) (h:List AObj) (T:TypeId) (m k x:AV):Option (List AObj):=
 if pers x then fM P h T m k x else fM P (freeze (dW dep h x) h) T m k (gG dep h x)
theorem aBs {T:TypeId} {m k x:Operand}:eB P G dr (.mapUpdate T m k x) d os K env h=aPs P G dr (bEz P h T (aev G env m) (aev G env k) (aev G env x)) d os K env:=by
 simp only [eB,nM,eS,oX,eZ,bEz]
 split
 · cases fM P h T (aev G env m) (aev G env k) (aev G env x) <;> rfl
 · cases fM P (freeze (dW dep h (aev G env x)) h) T (aev G env m) (aev G env k) (gG dep h (aev G env x)) <;> rfl
def bQv:AV→Nat→Option AV
 | .tup vs,i=>vs[i]?
 | _,_=>Option.none
theorem aMb {x:Operand} {i:Nat}:eB P G dr (.extract x i) d os K env h=nH P G dr (bQv (aev G env x) i) d os K env h:=by
 simp only [eB,nM,eS,oX,eZ,aop,bQv]
 cases aev G env x with
 | tup vs=>exact kZ
 | _=>rfl
theorem bOg {T:TypeId} {x:Operand}:eB P G dr (.call ⟨.builtin .len,#[x],#[T]⟩) d os K env h=nH P G dr ((aRo P h T (aev G env x)).map fun n=>.i .i64 (Int.ofNat n)) d os K env h:=by
 simp only [eB,nM,eS,oX,eZ,mA,iU,aN,aW]
 cases aRo P h T (aev G env x) <;> rfl
def aAz (P:Program) (h:List AObj) (T:TypeId) (s x:AV):Option (AV × List AObj):=
 if qP h x then gA P h T s x else gA P (freeze (dW dep h x) h) T s (gG dep h x)
theorem aTe {T:TypeId} {s x:Operand}:eB P G dr (.call ⟨.builtin .append,#[s,x],#[T,T]⟩) d os K env h=mL P G dr (aAz P h T (aev G env s) (aev G env x)) d os K env:=by
 simp only [eB,nM,eS,oX,eZ,mA,aN,aW,if_true,aAz]
 split
 · cases gA P h T (aev G env s) (aev G env x) <;> rfl
 · cases gA P (freeze (dW dep h (aev G env x)) h) T (aev G env s) (gG dep h (aev G env x)) <;> rfl
def aDu (P:Program) (G:Md) (dr:Option DR) (A:Option TypeDesc) (q:Option (AV × List AObj)) (d:Option Nat) (os:List fE) (K:List AV→List AObj→Prop) (env:List AV):Prop:=
 match A with
 | some (.int _)=>mL P G dr q d os K env
 | _=>False
theorem aKd {k:IntKind} {q:Option (AV × List AObj)}:aDu P G dr (some (.int k)) q d os K env=mL P G dr q d os K env:=rfl
theorem zG {T U:TypeId} (hTU:T ≠ U) {s x:Operand}:eB P G dr (.call ⟨.builtin .append,#[s,x],#[T,U]⟩) d os K env h=aDu P G dr (P.underlying U) (qD P h T (aev G env s) (aev G env x)) d os K env:=by
 simp only [eB,nM,eS,oX,eZ,mA,aN,aW,if_neg hTU]
 generalize qD P h T (aev G env s) (aev G env x)=q
 cases P.underlying U with
 | none=>rfl
 | some t=>cases t <;> first | rfl | (cases q <;> rfl)
def bMs (P:Program) (h:List AObj) (T:Option TypeDesc) (id off n:Nat) (x:AV):Option (AV × List AObj):=
 match T with
 | some (.slice el)=>match kJ P el,h[id]? with
   | some sz,some (.arr false s cells)=>match D0 h sz x with
     | some (win,m)=>if s=sz∧off+n * sz≤cells.length then some (.i .i64 (min m n:Nat),h.set id (.arr false s (jG cells off (win.take (min m n * sz))))) else Option.none
     | Option.none=>Option.none
   | _,_=>Option.none
 | _=>Option.none
theorem bEn {T U:TypeId} {h:List AObj} {id off n:Nat} {t:Bool} {x:AV}:iU P h .copy #[T,U] [.hs id off n t,x]=bMs P h (P.underlying T) id off n x:=rfl
theorem bHk {T U:TypeId} {x y:Operand}:eB P G dr (.call ⟨.builtin .copy,#[x,y],#[T,U]⟩) d os K env h=mL P G dr (iU P h .copy #[T,U] [aev G env x,aev G env y]) d os K env:=by
 simp only [eB,nM,eS,oX,eZ,mA,aN,aW]
 cases iU P h .copy #[T,U] [aev G env x,aev G env y] <;> rfl
theorem bOb {k:IntKind} {a:Int}:aJr .shr k a 1=some (.i k (a / 2)):=by simp [aJr]
theorem bOh {T:TypeId} {x:Operand}:eB P G dr (.call ⟨.builtin .cap,#[x],#[T]⟩) d os K env h=mL P G dr (iU P h .cap #[T] [aev G env x]) d os K env:=by
 simp only [eB,nM,eS,oX,eZ,mA,aN,aW]
 cases iU P h .cap #[T] [aev G env x] <;> rfl
theorem aZv {T e:TypeId} {h:List AObj} (hT:P.underlying T=some (.slice e)):iU P h .cap #[T] [.e0]=some (.i .i64 0,h):=by simp [iU,hT]
theorem aXa {T:TypeId} {x:AV} {h:List AObj}:aAz P h T .e0 x=if qP h x then gA P h T .e0 x else gA P (freeze (dW dep h x) h) T .e0 (gG dep h x):=rfl
theorem aWz {T:TypeId} {x:AV} {h:List AObj} {id o n:Nat} {t:Bool}:aAz P h T (.hs id o n t) x=if qP h x then gA P h T (.hs id o n t) x else gA P (freeze (dW dep h x) h) T (.hs id o n t) (gG dep h x):=rfl
theorem bHm {fx:Operand} {args:Array Operand} {tys:Array TypeId}:eB P G dr (.call ⟨.value fx,args,tys⟩) d os K env h=bEw P G dr (aev G env fx) (args.toList.map (aev G env)) d os K env h:=by
 simp only [eB,nM,eS,oX,eZ,mA,bEw]
 cases aev G env fx <;> rfl
def aLz (P:Program) (G:Md) (T:Option TypeDesc) (x:AV) (h1:List AObj) (d:Option Nat) (os:List fE) (K:List AV→List AObj→Prop) (env:List AV):Prop:=
 match T,x with
 | some (.map _ _),.mapv ks vs=>cX P G none os K (gN env d (.ptr h1.length 0)) (h1++[.mit none ks vs])
 | some .string,.s l=>cX P G none os K (gN env d (.ptr h1.length 0)) (h1++[.sit l 0])
 | _,_=>False
theorem bBm {T:TypeId} {x:Operand}:eB P G none (.range T x) d os K env h=aLz P G (P.underlying T) (gG dep h (aev G env x)) (freeze (dW dep h (aev G env x)) h) d os K env:=by
 simp only [eB,nM,eS,oX,eZ,yI,aG,if_false,aLz]
 cases P.underlying T with
 | none=>rfl
 | some t=>cases t <;> first | rfl | (cases gG dep h (aev G env x) <;> rfl)
def bVd (P:Program) (G:Md) (x:AV) (d:Option Nat) (os:List fE) (K:List AV→List AObj→Prop) (env:List AV) (h:List AObj):Prop:=
 match x with
 | .ptr id 0=>match h[id]? with
   | some (.mit _ ks vs)=>(ks=[]→cX P G none os K (gN env d (.tup [.b false])) h)∧∀ (j:Nat) (k v:AV),ks[j]? = some k→vs[j]? = some v→cX P G none os K (gN env d (.tup [.b true,k,v])) (h.set id (.mit (some (k,v)) (ks.eraseIdx j) (vs.eraseIdx j)))
   | _=>False
 | _=>False
theorem aLw {l:List UInt8} {h1:List AObj}:aLz P G (some .string) (.s l) h1 d os K env=cX P G none os K (gN env d (.ptr h1.length 0)) (h1++[.sit l 0]):=rfl
def aEw (P:Program) (G:Md) (x:AV) (d:Option Nat) (os:List fE) (K:List AV→List AObj→Prop) (env:List AV) (h:List AObj):Prop:=
 match x with
 | .ptr id 0=>match h[id]? with
   | some (.sit l pos)=>(l.length≤pos→cX P G none os K (gN env d (.tup [.b false])) h)∧∀ (c:UInt8),l[pos]? = some c→(c.toNat < 128→cX P G none os K (gN env d (.tup [.b true,.i .i64 pos,.i .i32 c.toNat])) (h.set id (.sit l (pos+1)))) ∧
       ∀ (rn k:Nat),128≤c.toNat→128≤rn→rn≤2147483647→1≤k→cX P G none os K (gN env d (.tup [.b true,.i .i64 pos,.i .i32 rn])) (h.set id (.sit l (pos+k)))
   | _=>False
 | _=>False
theorem bBo {x:Operand}:eB P G none (.next x true) d os K env h=aEw P G (aev G env x) d os K env h:=by
 simp only [eB,nM,eS,oX,eZ,yI,aG,if_false,aEw]
 cases aev G env x with
 | ptr id o=>cases o with
   | zero=>simp only; cases h[id]? with
     | none=>rfl
     | some ob=>cases ob <;> rfl
   | succ o=>rfl
 | _=>rfl
theorem aCh {id:Nat} {l:List UInt8} {pos:Nat} (hid:h[id]? = some (.sit l pos)) (h0:l.length≤pos→cX P G none os K (gN env d (.tup [.b false])) h)
   (h1:∀ (c:UInt8),l[pos]? = some c→c.toNat < 128→cX P G none os K (gN env d (.tup [.b true,.i .i64 pos,.i .i32 c.toNat])) (h.set id (.sit l (pos+1))))
   (h2:∀ (c:UInt8) (rn k:Nat),l[pos]? = some c→128≤c.toNat→128≤rn→rn≤2147483647→1≤k→cX P G none os K (gN env d (.tup [.b true,.i .i64 pos,.i .i32 rn])) (h.set id (.sit l (pos+k)))):aEw P G (.ptr id 0) d os K env h:=by
 unfold aEw
 simp only [hid]
 exact ⟨h0,fun c hc=>⟨h1 c hc,fun rn k=>h2 c rn k hc⟩⟩
theorem bWa {f:FuncId} {a b args:List AV}:bEw P G dr (.fn f a b) args d os K env h=xV P G dr f (a++args++b) d os K env h:=rfl
theorem aQd {f:FuncId} {A:List AV} {r:AV} (s:Ctr P G f (A.map (gG dep h)) r) (k:cX P G dr os K (gN env d (mat r (fP r h A)).1) (mat r (fP r h A)).2):xV P G dr f A d os K env h:=by
 cases dr
 · exact .inl (ACalls.sem s k)
 · exact ⟨r,s,k⟩

def bAx (h:List AObj):AV→AV
 | .e0=>.e0
 | a=>gG dep h a
theorem aZw {f:FuncId} {A A':List AV} {r:AV} (s:Ctr P G f A' r) (hA:A.map (bAx h)=A') (k:cX P G none os K (gN env d (mat r (fP r h A)).1) (mat r (fP r h A)).2):xV P G none f A d os K env h:=by
 subst hA
 refine .inl (ACalls.sem0 s (by simp) (fun j a a' h1 h2=>?_) k)
 rw [dX,h1] at h2
 simp only [dA,aA] at h2
 subst h2
 cases a <;> first | exact .inr ⟨rfl,rfl⟩ | exact .inl rfl
def bOn (G:Md) (x:AV) (env:List AV) (h:List AObj):Prop:=match x with
 | .p (.iface T v)=>G.pan (.iface T v) env h
 | _=>False
theorem bOm {T:TypeId} {v:Value}:bOn G (.p (.iface T v)) env h=G.pan (.iface T v) env h:=rfl
theorem bBn {x:Operand}:eB P G none (.panic x) d os K env h=bOn G (aev G env x) env h:=by
 simp only [eB,nM,eS,oX,eZ,bOn]
 cases aev G.g env x <;> first | rfl | (rename_i v; cases v <;> rfl)
def aRp (P:Program) (T:TypeId) (x:AV):Option AV:=match P.underlying T with
 | Option.none | some (.interface _)=>Option.none
 | some _=>(toV x).map fun v=>.p (.iface T v)
theorem bBq {T:TypeId} {x:Operand}:eB P G dr (.makeInterface T x) d os K env h=nH P G dr (aRp P T (aev G env x)) d os K env h:=by
 simp only [eB,nM,eS,oX,eZ,aop,aRp]
 cases P.underlying T with
 | none=>rfl
 | some t=>cases t <;> cases toV (aev G env x) <;> rfl

theorem bGk {v:AV}:nH P G dr (some v) d os K env h=cX P G dr os K (gN env d v) h:=rfl
theorem bNv {c:Prop} [Decidable c] {v:AV}:nH P G dr (if c then some v else Option.none) d os K env h=(c∧cX P G dr os K (gN env d v) h):=by
 by_cases hc:c <;> simp [hc,nH]
theorem bIm {h':List AObj}:aPs P G dr (some h') d os K env=cX P G dr os K (gN env d .u) h':=rfl
theorem bPb {c:Prop} [Decidable c] {h':List AObj}:aPs P G dr (if c then some h' else Option.none) d os K env=(c∧cX P G dr os K (gN env d .u) h'):=by
 by_cases hc:c <;> simp [hc,aPs]
theorem bAl {v:AV} {h':List AObj}:mL P G dr (some (v,h')) d os K env=cX P G dr os K (gN env d v) h':=rfl
theorem bGi {c:Prop} [Decidable c] {v:AV} {h':List AObj}:mL P G dr (if c then some (v,h') else Option.none) d os K env=(c∧cX P G dr os K (gN env d v) h'):=by
 by_cases hc:c <;> simp [hc,mL]
theorem aTg {n:Nat} {x:AV}:gN env (some n) x=env.set n x:=rfl
theorem aTh {x:AV}:gN env Option.none x=env:=rfl
theorem bIu {G:Glob} {t:Nat}:aev G env (.tmp t)=env.getD t .u:=rfl
theorem aVk {G:Glob} {v:Value}:aev G env (.const v)=aQr v:=rfl
theorem bEb {G:Glob} {f:FuncId}:aev G env (.func f)=.fn f [] []:=rfl
end

attribute [go_sem] aVi bIr bIs bDx bDy
attribute [go_sem ↓] bFz aSc bGb bAe bAf bNo bGd bAg bNq aCd aTq aMw bHv bHi aTd bHh bBu bOi bBr L9 bHj bBk aHz bOj bBt bBs bOf bUn bHl aIa aMa aBt bBl aBv aBu bBp aTc aBs aMb bOg aTe zG bOh bHm bBm bBo bBn bBq bHk
attribute [go_sem] Int.toNat_one aKd bGa bNp aBk aKo aSe aAp aQk aJf bLs bLt aUv aUz aUw aUy aUx bWa bMf bGk bNv bIm bPb bAl bGi aTg aTh bIu aVk bEb
attribute [go_sem ↓] bDk aNz
attribute [go_sem ↓] bOb
attribute [go_sem] bEn bMs aWu aRm aWy bOm toV bFp aXo aRp dA
attribute [go_sem] bVx bVy bVw bQo aQr aJh aRo iY D9 vK aGs apart rJ jG jU AV.one aXh aJr bNk aXf aEq kI aUn aDm qE D0 qP nK oU bEz fM aXa aWz qD gA lP aLw bMm wQ bQv bRa aRr mB iM mH
attribute [go_sem] lS pW dZ fS aN aW dA Int.ofNat_eq_natCast Int.toNat_natCast aRt sK dL Nat.add_zero bS bT bH cL aK aI List.append_nil aL bK aU bC
attribute [go_sem] dW pers persL flat flatL mat matL fP D4 xX aAr

inductive aXi where
 | k
 | j
 | v (x:AV)

def uK (F:Nat→AV):Nat→List aXi→List AV→List AV
 | i,.k::ps,v::vs=>v::uK F (i+1) ps vs
 | i,.j::ps,_::vs=>F i::uK F (i+1) ps vs
 | i,.v x::ps,_::vs=>x::uK F (i+1) ps vs
 | _,_,_=>[]
def gX:List aXi→List AV→List AV→Prop
 | .k::ps,v::vs,w::ws=>w=v∧gX ps vs ws
 | .j::ps,_::vs,_::ws=>gX ps vs ws
 | .v x::ps,_::vs,w::ws=>w=x∧gX ps vs ws
 | [],[],[]=>True
 | _,_,_=>False

theorem aNh:∀ (ps:List aXi) (E e:List AV) (i:Nat) (F:Nat→AV),(∀ m v,e[m]? = some v→F (i+m)=v)→gX ps E e→uK F i ps E=e:=by
 intro ps
 induction ps with
 | nil=>intro E e i F _ h; cases E <;> cases e <;> simp [gX] at h; simp [uK]
 | cons p ps ih=>
   intro E e i F hF h
   cases E with
   | nil=>cases e <;> cases p <;> simp [gX] at h
   | cons v vs=>
     cases e with
     | nil=>cases p <;> simp [gX] at h
     | cons w ws=>
       have hF':∀ m v,ws[m]? = some v→F (i+1+m)=v:=fun m u hm=>by have:=hF (m+1) u (by simpa using hm); rw [← this]; congr 1; omega
       cases p with
       | k=>obtain ⟨h1,h2⟩:=h; simp only [uK]; rw [ih vs ws _ F hF' h2,h1]
       | j=>simp only [uK]; rw [ih vs ws _ F hF' h]; have:=hF 0 w rfl; simpa using this
       | v x=>obtain ⟨h1,h2⟩:=h; simp only [uK]; rw [ih vs ws _ F hF' h2,h1]

section
variable {P:Program} {G:Md} {env:List AV} {h:List AObj} {Q:Exit→List AV→List AObj→Prop}

theorem dB {c:jX} {S:Type} (ps:S→List aXi) (hp:S→List AObj) (I:S→Prop) (μ:S→Nat) (s0:S) (h0:I s0) (hh:h=hp s0) (k0:gX (ps s0) env env)
   (round:∀ (s:S) (j:Nat→AV),I s→awx P G c (vP (fun e' h'=>∃ s',I s'∧μ s' < μ s∧h'=hp s'∧gX (ps s') env e') Q) (uK j 0 (ps s) env) (hp s)):awx P G (.loop c) Q env h:=by
 refine bAd (fun s e h'=>I s∧h'=hp s∧gX (ps s) env e) μ s0 ⟨h0,hh,k0⟩ ?_
 rintro s e h' ⟨hI,rfl,hf⟩
 have he:uK (fun n=>e.getD n .u) 0 (ps s) env=e:=aNh _ env e 0 _ (fun m v hv=>by simp [List.getD,hv]) hf
 have r:=round s (fun n=>e.getD n .u) hI
 rw [he] at r
 have mono:(fun e2 h2=>∃ s',I s'∧μ s' < μ s∧h2=hp s'∧gX (ps s') env e2)=fun e2 h2=>∃ s',(I s'∧h2=hp s'∧gX (ps s') env e2)∧μ s' < μ s:=by
   funext e2 h2
   exact propext ⟨fun ⟨s',a,b,c,d⟩=>⟨s',⟨a,c,d⟩,b⟩,fun ⟨s',⟨a,c,d⟩,b⟩=>⟨s',a,b,c,d⟩⟩
 rw [mono] at r
 exact r

end

section
variable {P:Program} {G:Md} {env:List AV} {h:List AObj} {Q:Exit→List AV→List AObj→Prop}
theorem lI {c:jX} {S:Type} (ps:S→List aXi) (hp:S→List AObj) (I:S→Prop) (μ:S→Nat) (s0:S) (g0:List AObj) (h0:I s0) (hh:h=hp s0++g0) (k0:gX (ps s0) env env)
   (round:∀ (s:S) (g:List AObj) (j:Nat→AV),I s→awx P G c (vP (fun e' h'=>∃ s' g',I s'∧μ s' < μ s∧h'=hp s'++g'∧gX (ps s') env e') Q) (uK j 0 (ps s) env) (hp s++g)):awx P G (.loop c) Q env h:=by
 refine dB (S:=S × List AObj) (fun s=>ps s.1) (fun s=>hp s.1++s.2) (fun s=>I s.1) (fun s=>μ s.1) (s0,g0) h0 hh k0 ?_
 rintro ⟨s,g⟩ j hI
 have r:=round s g j hI
 have mono:(fun (e2:List AV) (h2:List AObj)=>∃ s' g',I s'∧μ s' < μ s∧h2=hp s'++g'∧gX (ps s') env e2)=fun e2 h2=>∃ s':S × List AObj,I s'.1∧μ s'.1 < μ s∧h2=hp s'.1++s'.2∧gX (ps s'.1) env e2:=by
   funext e2 h2
   exact propext ⟨fun ⟨s',g',a,b,c,d⟩=>⟨(s',g'),a,b,c,d⟩,fun ⟨s',a,b,c,d⟩=>⟨s'.1,s'.2,a,b,c,d⟩⟩
 rw [mono] at r
 exact r
end

section
variable {α:Type} {f:α→List AV} {m:Nat}
theorem pP (hf:∀ x,(f x).length=m):∀ (l:List α),(l.flatMap f).length=l.length * m
 | []=>by simp
 | x::l=>by rw [List.flatMap_cons,List.length_append,hf,pP hf l,bH,aDo,oC]
theorem uV (hf:∀ x,(f x).length=m):∀ (l:List α) (k:Nat),(l.flatMap f).drop (k * m)=(l.drop k).flatMap f
 | l,0=>by simp
 | [],k+1=>by simp
 | x::l,k+1=>by
   rw [List.flatMap_cons,aDo,oC,← nP,List.drop_left' (hf x),uV hf l k,aU]
theorem B4 (hf:∀ x,(f x).length=m):∀ (l:List α) (k:Nat),(l.flatMap f).take (k * m)=(l.take k).flatMap f
 | l,0=>by simp
 | [],k+1=>by simp
 | x::l,k+1=>by
   rw [List.flatMap_cons,aDo,oC,List.take_append,hf,Nat.add_sub_cancel_left,B4 hf l k,aL,List.flatMap_cons,bD (by rw [hf]; omega)]
theorem rY (hf:∀ x,(f x).length=m) (l:List α) (k:Nat):((l.flatMap f).drop (k * m)).take m=((l[k]?).map f).getD []:=by
 rw [uV hf]
 have:(l.drop k).flatMap f=((l[k]?).map f).getD []++(l.drop (k+1)).flatMap f:=by
   cases hk:l[k]? with
   | none=>
     have hle:=E3.1 hk
     rw [dI hle,dI (by omega)]; simp
   | some x=>
     obtain ⟨hlt,hx⟩:=fK.1 hk
     rw [eX hlt,List.flatMap_cons,hx]; simp
 rw [this]
 cases hk:l[k]? with
 | none=>
   have hle:=E3.1 hk
   rw [dI (by omega)]; simp
 | some x=>simp [List.take_left' (hf x)]
theorem aFi (hf:∀ x,(f x).length=m) (l:List α) (k:Nat) {j:Nat} (hj:j < m):(l.flatMap f)[k * m+j]? = (l[k]?).bind fun x=>(f x)[j]? := by
 have h1:(l.flatMap f)[k * m+j]? = ((((l.flatMap f).drop (k * m)).take m))[j]? := by
   rw [List.getElem?_take_of_lt hj,dS]
 rw [h1,rY hf]
 cases hk:l[k]? with
 | none=>simp
 | some x=>simp
end
end Go.Vo

namespace Go.Vo
section
variable {P:Program} {G:Md} {dr:Option DR} {d:Option Nat} {os:List fE} {K:List AV→List AObj→Prop} {env:List AV} {h:List AObj} {Q:Exit→List AV→List AObj→Prop}
theorem aYt {op:Op} {x:Bool} (h1:x=true→eB P G dr op d os K env h) (h2:x=false→cX P G dr os K (gN env d (.tup [])) h):lY P G dr (.b x) true op d os K env h:=A8 h1 h2
theorem aOb {op:Op} {x:Bool} (h1:x=false→eB P G dr op d os K env h) (h2:x=true→cX P G dr os K (gN env d (.tup [])) h):lY P G dr (.b x) false op d os K env h:=A8 h1 h2
end
theorem bR {h:List AObj} {x r:AV} (hr:r=x) (hp:pers x=true):Fin h x r:=.inl ⟨hr,hp⟩
attribute [go_sem] true_and and_true if_true if_false aG aA exists_eq_left' reduceCtorEq or_true false_or true_or or_false
attribute [go_sem] uK gX
theorem wrap64 {x:Int} (h1 : -9223372036854775808≤x) (h2:x≤9223372036854775807):IntKind.i64.wrap x=x:=IntWalk.i64_in _ (by omega)
theorem bAv {s:List UInt8}:decide (s=[])=decide (s.length=0):=by cases s <;> simp
attribute [go_sem] wrap64 bAv Int.toNat_zero aB aD
theorem aRk {d:Nat}:vJ Option.none d=some d:=rfl
theorem aWx {k:IntKind} {n:Int} {d:Nat} (h:0≤n):vJ (some (.i k n)) d=some n.toNat:=if_pos h
theorem aHf {m:Nat}:((m:Int) - 2).toNat=m - 2:=by omega
theorem aHg {m:Nat}:((m:Int)+1).toNat=m+1:=by omega
theorem aBj {m:Nat} (h:2≤m):((m:Int) - 2+1).toNat=m - 1:=by omega
attribute [go_sem] aRk aWx aHf aHg aBj Option.map_none yI Option.isSome_some aT aQ aM aP aO aX
theorem aNi {l:List (List UInt8)} {k:Nat} (h:k < l.length):(l.map AV.s)[k]? = some (.s (l.getD k [])):=by simp [h]
theorem X6 {q:IntKind} {l:List Int} {k:Nat} (h:k < l.length):(l.map (AV.i q))[k]? = some (.i q (l.getD k 0)):=by simp [h]
attribute [go_sem] aNi X6
theorem aOp {h:List AObj} {id sz n m:Nat} {cells cs:List AV} (hid:h[id]? = some (.arr false sz cs)) (hm:m=n) (hc:cells=cs) (hl:cs.length=n * sz) (hp:persL cs=true):Fin h (.hs id 0 n false) (.own sz cells m):=by
 subst hm hc
 refine .inr ⟨⟨rfl,rfl,cells,hid,by omega,?_,hp⟩,by simp [cV],by simp [cV,jJ]⟩
 rw [bC,bD (by omega)]
theorem aSi {α:Type} {l:List α} {n:Nat} (h:l.length≤n):l.take n=l:=bD h
attribute [go_sem] dC
def qH (h:List AObj) (a:AV):AV:=
 let L:=fun l=>if persL l then l else l.map (gG 8 h)
 match a with
 | .e0=>.sl [] 0
 | .hs id off n _=>match h[id]? with
   | some (.arr _ sz cells)=>if off+n * sz≤cells.length then .sl (L ((cells.drop off).take (n * sz))) n else .u
   | _=>.u
 | .ptr id off=>match h[id]? with
   | some (.box _ cells)=>.box (L cells) off
   | some (.arr _ _ cells)=>.box (L cells) off
   | _=>.u
 | .mp id=>match h[id]? with
   | some (.map _ ks vs)=>.mapv (L ks) (L vs)
   | _=>.u
 | .fn f a b=>.fn f (L a) (L b)
 | .agg cs=>.agg (L cs)
 | .tup vs=>.tup (L vs)
 | _=>.u
theorem fQ {h:List AObj} {a:AV}:gG dep h a=if pers a then a else qH h a:=rfl
theorem kX {l:List (List UInt8)}:persL (l.map AV.s)=true:=by
 induction l with
 | nil=>rfl
 | cons x l ih=>simp [persL,pers,ih]
theorem qZ {k:IntKind} {l:List Int}:persL (l.map (AV.i k))=true:=by
 induction l with
 | nil=>rfl
 | cons x l ih=>simp [persL,pers,ih]
theorem bU {P:Program} {G:Md} {dr:Option DR} {d:Option Nat} {os:List fE} {K:List AV→List AObj→Prop} {env:List AV} {h:List AObj} {f:FuncId} {A A':List AV} {r:AV} (s:Ctr P G f A' r) (hA:A.map (gG dep h)=A')
   (k:cX P G dr os K (gN env d (mat r (fP r h A)).1) (mat r (fP r h A)).2):xV P G dr f A d os K env h:=aQd (hA ▸ s) k
theorem aSh {α β:Type} {f:α→β} {l:List α} {k:Nat}:(l.map f).take k=(l.take k).map f:=List.map_take.symm
theorem aVp {α β:Type} {f:α→β} {l:List α} {k:Nat}:(l.map f).drop k=(l.drop k).map f:=List.map_drop.symm
attribute [go_sem] fQ qH kX qZ aSh aVp fW Nat.sub_zero
attribute [go_sem] aSi
theorem bDr {l:List (List UInt8)}:flatL (l.map AV.s)=true:=by
 induction l with
 | nil=>rfl
 | cons x l ih=>simp [flatL,flat,ih]
attribute [go_sem] bQ bDr gY List.flatMap_nil List.flatMap_cons freeze AObj.fz
section
variable {P:Program} {G:Glob} {N:DR} {env:List AV}
theorem aQa {T:TypeId} {x:Operand}:aAl G N (.load T x) env=lH N (aev G env x):=by simp [aAl,Op.operands,sO]
theorem xK {T:TypeId} {x:Operand} {f:Nat}:aAl G N (.fieldAddr T x f) env=lH N (aev G env x):=by simp [aAl,Op.operands,sO]
theorem aAj {T:TypeId} {x i:Operand}:aAl G N (.indexAddr T x i) env=(lH N (aev G env x)∧lH N (aev G env i)):=by simp [aAl,Op.operands,sO]
theorem bLw {T:TypeId} {x:Operand}:aAl G N (.call ⟨.builtin .len,#[x],#[T]⟩) env=lH N (aev G env x):=by simp [aAl,Op.operands,Call.operands,sO]
theorem aAk {T:TypeId} {s x:Operand}:aAl G N (.call ⟨.builtin .append,#[s,x],#[T,T]⟩) env=sP N (aev G env s):=by simp [aAl]
variable {P:Program} {d:Option Nat} {os:List fE} {K:List AV→List AObj→Prop} {h:List AObj}
theorem bIh {T:TypeId} {x:Operand}:ckV P G N (.load T x) d os K env h=(lH N (aev G env x)∧eB P G (some N) (.load T x) d os K env h):=by rw [← aQa (T:=T)]; rfl
theorem bDj {T:TypeId} {a x:Operand}:ckV P G N (.store T a x) d os K env h=(sP N (aev G env a)∧eB P G (some N) (.store T a x) d os K env h):=rfl
theorem aCp {T:TypeId} {x:Operand} {f:Nat}:ckV P G N (.fieldAddr T x f) d os K env h=(lH N (aev G env x)∧eB P G (some N) (.fieldAddr T x f) d os K env h):=by rw [← xK (T:=T) (f:=f)]; rfl
theorem aUp {T:TypeId} {s x:Operand}:ckV P G N (.call ⟨.builtin .append,#[s,x],#[T,T]⟩) d os K env h=(sP N (aev G env s)∧eB P G (some N) (.call ⟨.builtin .append,#[s,x],#[T,T]⟩) d os K env h):=by rw [← aAk (T:=T) (x:=x)]; rfl
theorem bCi {n id:Nat}:DR.old ⟨n,[]⟩ id=(id < n):=rfl
theorem bCh {n x id:Nat}:DR.old ⟨n,[x]⟩ id=(id < n∧¬ id=x):=by simp [DR.old]
theorem bCx {n id:Nat}:DR.mut ⟨n,[]⟩ id=(n≤id):=rfl
theorem bCw {n x id:Nat}:DR.mut ⟨n,[x]⟩ id=(n≤id∨id=x):=by simp [DR.mut]
end
theorem bDo {α:Type} {l m:List α} {n:Nat}:(l++m)[l.length+n]? = m[n]? := by rw [aR (by omega)]; congr 1; omega
theorem aVd {α:Type} {l m:List α}:(l++m)[l.length]? = m[0]? := by rw [aR (by omega)]; congr 1; omega
theorem bBa {α:Type} {l m:List α} {n:Nat} {a:α}:(l++m).set (l.length+n) a=l++m.set n a:=by rw [sL _ _ (by omega)]; congr 2; omega
theorem aSs {α:Type} {l m:List α} {a:α}:(l++m).set l.length a=l++m.set 0 a:=by rw [sL _ _ (by omega)]; congr 2; omega
attribute [go_sem] bDo aVd bBa aSs cD List.length_append
attribute [go_sem ↓] bIh bDj aCp aUp
attribute [go_sem] lH sP AV.refs bCi bCh bCx bCw
def gW (sz N:Nat) (g:List AObj) (out:AV) (cells:List AV) (n:Nat):Prop:=
 (out=.e0∧cells=[]∧n=0)∨∃ i,out=.hs (i+N) 0 n false∧g[i]? = some (.arr false sz cells)∧cells.length=n * sz
theorem iI {sz N:Nat} {g:List AObj}:gW sz N g .e0 [] 0:=.inl ⟨rfl,rfl,rfl⟩
theorem gW.more {sz N:Nat} {g:List AObj} {out:AV} {cells:List AV} {n:Nat} (h:gW sz N g out cells n) (g':List AObj):gW sz N (g++g') out cells n:=by
 rcases h with h | ⟨i,h1,h2,h3⟩
 · exact .inl h
 · exact .inr ⟨i,h1,by rw [aJ (bO h2)]; exact h2,h3⟩
section
variable {P:Program} {G:Md} {dr:Option DR} {d:Option Nat} {os:List fE} {K:List AV→List AObj→Prop} {env:List AV}
theorem aRc {pre g:List AObj} {T e by_:Nat} {z:List AV} {out x:AV} {cells news:List AV} {n m:Nat} (ho:gW z.length pre.length g out cells n) (hT:eU P T=some e) (hz:zeroOf P e=some z) (hs:kJ P e=some z.length) (hb:R6 P e=some by_)
   (hpos:0 < z.length) (hp:qP (pre++g) x=true) (hx:D0 (pre++g) z.length x=some (news,m)) (hbd:(n+m) * by_≤140737488355328∧n+m≤140737488355328)
   (k:∀ out' g',gW z.length pre.length g' out' (cells++news) (n+m)→(∀ (i:Nat) (o:AObj),g[i]? = some o→(∀ c:List AV,o ≠ .arr false z.length c)→g'[i]? = some o)→cX P G dr os K (gN env d out') (pre++g')):mL P G dr (aAz P (pre++g) T out x) d os K env:=by
 have hm : news.length=m * z.length:=by
   cases x with
   | e0=>simp only [D0,aA,bE] at hx; obtain ⟨rfl,rfl⟩:=hx; simp
   | sl c q=>
     simp only [D0] at hx
     split at hx
     · simp only [aA,bE] at hx; obtain ⟨rfl,rfl⟩:=hx; assumption
     · cases hx
   | hs id off q t=>
     simp only [D0] at hx
     split at hx
     · split at hx
       · rename_i hc
         simp only [aA,bE] at hx; obtain ⟨rfl,rfl⟩:=hx
         rw [cH,fW]; omega
       · cases hx
     · cases hx
   | _=>simp [D0] at hx
 have e1:aAz P (pre++g) T out x=gA P (pre++g) T out x:=by simp [aAz,hp]
 rw [e1]
 rcases ho with ⟨rfl,rfl,rfl⟩ | ⟨i,rfl,hi,hl⟩
 · have e2:gA P (pre++g) T .e0 x=some (.hs (pre++g).length 0 m false,(pre++g)++[.arr false z.length news]):=by
     simp only [gA,hT,hz,hb,hpos,hs,hx,and_self,if_true,true_and]
     rw [if_pos (by simpa using hbd)]
   rw [e2]
   show cX P G dr os K _ _
   rw [cD]
   refine k _ _ (.inr ⟨g.length,?_,by simp,by simpa using hm⟩) (fun i o ho _=>by rw [aJ (bO ho)]; exact ho)
   simp [oC]
 · have hlt:=bO hi
   have hg:(pre++g)[i+pre.length]? = some (.arr false z.length cells):=by
     rw [aR (by omega)]; simpa using hi
   have e2:gA P (pre++g) T (.hs (i+pre.length) 0 n false) x=some (.hs (pre++g).length 0 (n+m) false,(pre++g).set (i+pre.length) .dead++[.arr false z.length (cells++news)]):=by
     simp only [gA,hT,hz,hb,hpos,hs,hx,hg,and_self,if_true,true_and,hl,dL,bQ,hbd,aG,if_false,bC]
   rw [e2]
   show cX P G dr os K _ _
   rw [sL _ _ (by omega),cD,Nat.add_sub_cancel]
   refine k _ _ (.inr ⟨g.length,?_,by simp,?_⟩) (fun j o hj hn=>?_)
   · simp [oC]
   · rw [List.length_append,hl,hm,Nat.add_mul]
   · have hne:i ≠ j:=by
       rintro rfl
       rw [hi] at hj; cases hj
       exact hn _ rfl
     rw [aJ (by simpa using bO hj),dJ hne]
     exact hj
theorem eK {h pre g more:List AObj} {T e by_ sz N:Nat} {z:List AV} {out x:AV} {cells news:List AV} {n m:Nat} (ho:gW sz N g out cells n) (hN:pre.length=N) (hh:h=pre++(g++more)) (hT:eU P T=some e) (hz:zeroOf P e=some z) (hs:kJ P e=some sz) (hb:R6 P e=some by_)
   (hzl:z.length=sz) (hpos:0 < sz) (hp:qP h x=true) (hx:D0 h sz x=some (news,m)) (hbd:(n+m) * by_≤140737488355328∧n+m≤140737488355328)
   (k:∀ out' g',gW sz N g' out' (cells++news) (n+m)→(∀ (i:Nat) (o:AObj),g[i]? = some o→(∀ c:List AV,o ≠ .arr false sz c)→g'[i]? = some o)→cX P G dr os K (gN env d out') (pre++g')):mL P G dr (aAz P h T out x) d os K env:=by
 subst hh hzl hN
 exact aRc (ho.more more) hT hz hs hb hpos hp hx hbd (fun out' g' h1 h2=>k out' g' h1 (fun i o hi hn=>h2 i o (by rw [aJ (bO hi)]; exact hi) hn))
end
theorem O4 {pre g:List AObj} {sz n:Nat} {out:AV} {cells:List AV} (ho:gW sz pre.length g out cells n) (hp:persL cells=true):Fin (pre++g) out (.own sz cells n):=by
 rcases ho with ⟨rfl,rfl,rfl⟩ | ⟨i,rfl,hi,hl⟩
 · exact .inr ⟨⟨rfl,rfl⟩,by simp [cV],by simp [cV]⟩
 · exact aOp (by rw [aR (by omega)]; simpa using hi) rfl rfl hl hp
end Go.Vo

/-
  The abstract layer, part Pc: a statement whose order Go leaves open: run in the order of its text it stands for every order. It speaks of any program that mixes its orders; no condition.
-/
import Derived.Test.YtdjcggcjlphdoaaGreatDoorVoP13
set_option linter.unusedVariables false
set_option linter.unusedSimpArgs false
set_option linter.constructorNameAsVariable false
namespace Go.Vo
def oD(ops:Array Oper)(i:Nat):Bool:=match ops[i]? with|some o=>dZ o|Option.none=>false
def Fs(ops:Array Oper):List Nat:=(List.range ops.size).filter (oD ops)
def Rs(ops:Array Oper):List Nat:=(List.range ops.size).filter fun i => !oD ops i
def InR(ops:Array Oper)(p i:Nat):Prop:=∃m,m<p∧(Rs ops)[m]? = some i
def Chg(rx:RX)(ops:Array Oper)(o:Oper):Prop:=dk rx ops o=some .w∨dk rx ops o=some .l
section
variable {P:Program} {G:Md} {rx:RX} {ops:Array Oper}
theorem cHy{o:Oper}:dk rx ops o=some .a↔dZ o=true:=by
 constructor
 ·intro h;exact bJq.1 (aBi h (by decide) (by decide)).2.2
 ·intro h;have hv:vOf rx ops o=false:=by
   cases hq:vOf rx ops o with
   |false=>rfl
   |true=>
    obtain⟨T,len,ps,ho,_⟩:=aKx hq;unfold dZ at h;rw[ho]at h;cases h
  have hz:zOf rx o=false:=by
   cases hq:zOf rx o with
   |false=>rfl
   |true=>
    obtain⟨f,as,ts,ho⟩:=aCs hq;unfold dZ at h;rw[ho]at h;cases h
  unfold dk;rw[hv,hz];simpa using bJq.2 h
theorem bWq{o:Oper}{k:DK}(h:dk rx ops o=some k)(hk:k ≠ .c)(hl:k ≠ .l):omOf rx ops o=.n:=bVb (aBi h hk hl).1 (aBi h hk hl).2.1
theorem aYg{N:DR}{o:Oper}{k:DK}(h:dk rx ops o=some k)(hk:k ≠ .c)(hl:k ≠ .l){env:List AV}{hh h':List AObj}{x:AV}(e:DOc P G N (omOf rx ops o) o.op env hh x h'):DOp P G o.op env hh x h':=by
 rw[bWq h hk hl]at e;exact e
theorem bWo{N:DR}{o:Oper}{k:DK}(h:dk rx ops o=some k)(hk:k ≠ .c)(hl:k ≠ .l){env:List AV}{hh h':List AObj}{x:AV}(e:DOp P G o.op env hh x h'):DOc P G N (omOf rx ops o) o.op env hh x h':=by
 rw[bWq h hk hl];exact e
theorem aNm{N:DR}{o:Oper}(h:dk rx ops o=some .w){env:List AV}{hh h':List AObj}{x:AV}(e:DOc P G N (omOf rx ops o) o.op env hh x h'):J1 hh h':=bTe (aBi h (by decide) (by decide)).2.2 (aYg h (by decide) (by decide) e)
theorem aNl{N:DR}{o:Oper}(h:dk rx ops o=some .c){env:List AV}{h0 hh:List AObj}{x:AV}(e:DOc P G N (omOf rx ops o) o.op env h0 x hh):hh=h0∧∀h',DOc P G N (omOf rx ops o) o.op env h' x h':=by
 cases hv:vOf rx ops o with
 |true=>
  have hm:omOf rx ops o=.v:=by simp[omOf,hv]
  rw[hm]at e ⊢;exact⟨e.2,fun h'=>⟨e.1,rfl⟩⟩
 |false=>
  have hz:zOf rx o=false:=by
   cases hq:zOf rx o with
   |false=>rfl
   |true=>unfold dk at h;rw[hv,hq]at h;simp at h
  rw[bVb hv hz]at e ⊢;have hd:wM o=some .c:=by unfold dk at h;rw[hv,hz]at h;simpa using h
  exact bNq hd e
theorem aNk{N:DR}{o:Oper}(hk:dk rx ops o=some .r∨dk rx ops o=some .c){env:List AV}{h hh:List AObj}{x:AV}(e:DOc P G N (omOf rx ops o) o.op env h x hh):hh=h:=by
 rcases hk with hk|hk
 ·exact(aDq (aMq (aBi hk (by decide) (by decide)).2.2) (aYg hk (by decide) (by decide) e)).1
 ·exact(aNl hk e).1
theorem aHk{f:Operand}{as:Array Operand}{ts:Array TypeId}{K:AV→List AObj→Prop}{env env':List AV}{h:List AObj}(he:∀o∈(Op.call ⟨.value f,as,ts⟩).operands.toList,aev G env o=aev G env' o)(e:fY P G.np false (.call ⟨.value f,as,ts⟩) K env h):fY P G.np false (.call ⟨.value f,as,ts⟩) K env' h:=by
 simp only[fY,nR]at e ⊢;have hargs:as.toList.map (aev G env')=as.toList.map (aev G env):=(oJ (fun o ho=>he o (by simp only[Op.operands,Call.operands];simp;simp at ho;exact .inr ho))).symm;rw[hargs,(he f (by simp[Op.operands,Call.operands])).symm];exact e
theorem aFv{N:DR}{m:OM}{op:Op}{env env':List AV}{h h':List AObj}{x:AV}(he:∀o∈op.operands.toList,aev G env o=aev G env' o)(e:DOc P G N m op env h x h'):DOc P G N m op env' h x h':=by
 cases m with
 |n=>exact Z5 he e
 |z=>
  obtain⟨⟨f,as,ts,rfl⟩,h1,h2⟩:=e;exact⟨⟨f,as,ts,rfl⟩,aHk he h1,h2⟩
 |v =>
  obtain⟨⟨T,len,ps,rfl,ha⟩,rfl⟩:=e;refine⟨⟨T,len,ps,rfl,?_⟩,rfl⟩;have hm:(ps.toList.map fun(i,x)=>(i,aev G env' x))=ps.toList.map fun(i,x)=>(i,aev G env x):=by
   apply iP;rintro⟨i,y⟩ hp;simp only[bH,true_and];exact(he y (by simp only[Op.operands];simp;exact⟨i,by simpa using hp⟩)).symm
  unfold aRl at ha ⊢;rw[hm];exact ha
theorem bWp{N:DR}{o:Oper}{X:Ctx}{w:World}{h h1:List AObj}{env:List AV}{a:Act}{x:AV}{next:Act→World→Prop}{Q:Exit→Act→World→Prop}(g:GH G X w h)(r:EnvOK G.ds X w h env a)(e:DOc P G N (omOf rx ops o) o.op env h x h1)
 (hn:∀a' w' X',GH G X' w' h1→EnvOK G.ds X' w' h1 (iV env o.dst x) a'→Tr X w h X' w' h1→next a' w'):o.wp P a w next Q:=by
 cases hm:omOf rx ops o with
 |n=>
  rw[hm]at e;refine Q8 (K:=fun x1 h2=>x1=x∧h2=h1) o g r e ?_ (fun h=>by cases h);rintro x' h' a' w' X' ⟨rfl,rfl⟩ g' r' t;exact hn _ _ _ g' r' t
 |z=>
  rw[hm]at e;refine Q8 (G:=G.np) (K:=fun x1 h2=>x1=x∧h2=h1) o g r e.2.1 ?_ (fun _ _ _ _ _ _ k=>k.elim);rintro x' h' a' w' X' ⟨rfl,rfl⟩ g' r' t;exact hn _ _ _ g' r' t
 |v=>
  rw[hm]at e;obtain⟨⟨T,len,ps,ho,ha⟩,rfl⟩:=e;exact lE r (aTo o ho g r ha) hn
end
theorem aCz{α:Type}(ops:Array α):ops.toList=(List.range ops.size).filterMap (ops[·]?):=by
 apply oP;intro i;have key:∀n,n≤ops.size→(List.range n).filterMap (ops[·]?)=ops.toList.take n:=by
  intro n;induction n with
  |zero=>intro _;simp
  |succ n ih=>
   intro hn;have hlt:n<ops.size:=by omega
   rw[sR,List.filterMap_append,ih (by omega)];simp[hlt,List.take_add_one]
 rw[key ops.size (bK _)];simp[← Array.length_toList]
theorem bFi(ops:Array Oper):fT ops=(Fs ops++Rs ops).filterMap (ops[·]?):=by
 have h1:∀(q:Oper→Bool) (q':Nat→Bool),(∀i o,ops[i]? = some o→q' i=q o)→ops.toList.filter q=((List.range ops.size).filter q').filterMap (ops[·]?):=by
  intro q q' hq;rw[aCz];generalize List.range ops.size=l;induction l with
  |nil=>rfl
  |cons i l ih=>
   cases ho:ops[i]? with
   |none=>
    rw[mU,ho];simp only;rw[ih,bB];split
    ·rw[mU,ho]
    ·rfl
   |some o=>
    rw[mU,ho];simp only;rw[bB,bB,hq i o ho];split
    ·rw[mU,ho,ih]
    ·exact ih
 unfold fT Fs Rs;rw[List.filterMap_append,h1 dZ (oD ops) (fun i o ho=>by simp[oD,ho]),h1 (fun o => !dZ o) (fun i => !oD ops i) (fun i o ho=>by simp[oD,ho])]
section
variable {ops:Array Oper}
theorem E3{i:Nat}:i∈Fs ops↔i<ops.size∧oD ops i=true:=by simp[Fs]
theorem E2{i:Nat}:i∈Rs ops↔i<ops.size∧oD ops i=false:=by simp[Rs]
theorem xB(n:Nat)(q:Nat→Bool){m m' k k':Nat}(h1:((List.range n).filter q)[m]? = some k)(h2:((List.range n).filter q)[m']? = some k')(hl:m<m'):k<k':=by
 have hp:((List.range n).filter q).Pairwise (· < ·):=aRw _ (List.pairwise_lt_range (n:=n));rw[dQ]at hp;obtain⟨a1,b1⟩:=gO.1 h1;obtain⟨a2,b2⟩:=gO.1 h2;have:=hp m m' a1 a2 hl;rw[b1,b2]at this;exact this
theorem pQ{m m' k k':Nat}(h1:(Rs ops)[m]? = some k)(h2:(Rs ops)[m']? = some k')(hl:m<m'):k<k':=xB _ _ h1 h2 hl
theorem bAz{m m' k:Nat}(h1:(Rs ops)[m]? = some k)(h2:(Rs ops)[m']? = some k):m=m':=by
 rcases U5 m m' with h|h|h
 ·have:=pQ h1 h2 h;omega
 ·exact h
 ·have:=pQ h2 h1 h;omega
theorem bEi:(Fs ops++Rs ops).Nodup:=by
 rw[mB];refine⟨aRw _ List.nodup_range,aRw _ List.nodup_range,?_⟩;intro a ha b hb hab;subst hab;have:=(E3.1 ha).2;rw[(E2.1 hb).2]at this;cases this
end
structure Told(P:Program)(G:Md)(N:DR)(rx:RX)(ops:Array Oper)(h0:List AObj)(env0:List AV)(x:Nat→AV)(hr:Nat→List AObj)(zz:Nat→List AV):Prop where
 free:∀(q i:Nat),(Fs ops)[q]? = some i→∃(o:Oper) (T:TypeId),ops[i]? = some o∧o.op=.alloc T∧zeroOf P T=some (zz i)∧x i=.ptr (h0.length+q) 0∧(hr 0)[h0.length+q]? = some (.box false (zz i))
 start:∃obs,hr 0=h0++obs∧∀ob∈obs,AObj.isH ob=false
 rest:∀(q i:Nat) (o:Oper),(Rs ops)[q]? = some i→ops[i]? = some o→∃e,EnvIs ops x env0 (fun k=>k∈Fs ops∨InR ops q k) e∧OpAt P G N rx ops o e (hr q) (x i) (hr (q+1))
section
variable {P:Program} {G:Md} {N:DR} {rx:RX} {ops:Array Oper} {B:Nat→Nat→Prop} {h0:List AObj} {env0:List AV}
theorem bEn{α:Type}(l:List α)(q:Nat)(k:α):k∈l.take q↔∃m,m<q∧l[m]? = some k:=by
 rw[cW];constructor
 ·rintro⟨m,hm⟩;rw[dY]at hm;split at hm
  ·exact⟨m,‹_›,hm⟩
  ·cases hm
 ·rintro⟨m,h1,h2⟩;exact⟨m,by rw[dY,if_pos h1];exact h2⟩
theorem bLy(D:DOK rx ops B){K:List AV→List AObj→Prop}{al:List gA}(hs:bY rx ops (fT ops)=some al)(e:dN P G (some N) al K env0 h0) :
 ∃x hr zz,Told P G N rx ops h0 env0 x hr zz∧∀e,EnvIs ops x env0 (fun i=>i<ops.size) e→K e (hr (Rs ops).length):=by
 rw[bFi]at hs;obtain⟨x,hh,e0,hK,htr⟩:=bTt (Fs ops++Rs ops) al env0 h0 (fun i hi=>by
  rcases bM.1 hi with h|h
  ·exact(E3.1 h).1
  ·exact(E2.1 h).1) bEi hs e
 have hfr:∀q i,(Fs ops)[q]? = some i→∃(o:Oper) (T:TypeId) (z:List AV),ops[i]? = some o∧o.op=.alloc T∧zeroOf P T=some z∧x i=.ptr (hh q).length 0∧hh (q+1)=hh q++[.box false z]:=by
  intro q i hq;have hm:=E3.1 (eD hq);have ho:ops[i]? = some ops[i]:=by simp[hm.1]
  have hf:dZ ops[i]=true:=by have:=hm.2;simp only[oD,ho]at this;exact this
  obtain⟨T,hop,hg,_⟩:=O8 hf;have hat:=htr q i ops[i] (by rw[aG (bP hq)];exact hq) ho;unfold OpAt at hat;rw[hg]at hat;have hvf:vOf rx ops ops[i]=false:=by unfold vOf xI;rw[hop];simp
  have hzf:zOf rx ops[i]=false:=by unfold zOf;rw[hop]
  have hd2:=hat.2;rw[bVb hvf hzf]at hd2;obtain⟨z,hz,hx,hh'⟩:=aFu (hop▸hd2);exact⟨ops[i],T,z,ho,hop,hz,hx,hh'⟩
 have hzz:∃zz:Nat→List AV,∀q i,(Fs ops)[q]? = some i→∃(o:Oper) (T:TypeId),ops[i]? = some o∧o.op=.alloc T∧zeroOf P T=some (zz i)∧x i=.ptr (hh q).length 0∧hh (q+1)=hh q++[.box false (zz i)]:=by
  refine⟨fun i=>match ops[i]? with|some o=>(match o.op with| .alloc T=>(zeroOf P T).getD []|_=>[])|Option.none=>[],?_⟩;intro q i hq;obtain⟨o,T,z,ho,hop,hz,hx,hh'⟩:=hfr q i hq;exact⟨o,T,ho,hop,by simp[ho,hop,hz],hx,by simp[ho,hop,hz,hh']⟩
 obtain⟨zz,hzz⟩:=hzz;have hlen:∀q,q≤(Fs ops).length→(hh q).length=h0.length+q∧(∃obs,hh q=h0++obs∧∀ob∈obs,AObj.isH ob=false)∧∀m i,m<q→(Fs ops)[m]? = some i→(hh q)[h0.length+m]? = some (.box false (zz i)):=by
  intro q;induction q with
  |zero=>intro _;exact⟨by rw[e0];rfl,⟨[],by rw[e0];simp,by simp⟩,fun m i h=>by omega⟩
  |succ q ih=>
   intro hq;obtain⟨i1,⟨obs,i2,i2b⟩,i3⟩:=ih (by omega);have hqi:(Fs ops)[q]? = some (Fs ops)[q]:=by simp[show q<(Fs ops).length by omega]
   obtain⟨o,T,ho,hop,hz,hx,hh'⟩:=hzz q _ hqi;refine⟨by rw[hh'];simp[i1];omega,⟨obs++[.box false (zz (Fs ops)[q])],by rw[hh',i2];simp,fun ob hob=>by exact(bM.1 hob).elim (i2b ob) (fun m=>by rw[aV]at m;subst m;rfl)⟩,?_⟩;intro m i hm hmi;rw[hh'];by_cases hmq:m=q
   ·subst hmq;rw[hqi]at hmi;cases hmi;rw[aR (by omega)];simp[i1]
   ·rw[aG (by omega)];exact i3 m i (by omega) hmi
 obtain⟨l1,l2,l3⟩:=hlen (Fs ops).length (bK _);refine⟨x,fun q=>hh ((Fs ops).length+q),zz,⟨?_,l2,?_⟩,?_⟩
 ·intro q i hq;obtain⟨o,T,ho,hop,hz,hx,hh'⟩:=hzz q i hq;refine⟨o,T,ho,hop,hz,?_,l3 q i (bP hq) hq⟩;rw[hx,(hlen q (Nat.le_of_lt (bP hq))).1]
 ·intro q i o hq ho;refine⟨_,?_,htr ((Fs ops).length+q) i o (by rw[aR (by omega)];simpa using hq) ho⟩;refine(aNi D _).congr (fun k=>?_);rw[List.take_append,bE (by omega),Nat.add_sub_cancel_left,bM,bEn (Rs ops)];rfl
 ·intro e he;have:e=C3 ops x (Fs ops++Rs ops) env0:=he.unique D ((aNi D _).congr (fun k=>by
   rw[bM,E3,E2];cases oD ops k<;>simp))
  rw[this];have:=hK;rw[List.length_append]at this;exact this
structure Inv(P:Program)(G:Md)(rx:RX)(ops:Array Oper)(h0:List AObj)(env0:List AV)(x:Nat→AV)(hr:Nat→List AObj)(zz:Nat→List AV)(X0:Ctx)(w0:World)(S:Nat→Prop)(X:Ctx)(w:World)(a:Act)(p:Nat)(e:List AV):Prop where
 hp:p≤(Rs ops).length
 g:GH G X w (hr p)
 ei:EnvIs ops x env0 S e
 eo:EnvOK G.ds X w (hr p) e a
 tr:Tr X0 w0 h0 X w (hr p)
 ch:∀(i:Nat) (o:Oper),ops[i]? = some o→Chg rx ops o→(S i↔InR ops p i)
 pend:∀(q i:Nat),(Fs ops)[q]? = some i→¬S i→(hr p)[h0.length+q]? = some (.box false (zz i))∧X.ι (h0.length+q)=Option.none
 cl:Closed ops S
 lt:∀i,S i→i<ops.size
variable {x:Nat→AV} {hr:Nat→List AObj} {zz:Nat→List AV} {X0:Ctx} {w0:World} {S:Nat→Prop} {X:Ctx} {w:World} {a:Act} {p:Nat} {e:List AV}
theorem Q1{i:Nat}{o:Oper}(cl:Closed ops S)(hi:ops[i]? = some o)(hpre:∀e,e∈anyPre o→S e):Closed ops (fun k=>S k∨k=i):=by
 rintro k ok (s|rfl) hk e he
 ·exact .inl (cl k ok s hk e he)
 ·rw[hi]at hk;cases hk;exact .inl (hpre e he)
theorem aAt(D:DOK rx ops B)(T:Told P G N rx ops h0 env0 x hr zz){m k:Nat}{ok:Oper}(hm:(Rs ops)[m]? = some k)(hk:ops[k]? = some ok)(hc:¬Chg rx ops ok):(dk rx ops ok=some .r∨dk rx ops ok=some .c)∧hr (m+1)=hr m:=by
 have hnf:dZ ok=false:=by
  have:=(E2.1 (eD hm)).2;simp only[oD,hk]at this;exact this
 have hkind:dk rx ops ok=some .r∨dk rx ops ok=some .c:=by
  have:=D.kind k ok hk;cases hd:dk rx ops ok with
  |none=>rw[hd]at this;cases this
  |some d=>
   cases d with
   |c=>exact .inr rfl
   |a=>rw[cHy.1 hd]at hnf;cases hnf
   |r=>exact .inl rfl
   |w=>exact absurd (.inl hd) hc
   |l=>exact absurd (.inr hd) hc
 refine⟨hkind,?_⟩;obtain⟨eT,_,hat⟩:=T.rest m k ok hm hk;unfold OpAt at hat;cases hg:ok.guard with
 |none=>rw[hg]at hat;exact aNk hkind hat.2
 |some q=>
  obtain⟨j,want⟩:=q;rw[hg]at hat;obtain⟨d,b,_,_,h1,h2⟩:=hat;cases b with
  |true=>exact aNk hkind (h1 rfl).2
  |false=>exact(h2 rfl).2
theorem J4(D:DOK rx ops B)(T:Told P G N rx ops h0 env0 x hr zz){m k:Nat}{ok:Oper}(hm:(Rs ops)[m]? = some k)(hk:ops[k]? = some ok)(hc:dk rx ops ok≠some .l):J1 (hr m) (hr (m+1)):=by
 by_cases hc2:Chg rx ops ok
 ·have hw:dk rx ops ok=some .w:=hc2.resolve_right hc;obtain⟨eT,_,hat⟩:=T.rest m k ok hm hk;unfold OpAt at hat;cases hg:ok.guard with
  |none=>rw[hg]at hat;exact aNm hw hat.2
  |some q=>
   obtain⟨j,want⟩:=q;rw[hg]at hat;obtain⟨d,b,_,_,h1,h2⟩:=hat;cases b with
   |true=>exact aNm hw (h1 rfl).2
   |false=>rw[(h2 rfl).2];exact .refl _
 ·rw[(aAt D T hm hk hc2).2];exact .refl _
theorem aBg{a : Nat}:∀(b:Nat),a≤b→(∀m,a≤m→m<b→hr (m+1)=hr m)→hr b=hr a
 |0,h,_ => by have:a=0:=by omega
              rw[this]
 |b + 1,h,hs=>by
  by_cases hab:a=b+1
  ·rw[hab]
  ·rw[hs b (by omega) (by omega)];exact aBg b (by omega) (fun m h1 h2=>hs m h1 (by omega))
theorem C0{a:Nat}:∀(b:Nat),a≤b→(∀m,a≤m→m<b→J1 (hr m) (hr (m+1)))→J1 (hr a) (hr b)
 |0,h,_ => by have:a=0:=by omega
              rw[this];exact .refl _
 |b+1,h,hs=>by
  by_cases hab:a=b+1
  ·rw[hab];exact .refl _
  ·exact(C0 b (by omega) (fun m h1 h2=>hs m h1 (by omega))).trans (hs b (by omega) (by omega))
theorem nK.refl(N:DR)(h:List AObj):nK N h h:=fun id o _ ho=>⟨o,ho,rfl⟩
theorem nK.trans{N:DR}{a b c:List AObj}(x:nK N a b)(y:nK N b c):nK N a c:=fun id o hn ho=>by
 obtain⟨o1,h1,e1⟩:=x id o hn ho;obtain⟨o2,h2,e2⟩:=y id o1 hn h1;exact⟨o2,h2,e2.trans e1⟩
theorem J1.toN{N:DR}{h h':List AObj}(g:J1 h h'):nK N h h':=fun id o _ ho=>g id o ho
theorem xJ{N:DR}{a:Nat}:∀(b:Nat),a≤b→(∀m,a≤m→m<b→nK N (hr m) (hr (m+1)))→nK N (hr a) (hr b)
 |0,h,_ => by have:a=0:=by omega
              rw[this];exact .refl _ _
 |b+1,h,hs=>by
  by_cases hab:a=b+1
  ·rw[hab];exact .refl _ _
  ·exact(xJ b (by omega) (fun m h1 h2=>hs m h1 (by omega))).trans (hs b (by omega) (by omega))
theorem nK.app{N:DR}(h obs:List AObj):nK N h (h++obs):=(J1.app h obs).toN
theorem nK.set{N:DR}{id:Nat}{h:List AObj}{ob:AObj}(hn:N.mut id):nK N h (h.set id ob):=fun i o hi ho=>⟨o,by rw[dW (D0 (DR.apart hi hn))];exact ho,rfl⟩
theorem F2{N:DR}{h h':List AObj}{T:TypeId}{s x y:AV}(hs:wU N s)(e:iE P h T s x=some (y,h')):nK N h h':=by
 unfold iE at e;split at e;case h_2=>cases e
 split at e;case h_2=>cases e
 split at e;case isFalse=>cases e
 split at e;case h_2=>cases e
 split at e
 ·split at e
  ·cases e;exact .app _ _
  ·cases e
 ·rename_i id off n t;have hn:N.mut id:=hs;split at e;case h_2=>cases e
  split at e;case isFalse=>cases e
  split at e
  ·split at e
   ·cases e;exact .app _ _
   ·cases e
  split at e
  ·cases e
  split at e
  ·cases e;exact(nK.set hn).trans (.app _ _)
  split at e
  ·cases e;exact .set hn
  ·cases e;exact(nK.set hn).trans (.app _ _)
 ·cases e
theorem aMp{p q:Oper}(h:T4 rx ops p q=true):T4 rx ops q p=true:=by
 unfold T4 at h ⊢;simp only[aA,cC]at h ⊢;exact⟨h.1,h.2.symm⟩
theorem W9{N:DR}:∀{l:List AV},uI N l→∀a∈l,lS N a
 | [],_,a,h=>by cases h
 |x::l,h,a,ha=>by
  rcases cH.1 ha with rfl|ha
  ·exact h.1
  ·exact W9 h.2 a ha
theorem bZy{N:DR}{o:Oper}(hk:wM o=some .r){env:List AV}(hck:aRb G (some N) true o.op env):∀y∈o.op.operands.toList,∀{id:Nat},(aev G env y).refs=some id→N.old id:=by
 intro y hy id hid;have hall:uI N (o.op.operands.toList.map (aev G env)):=by
  simp only[aRb]at hck;unfold aBn at hck;unfold wM at hk;cases ho:o.op with
  |call c=>
   rw[ho]at hck hk;simp only at hck hk;cases hc:c.callee with
   |builtin b=>rw[hc]at hck hk;cases b<;>first|exact hck|simp at hk
   |value f=>rw[hc]at hk;simp at hk
   |invoke _ _=>rw[hc]at hk;simp at hk
  |store T a x=>rw[ho]at hk;simp at hk
  |buildSlice T n ps=>rw[ho]at hk;simp only at hk;split at hk<;>simp at hk
  |_=>rw[ho]at hck;exact hck
 have:=W9 hall _ (dS.2 ⟨y,hy,rfl⟩);unfold lS at this;rw[hid]at this;exact this
theorem bPb{ok:Oper}{eT:List AV}{h0 h1:List AObj}{xk:AV}(hmm:aJg ok=true)(hc:aRb G (some N) true ok.op eT)(hd:DOp P G ok.op eT h0 xk h1):nK N h0 h1:=by
 have h2:=hmm;unfold aJg at h2;rcases cC _ _▸h2 with h2|h2;case inr=>
  unfold kK at h2;split at h2;case h_2=>cases h2
  rename_i T y z ho;rw[ho]at hc hd;simp only[aRb,aBn]at hc;unfold DOp at hd;simp only[fY,aop]at hd;cases hst:uV P (h0) T (aev G eT y) (aev G eT z)with
  |none=>rw[hst]at hd;exact hd.elim
  |some h'=>
   rw[hst]at hd;obtain⟨_,rfl⟩:=hd;unfold uV at hst;split at hst;case h_2=>cases hst
   rename_i id off cs n hy _ _;rw[hy]at hc;have hn:N.mut id:=hc;split at hst
   ·split at hst
    ·rw[← fR hst];exact .set hn
    ·cases hst
   ·split at hst
    ·rw[← fR hst];exact .set hn
    ·cases hst
   ·cases hst
 unfold sB at h2;split at h2;case h_2=>cases h2
 rename_i args tys ho;rw[ho]at hc hd;simp only[aRb,aBn]at hc;unfold DOp at hd;simp only[fY,nR]at hd;split at hc;case h_2=>exact hc.elim
 rename_i s z hargs;rw[hargs]at hd;split at hd;case h_2=>exact hd.elim
 rename_i A B s' z' _ hz;simp only[iK,and_true]at hz;obtain⟨rfl,rfl⟩:=hz;split at hd;case isFalse=>
  split at hd;case h_2=>exact hd.elim
  cases ha:sX P (h0) A s z with
  |none=>rw[ha]at hd;exact hd.elim
  |some q=>
   rw[ha]at hd;obtain⟨y,h'⟩:=q;obtain⟨_,rfl⟩:=hd;unfold sX at ha;split at ha;case h_2=>cases ha
   split at ha;case h_2=>cases ha
   split at ha;case isFalse=>cases ha
   split at ha
   ·simp only[aB,bH]at ha;rw[← ha.2];exact .refl _ _
   ·simp only[aB,bH]at ha;rw[← ha.2];exact .app _ _
 split at hd
 ·cases ha:iE P (h0) A s z with
  |none=>rw[ha]at hd;exact hd.elim
  |some q=>
   rw[ha]at hd;obtain⟨y,h'⟩:=q;obtain⟨_,rfl⟩:=hd;exact F2 hc ha
 ·cases ha:iE P (freeze (eH dep (h0) z) (h0)) A s (gZ dep (h0) z)with
  |none=>rw[ha]at hd;exact hd.elim
  |some q=>
   rw[ha]at hd;obtain⟨y,h'⟩:=q;obtain⟨_,rfl⟩:=hd;exact(J1.freeze _ _).toN.trans (F2 hc ha)
theorem aWj{o ok:Oper}(hl:T4 rx ops o ok=true)(hr0:dk rx ops o=some .r):rx.on=true∧ckX rx ops o=true∧aVu rx ops ok=true:=by
 have hr':=(aBi hr0 (by decide) (by decide)).2.2;unfold T4 at hl;simp only[aA,cC]at hl;rcases hl.2 with h|h
 ·exact⟨hl.1,h.1.2,h.2⟩
 ·exfalso;have h2:=h.2;unfold aVu at h2;simp only[cC,aA]at h2;rcases h2 with h2|h2
  ·have h2:=h2.1;unfold aJg sB kK at h2;unfold wM at hr';cases ho:o.op with
   |call c=>
    rw[ho]at hr' h2;obtain⟨ce,as,ts⟩:=c;cases ce with
    |builtin b=>cases b<;>simp at hr' h2
    |_=>simp at h2
   |store T a x=>rw[ho]at hr';simp at hr'
   |_=>rw[ho]at h2;simp at h2
  ·rw[(aBi hr0 (by decide) (by decide)).2.1]at h2;cases h2
theorem bEz(T:Told P G N rx ops h0 env0 x hr zz){m k:Nat}{ok o:Oper}(hm:(Rs ops)[m]? = some k)(hk:ops[k]? = some ok)(hl:T4 rx ops o ok=true)(hr0:dk rx ops o=some .r):nK N (hr m) (hr (m+1)):=by
 obtain⟨eT,_,hat⟩:=T.rest m k ok hm hk;obtain⟨hon,hcx,hmut⟩:=aWj hl hr0;have go0:OpD P G N rx ops ok eT (hr m) (x k) (hr (m+1))→nK N (hr m) (hr (m+1)):=by
  intro hOD;unfold aVu at hmut;simp only[cC,aA]at hmut;rcases hmut with hmm|hz;case inr=>
   have hvz:vOf rx ops ok=false:=by
    cases hq:vOf rx ops ok with
    |false=>rfl
    |true=>
     obtain⟨T,len,ps,ho,_⟩:=aKx hq;obtain⟨f,as,ts,ho2⟩:=aCs hz;rw[ho]at ho2;cases ho2
   have hom:omOf rx ops ok=.z:=by simp[omOf,hvz,hz]
   have:=hOD.2;rw[hom]at this;exact this.2.2
  have hvm:vOf rx ops ok=false:=by
   cases hq:vOf rx ops ok with
   |false=>rfl
   |true=>
    obtain⟨T,len,ps,ho,_⟩:=aKx hq;have h2:=hmm.1;unfold aJg sB kK at h2;rw[ho]at h2;simp at h2
  have hzm:zOf rx ok=false:=by
   cases hq:zOf rx ok with
   |false=>rfl
   |true=>
    obtain⟨f,as,ts,ho⟩:=aCs hq;have h2:=hmm.1;unfold aJg sB kK at h2;rw[ho]at h2;simp at h2
  have happ:aJg ok=true∧ckF rx ops ok=true:=⟨hmm.1,by simp[ckF,hon,hmm.2]⟩;revert hOD;rintro⟨hc,hd⟩;rw[happ.2]at hc;rw[bVb hvm hzm]at hd;exact bPb happ.1 hc hd
 unfold OpAt at hat;cases hg:ok.guard with
 |none=>rw[hg]at hat;exact go0 hat
 |some gq=>
  obtain⟨j,want⟩:=gq;rw[hg]at hat;obtain⟨d,b,_,_,h1,h2⟩:=hat;cases b with
  |true=>exact go0 (h1 rfl)
  |false=>rw[(h2 rfl).2];exact .refl _ _
structure cMm(P:Program)(G:Md)(N:DR)(rx:RX)(ops:Array Oper)(hr:Nat→List AObj)(S:Nat→Prop)(i p:Nat)(o:Oper)(e eT:List AV)(q:Nat)(x:AV):Prop where
 agree:∀t,t∈ouses ops o→e.getD t .u=eT.getD t .u
 at_:OpAt P G N rx ops o eT (hr q) x (hr (q+1))
 run:OpD P G N rx ops o eT (hr q) x (hr (q+1))→∃p',p'≤(Rs ops).length∧DOc P G N (omOf rx ops o) o.op e (hr p) x (hr p')∧∀(k:Nat) (ok:Oper),ops[k]? = some ok→Chg rx ops ok→((S k∨k=i)↔InR ops p' k)
 drop:hr (q+1)=hr q→∃p',p'≤(Rs ops).length∧hr p'=hr p∧∀(k:Nat) (ok:Oper),ops[k]? = some ok→Chg rx ops ok→((S k∨k=i)↔InR ops p' k)
theorem cKt(D:DOK rx ops B)(T:Told P G N rx ops h0 env0 x hr zz)(I:Inv P G rx ops h0 env0 x hr zz X0 w0 S X w a p e){i:Nat}{o:Oper}(hi:ops[i]? = some o)(hS:¬S i)(hpre:∀e,e∈anyPre o→S e)(hf:dZ o=false) :
 ∃eT q,cMm P G N rx ops hr S i p o e eT q (x i):=by
 have hlt:i<ops.size:=(aY.1 hi).1;have hiR:i∈Rs ops:=E2.2 ⟨hlt,by simp only[oD,hi];exact hf⟩;obtain⟨q,hq⟩:=cW.1 hiR;obtain⟨eT,hT,hat⟩:=T.rest q i o hq hi;have notF:i∉Fs ops:=fun h=>by have:=(E3.1 h).2;simp only[oD,hi]at this;rw[hf]at this;cases this
 have bef1:∀k,B k i→S k:=D.before I.cl i o hi hpre;have bef2:∀k ok,ops[k]? = some ok→S k→¬B i k:=fun k ok hk s hb=>hS (D.before I.cl k ok hk (I.cl k ok s hk) i hb);have agree:∀t,t∈ouses ops o→e.getD t .u=eT.getD t .u:=by
  intro t ht;refine I.ei.agree D hT t (fun k hk=>?_);obtain⟨ok,hok,hdk⟩:∃ok,ops[k]? = some ok∧ok.dst=some t:=by
   unfold oN at hk;cases hok:ops[k]? with
   |none=>rw[hok]at hk;cases hk
   |some ok=>rw[hok]at hk;exact⟨ok,rfl,hk⟩
  have hkl:k<ops.size:=(aY.1 hok).1;constructor
  ·intro s;cases hfk:oD ops k with
   |true=>exact .inl (E3.2 ⟨hkl,hfk⟩)
   |false=>
    right;obtain⟨m,hm⟩:=cW.1 (E2.2 ⟨hkl,hfk⟩);by_cases hmq:m<q
    ·exact⟨m,hmq,hm⟩
    ·exfalso;have hne:m≠q:=fun h=>by subst h;rw[hq]at hm;cases hm;exact hS s
     have hik:=pQ hq hm (by omega);rcases D.ind k i ok o hok hi (by omega)with h|h|h
     ·have:=D.blt i o hi k h;omega
     ·exact bef2 k ok hok s h
     ·exact(rB h).1 t hdk ht
  ·intro hkk
   by_cases s:S k
   ·exact s
   ·exfalso;have hne:k≠i:=by
     rintro rfl;rcases hkk with h|⟨m,hm,hmk⟩
     ·exact notF h
     ·have:=bAz hmk hq;omega
    rcases D.ind k i ok o hok hi hne with h|h|h
    ·exact s (bef1 k h)
    ·rcases hkk with hF|⟨m,hm,hmk⟩
     ·have hfr:dZ ok=true:=by have:=(E3.1 hF).2;simp only[oD,hok]at this;exact this
      obtain⟨_,_,_,hp0⟩:=O8 hfr;rcases D.clo k ok hok i h with h|⟨e,he,_⟩
      ·rw[hp0]at h;cases h
      ·rw[hp0]at he;cases he
     ·have:=D.blt k ok hok i h;have:=pQ hmk hq hm;omega
    ·exact(rB h).1 t hdk ht
 have opd:∀y∈o.op.operands.toList,aev G eT y=aev G e y:=by
  intro y hy;cases y with
  |tmp t=>
   simp only[aev];exact(agree t (by
    unfold ouses;refine eO _ (dK _ ?_);unfold bUy;exact List.mem_filterMap.2 ⟨.tmp t,hy,rfl⟩)).symm
  |_=>rfl
 have pend:∀m k ok,(Rs ops)[m]? = some k→ops[k]? = some ok→p≤m→m<q→Chg rx ops ok→¬S k:=by
  intro m k ok hm hk h1 h2 hc s;obtain⟨m',hm',hmk⟩:=(I.ch k ok hk hc).1 s;have:=bAz hmk hm;omega
 have at_m:∀m,m<(Rs ops).length→∃k ok,(Rs ops)[m]? = some k∧ops[k]? = some ok:=by
  intro m hm;have h1:(Rs ops)[m]? = some (Rs ops)[m]:=by simp[hm]
  have h2:=(E2.1 (eD h1)).1;exact⟨_,ops[(Rs ops)[m]],h1,by simp[h2]⟩
 have hql:q<(Rs ops).length:=bP hq;by_cases hc:Chg rx ops o
 ·have hpq:p≤q:=by
   rcases lK q p with h|h
   ·exact absurd ((I.ch i o hi hc).2 ⟨q,h,hq⟩) hS
   ·exact h
  have none:∀m k ok,(Rs ops)[m]? = some k→ops[k]? = some ok→p≤m→m<q→¬Chg rx ops ok:=by
   intro m k ok hm hk h1 h2 hck;have s:=pend m k ok hm hk h1 h2 hck;have hki:=pQ hm hq h2;rcases D.ind k i ok o hk hi (by omega)with h|h|h
   ·exact s (bef1 k h)
   ·have:=D.blt k ok hk i h;omega
   ·obtain⟨_,_,a,b,ha,hb,hab⟩:=rB h;rcases hab with hab|hab
    ·rcases hck with c1|c1<;>rcases hc with c2|c2<;>(rw[c1]at ha;rw[c2]at hb;cases ha;cases hb;simp[O4]at hab)
    ·unfold T4 at hab;rcases hck with c1|c1<;>rcases hc with c2|c2<;>simp[c1,c2]at hab
  have heq:hr q=hr p:=aBg q hpq (fun m h1 h2=>by
   obtain⟨k,ok,hk,hok⟩:=at_m m (by omega);exact(aAt D T hk hok (none m k ok hk hok h1 h2)).2)
  have chq:∀(k:Nat) (ok:Oper),ops[k]? = some ok→Chg rx ops ok→((S k∨k=i)↔InR ops (q+1) k):=by
   intro k ok hok hck;constructor
   ·rintro(s|rfl)
    ·obtain⟨m,hm,hmk⟩:=(I.ch k ok hok hck).1 s;exact⟨m,by omega,hmk⟩
    ·exact⟨q,by omega,hq⟩
   ·rintro⟨m,hm,hmk⟩;by_cases h1:m<p
    ·exact .inl ((I.ch k ok hok hck).2 ⟨m,h1,hmk⟩)
    ·by_cases h2:m=q
     ·subst h2;rw[hq]at hmk;cases hmk;exact .inr rfl
     ·exact absurd hck (none m k ok hmk hok (by omega) (by omega))
  refine⟨eT,q,agree,hat,fun d=>⟨q+1,hql,?_,chq⟩,fun hd=>⟨q+1,hql,by rw[hd,heq],chq⟩⟩;rw[← heq];exact aFv opd d.2
 ·obtain⟨hkind,hsame⟩:=aAt D T hq hi hc
  have chp:∀(k:Nat) (ok:Oper),ops[k]? = some ok→Chg rx ops ok→((S k∨k=i)↔InR ops p k):=by
   intro k ok hok hck;constructor
   ·rintro(s|rfl)
    ·exact(I.ch k ok hok hck).1 s
    ·rw[hi]at hok;cases hok;exact absurd hck hc
   ·intro h;exact .inl ((I.ch k ok hok hck).2 h)
  refine⟨eT,q,agree,hat,fun d=>⟨p,I.hp,?_,chp⟩,fun _=>⟨p,I.hp,rfl,chp⟩⟩;rcases hkind with hk|hk
  ·refine bWo hk (by decide) (by decide) (Z5 opd ((aDq (aMq (aBi hk (by decide) (by decide)).2.2) (aYg hk (by decide) (by decide) d.2)).2 (hr p) ?_));intro y hy;intro id hid;have notL:∀m k ok,(Rs ops)[m]? = some k→ops[k]? = some ok→((p≤m∧m<q)∨(q≤m∧m<p))→dk rx ops ok≠some .l∨T4 rx ops o ok=true:=by
    intro m k ok hm hok hpm;by_cases hl:dk rx ops ok=some .l;case neg=>exact .inl hl
    right;have hck:Chg rx ops ok:=.inr hl;rcases hpm with⟨h1,h2⟩|⟨h1,h2⟩
    ·have s:=pend m k ok hm hok h1 h2 hck;have hki:=pQ hm hq h2;rcases D.ind k i ok o hok hi (by omega)with h|h|h
     ·exact absurd (bef1 k h) s
     ·have:=D.blt k ok hok i h;omega
     ·obtain⟨_,_,a,b,ha,hb,hab⟩:=rB h;rcases hab with hab|hab
      ·rw[hl]at ha;rw[hk]at hb;cases ha;cases hb;simp[O4]at hab
      ·exact aMp hab
    ·have s:S k:=(I.ch k ok hok hck).2 ⟨m,h2,hm⟩;have hne:m≠q:=fun h=>by subst h;rw[hq]at hm;cases hm;exact hS s
     have hik:=pQ hq hm (by omega);rcases D.ind k i ok o hok hi (by omega)with h|h|h
     ·have:=D.blt i o hi k h;omega
     ·exact absurd h (bef2 k ok hok s)
     ·obtain⟨_,_,a,b,ha,hb,hab⟩:=rB h;rcases hab with hab|hab
      ·rw[hl]at ha;rw[hk]at hb;cases ha;cases hb;simp[O4]at hab
      ·exact aMp hab
   have hpl:=I.hp;by_cases hflag:ckF rx ops o=true
   ·have hold:N.old id:=by
     have hck:=d.1;rw[hflag]at hck;exact bZy (aBi hk (by decide) (by decide)).2.2 hck y hy hid
    have step:∀m,m<(Rs ops).length→((p≤m∧m<q)∨(q≤m∧m<p))→nK N (hr m) (hr (m+1)):=by
     intro m hml hpm;obtain⟨k,ok,hk',hok⟩:=at_m m hml;rcases notL m k ok hk' hok hpm with h|h
     ·exact(J4 D T hk' hok h).toN
     ·exact bEz T hk' hok h (by rw[hk])
    rcases Nat.le_total p q with h|h
    ·have gr:nK N (hr p) (hr q):=xJ q h (fun m h1 h2=>step m (by omega) (.inl ⟨h1,h2⟩));have rv:=jG I.g I.eo y;rw[← opd y hy]at rv;obtain⟨ob,hob⟩:=aTs rv hid;obtain⟨ob',h1,h2⟩:=gr id ob hold hob;right;rw[hob,h1];simp[h2]
    ·have gr:nK N (hr q) (hr p):=xJ p h (fun m h1 h2=>step m (by omega) (.inr ⟨h1,h2⟩));cases hx:(hr q)[id]? with
     |none=>left;rfl
     |some ob=>obtain⟨ob',h1,h2⟩:=gr id ob hold hx;right;rw[h1];simp[h2]
   ·have notL2:∀m k ok,(Rs ops)[m]? = some k→ops[k]? = some ok→((p≤m∧m<q)∨(q≤m∧m<p))→dk rx ops ok≠some .l:=by
     intro m k ok hm hok hpm;rcases notL m k ok hm hok hpm with h|h
     ·exact h
     ·obtain⟨q1,q2,_⟩:=aWj h hk;exact absurd (by simp[ckF,q1,q2]) hflag
    rcases Nat.le_total p q with h|h
    ·have gr:J1 (hr p) (hr q):=C0 q h (fun m h1 h2=>by
      obtain⟨k,ok,hk,hok⟩:=at_m m (by omega);exact J4 D T hk hok (notL2 m k ok hk hok (.inl ⟨h1,h2⟩)))
     have rv:=jG I.g I.eo y;rw[← opd y hy]at rv;obtain⟨ob,hob⟩:=aTs rv hid;obtain⟨ob',h1,h2⟩:=gr id ob hob;right;rw[hob,h1];simp[h2]
    ·have gr:J1 (hr q) (hr p):=C0 p h (fun m h1 h2=>by
      obtain⟨k,ok,hk,hok⟩:=at_m m (by omega);exact J4 D T hk hok (notL2 m k ok hk hok (.inr ⟨h1,h2⟩)))
     cases hx:(hr q)[id]? with
     |none=>left;rfl
     |some ob=>obtain⟨ob',h1,h2⟩:=gr id ob hx;right;rw[h1];simp[h2]
  ·exact aFv opd ((aNl hk d.2).2 (hr p))
theorem aMf(D:DOK rx ops B)(I:Inv P G rx ops h0 env0 x hr zz X0 w0 S X w a p e){i:Nat}{o:Oper}(hi:ops[i]? = some o)(hpre:∀e,e∈anyPre o→S e){p':Nat}(hp:p'≤(Rs ops).length)
 (ch:∀(k:Nat) (ok:Oper),ops[k]? = some ok→Chg rx ops ok→((S k∨k=i)↔InR ops p' k)) {X':Ctx} {w':World} {a':Act} (g:GH G X' w' (hr p')) (eo:EnvOK G.ds X' w' (hr p') (iV e o.dst (x i)) a') (t:Tr X w (hr p) X' w' (hr p')) :
 Inv P G rx ops h0 env0 x hr zz X0 w0 (fun k=>S k∨k=i) X' w' a' p' (iV e o.dst (x i)):=by
 have hd:oN ops i=o.dst:=by simp[oN,hi]
 refine⟨hp,g,hd▸I.ei.step D i,eo,I.tr.trans t,ch,?_,Q1 I.cl hi hpre,?_⟩
 ·intro q k hq hk;obtain⟨h1,h2⟩:=I.pend q k hq (fun s=>hk (.inl s));refine⟨t.abs _ _ h1 h2,?_⟩;obtain⟨o',ho',c⟩:=t.ext.obj _ _ h1;rw[t.abs _ _ h1 h2]at ho';cases ho';rcases c with c|⟨_,c⟩
  ·cases c
  ·exact(c.resolve_right (by simp)).trans h2
 ·rintro k (s|rfl)
  ·exact I.lt k s
  ·exact(aY.1 hi).1
theorem bFg(D:DOK rx ops B)(T:Told P G N rx ops h0 env0 x hr zz)(I:Inv P G rx ops h0 env0 x hr zz X0 w0 S X w a p e){i:Nat}{o:Oper}(hi:ops[i]? = some o)(hS:¬S i)(hpre:∀e,e∈anyPre o→S e)
 {Q:Exit→Act→World→Prop} {K:Act→World→Prop} (hK:∀X' w' a' p' e',Inv P G rx ops h0 env0 x hr zz X0 w0 (fun k=>S k∨k=i) X' w' a' p' e'→K a' w'):wpOp P ops Q i K a w:=by
 unfold wpOp;simp only[hi];have hd:oN ops i=o.dst:=by simp[oN,hi]
 cases hf:dZ o with
 |true=>
  obtain⟨_,_,hg,_⟩:=O8 hf;have hiF:i∈Fs ops:=E3.2 ⟨(aY.1 hi).1,by simp only[oD,hi];exact hf⟩;obtain⟨q,hq⟩:=cW.1 hiF;obtain⟨o',Ty,ho',hop,hz,hx,hbox⟩:=T.free q i hq;rw[hi]at ho';cases ho';have hw:Region.wanted o (yielded ops a.tmps)=true:=by simp[Region.wanted,hg]
  rw[if_pos hw];refine .inl ?_;obtain⟨hid,hι⟩:=I.pend q i hq hS;obtain⟨iz,zv,hiz,hizv,hzc⟩:=jD hz;obtain⟨h1,h2,h3⟩:=kS (X:=X) (w:=w) (h:=hr p) hzc;have pp:=iD.alloc w (.cells zv.cells Ty (0,0));obtain⟨ex,g',st⟩:=bPm I.g pp hid hι h1 h2 h3;have hrun:(execOp a.eval o).run P w=.ok (.value (.pointer (some ⟨w.heap.size,0,Option.none⟩))) (w.alloc (.cells zv.cells Ty (0,0))):=by
   have hnr:(newRow Ty zv.cells).run P w=.ok ⟨w.heap.size,0,Option.none⟩ (w.alloc (.cells zv.cells Ty (0,0))):=rfl;unfold execOp;simp only[hop];simp[Instr.alloc,rU hiz hizv,newVar,hnr]
  unfold Oper.wp;rw[hrun];simp only[Oper.upon];have rp:RV (X.upd (h0.length+q) (some (w.heap.size,0))) (w.alloc (.cells zv.cells Ty (0,0))) (hr p) (x i) (.pointer (some ⟨w.heap.size,0,Option.none⟩)):=by
   rw[hx];have:=RV.ptr (X:=X.upd (h0.length+q) (some (w.heap.size,0))) (w:=w.alloc (.cells zv.cells Ty (0,0))) (h:=hr p) (id:=h0.length+q) (off:=0) (ob:=.box false (zz i)) (b:=w.heap.size) (o:=0) hid (by simp) (Ctx.upd_same _ _ _);simpa using this
  refine hK _ _ _ p (iV e o.dst (x i)) ⟨I.hp,g',hd▸I.ei.step D i,?_,⟨I.tr.step.trans st,?_,I.tr.abs⟩,?_,?_,Q1 I.cl hi hpre,?_⟩
  ·exact EnvOK.put ⟨I.eo.defers,I.eo.size,fun j y v hy hv=>(I.eo.rel j y v hy hv).monoW ex⟩ _ rp
  ·refine⟨fun b hb=>I.tr.ext.fr b hb,fun b hb=>(ex.keep b (I.tr.ext.fr b hb)).trans (I.tr.ext.keep b hb),fun b s hs=>ex.shp b s (I.tr.ext.shp b s hs),fun k ob hk=>?_⟩;obtain⟨ob',ho',c⟩:=I.tr.ext.obj k ob hk;refine⟨ob',ho',c.imp id (fun c=>⟨c.1,?_⟩)⟩;rw[Ctx.upd_other _ _ (by have:=bP hk;omega)];exact c.2
  ·intro k ok hok hck;rw[← I.ch k ok hok hck];constructor
   ·rintro(s|rfl)
    ·exact s
    ·rw[hi]at hok;cases hok;rcases hck with c|c<;>(rw[cHy.2 hf]at c;cases c)
   ·exact .inl
  ·intro q' k hq' hk;obtain⟨p1,p2⟩:=I.pend q' k hq' (fun s=>hk (.inl s));refine⟨p1,?_⟩;have hne:q'≠q:=fun h=>by subst h;rw[hq]at hq';cases hq';exact hk (.inr rfl)
   rw[Ctx.upd_other _ _ (by omega)];exact p2
  ·rintro k (s|rfl)
   ·exact I.lt k s
   ·exact(aY.1 hi).1
 |false =>
  obtain⟨eT,q,H⟩:=cKt D T I hi hS hpre hf;have go:OpD P G N rx ops o eT (hr q) (x i) (hr (q+1))→o.wp P a w K Q:=by
   intro d;obtain⟨p',hp',d',ch⟩:=H.run d;refine bWp I.g I.eo d' ?_;intro a' w' X' g' r' t;exact hK _ _ _ _ _ (aMf D I hi hpre hp' ch g' r' t)
  have stop:hr (q+1)=hr q→x i=.tup []→K (a.put o.dst undef) w:=by
   intro d hx;obtain⟨p',hp',hh,ch⟩:=H.drop d;refine hK X w (a.put o.dst undef) p' _ (aMf D I hi hpre hp' ch (by rw[hh];exact I.g) (by rw[hh,hx];exact I.eo.put _ (.tup (vs := #[]) rfl (by simp))) (by rw[hh];exact .refl _ _ _))
  have hat:=H.at_;unfold OpAt at hat;cases hg:o.guard with
  |none=>
   rw[hg]at hat;have hw:Region.wanted o (yielded ops a.tmps)=true:=by simp[Region.wanted,hg]
   rw[if_pos hw];exact .inl (go hat)
  |some gq=>
   obtain⟨j,want⟩:=gq;rw[hg]at hat;obtain⟨d,b,hdj,hb,h1,h2⟩:=hat;have hx:T7 (e.getD d .u) want=.b b:=by
    rw[H.agree d (by
     unfold ouses cHa;rw[hg];refine eO _ (eO _ ?_);have:((ops[j]?).bind fun x=>x.dst)=some d:=hdj;simp[this])]
    exact hb
   rw[aCv I.eo hg hdj hx];cases b with
   |true=>
    simp only[if_true];exact .inl (go (h1 rfl))
   |false=>
    simp only[aE,if_false];obtain⟨e1,e2⟩:=h2 rfl;exact stop e2 e1
theorem aGb{α:Type}{p q:α→Bool}:∀(l:List α),(∀y∈l,q y=true→p y=true)→(∃y∈l,p y=true∧q y=false)→l.countP q<l.countP p
 | [],_,h=>by obtain⟨y,hy,_⟩:=h;cases hy
 |y :: l,hs,h=>by
  have hle:l.countP q≤l.countP p:=List.countP_mono_left (fun z hz=>hs z (by simp[hz]));rw[List.countP_cons,List.countP_cons];by_cases hy:p y=true∧q y=false
  ·rw[hy.1,hy.2];simp;omega
  ·have h':∃z∈l,p z=true∧q z=false:=by
    obtain⟨z,hz,hpz⟩:=h;rcases cH.1 hz with rfl|hz
    ·exact absurd hpz hy
    ·exact⟨z,hz,hpz⟩
   have:=aGb l (fun z hz=>hs z (by simp[hz])) h';have h1:=hs y (by simp);cases hq:q y with
   |true=>rw[h1 hq];omega
   |false=>simp;omega
theorem iJ{o:Oper}{e:Nat}:e∈anyPre o↔∃d∈o.after,Region.binds .any d=true∧d.on=e:=by
 unfold anyPre;simp only[dS,jV,aRz];constructor
 ·rintro⟨d,⟨h1,h2⟩,h3⟩;exact⟨d,h1,h2,h3⟩
 ·rintro⟨d,h1,h2,h3⟩;exact⟨d,⟨h1,h2⟩,h3⟩
def tD(l:Array Bool)(i:Nat):Prop:=l.getD i false=true
theorem cAu(D:DOK rx ops B)(T:Told P G N rx ops h0 env0 x hr zz){Q:Exit→Act→World→Prop}(hQ:∀X w a p e,Inv P G rx ops h0 env0 x hr zz X0 w0 (fun i=>i<ops.size) X w a p e→Q .normal a w) :
 ∀(fuel:Nat) (l:Array Bool),l.size=ops.size→(List.range ops.size).countP (fun i => !l.getD i true)≤fuel→∀(X:Ctx) (w:World) (a:Act) (p:Nat) (e:List AV),Inv P G rx ops h0 env0 x hr zz X0 w0 (tD l) X w a p e →
  wpAny P .any ops Q fuel l a w:=by
 have all:∀(l:Array Bool),l.size=ops.size→Region.ready .any ops l=[]→∀i,i<ops.size→tD l i:=by
  intro l hl hr i;induction i using Nat.strongRecOn with
  |ind i ih=>
   intro hi;have ho:ops[i]? = some ops[i]:=by simp[hi]
   have hn:i∉Region.ready .any ops l:=by rw[hr];simp
   rw[mem_ready]at hn;have hpre:∀d∈ops[i].after,Region.binds .any d=true→l.getD d.on false=true:=by
    intro d hd hb;have hlt:=D.lt i ops[i] ho d.on (iJ.2 ⟨d,hd,hb,rfl⟩);exact ih d.on hlt (by omega)
   unfold tD;have hli:i<l.size:=by omega
   cases hc:l[i]with
   |true=>simp[Array.getD,hli,hc]
   |false=>exact absurd ⟨by simp[Array.getD,hli,hc],ops[i],ho,hpre⟩ hn
 have fin:∀(l:Array Bool),l.size=ops.size→Region.ready .any ops l=[]→∀X w a p e,Inv P G rx ops h0 env0 x hr zz X0 w0 (tD l) X w a p e→Q .normal a w:=by
  intro l hl hr X w a p e I;have hs:(tD l)=(fun i=>i<ops.size):=funext fun i=>propext ⟨I.lt i,all l hl hr i⟩;exact hQ X w a p e (hs▸I)
 intro fuel;induction fuel with
 |zero=>
  intro l hl hc X w a p e I;have hr:Region.ready .any ops l=[]:=by
   rw[iH];intro i hi;obtain⟨h1,o,ho,_⟩:=mem_ready.1 hi;have hlt:i<ops.size:=(aY.1 ho).1;have hz:(List.range ops.size).countP (fun i => !l.getD i true)=0:=by omega
   rw[List.countP_eq_zero]at hz;have:=hz i (fE.2 hlt);rw[h1]at this;exact this rfl
  exact⟨hr,fin l hl hr X w a p e I⟩
 |succ fuel ih=>
  intro l hl hc X w a p e I;refine⟨fun hr=>fin l hl hr X w a p e I,fun i hi=>?_⟩;obtain⟨h1,o,ho,hall⟩:=mem_ready.1 hi;have hlt:i<ops.size:=(aY.1 ho).1;have hli:i<l.size:=by omega
  have hf:l[i]=false:=by simpa[Array.getD,hli]using h1
  refine bFg D T I ho ?_ ?_ (fun X' w' a' p' e' I'=>ih (l.setIfInBounds i true) (by simp[hl]) ?_ X' w' a' p' e' ?_)
  ·intro s;unfold tD at s;simp[Array.getD,hli,hf]at s
  ·intro d hd;obtain⟨d',h1,h2,rfl⟩:=iJ.1 hd;exact hall d' h1 h2
  ·have:(List.range ops.size).countP (fun k => !(l.setIfInBounds i true).getD k true)<(List.range ops.size).countP (fun k => !l.getD k true):=by
    refine aGb _ ?_ ⟨i,fE.2 hlt,by rw[h1];rfl,by simp[Array.getD,hli]⟩;intro k hk hk';by_cases hik:i=k
    ·subst hik;rw[h1];rfl
    ·rw[getD_set_ne true hik]at hk';exact hk'
   omega
  ·have hs:(tD (l.setIfInBounds i true))=(fun k=>tD l k∨k=i):=funext fun k=>propext (by
    unfold tD;by_cases hik:i=k
    ·subst hik;simp[Array.getD,hli]
    ·rw[getD_set_ne false hik];constructor
     ·exact .inl
     ·rintro(s|rfl)
      ·exact s
      ·exact absurd rfl hik)
   rw[hs];exact I'
theorem zM(hd:uQ rx ops=true){al:List gA}(hl:bY rx ops (fT ops)=some al){K:List AV→List AObj→Prop}{env:List AV}{h:List AObj}{X:Ctx}{w:World}{a:Act}{Q:Exit→Act→World→Prop}
 (e:dN P G (some N) al K env h) (g:GH G X w h) (r:EnvOK G.ds X w h env a) (hQ:∀a' w',mI G X w h K a' w'→Q .normal a' w'):wpAny P .any ops Q ops.size (Array.replicate ops.size false) a {w with drawn:=w.drawn+1}:=by
 have D:=aYf hd;obtain⟨x,hr,zz,T,hK⟩:=bLy (P:=P) (G:=G) D hl e;obtain⟨g1,t1⟩:=bPk (w':={w with drawn:=w.drawn+1}) g rfl rfl rfl rfl;obtain⟨obs,hobs,hobs2⟩:=T.start;obtain⟨g2,t2⟩:=bPl g1 obs hobs2;have t12:=t1.trans t2;refine cAu (x:=x) (hr:=hr) (zz:=zz) (h0:=h) (env0:=env) (X0:=X) (w0:=w) D T ?_ ops.size (Array.replicate ops.size false) (by simp) (by
  have:=List.countP_le_length (p:=fun i => !(Array.replicate ops.size false).getD i true) (l:=List.range ops.size);simpa using this) X _ a 0 env ?_
 ·intro X' w' a' p' e' I;refine hQ a' w' ⟨e',hr (Rs ops).length,X',hK e' I.ei,?_⟩;have heq:hr (Rs ops).length=hr p':=aBg _ I.hp (fun m h1 h2=>by
   have hm':(Rs ops)[m]? = some (Rs ops)[m]:=by simp[h2]
   have hlt:=(E2.1 (eD hm')).1;refine(aAt D T hm' (ok:=ops[(Rs ops)[m]]) (by simp[hlt]) (fun hc=>?_)).2;obtain⟨m',hm1,hm2⟩:=(I.ch (Rs ops)[m] ops[(Rs ops)[m]] (by simp[hlt]) hc).1 hlt;have:=bAz hm2 hm';omega)
  rw[heq];exact⟨I.g,I.eo,I.tr⟩
 ·have nol:∀i,¬tD (Array.replicate ops.size false) i:=by
   intro i s;unfold tD at s;by_cases hi:i<ops.size<;>simp[Array.getD,hi]at s
  have hs:tD (Array.replicate ops.size false)=fun _=>False:=funext fun i=>propext ⟨nol i,False.elim⟩;refine⟨bJ _,hobs▸g2,hs▸EnvIs.start,hobs▸r.mono t12.ext,hobs▸t12,?_,?_,?_,?_⟩
  ·intro i o _ _;exact⟨fun s=>absurd s (nol i),fun⟨m,hm,_⟩=>by omega⟩
  ·intro q i hq _;obtain⟨o,Ty,_,_,_,_,hb⟩:=T.free q i hq;refine⟨hb,?_⟩;cases hi:X.ι (h.length+q)with
   |none=>rfl
   |some bo=>
    obtain⟨ob,hob⟩:=g.dom _ _ hi;have:=bP hob;omega
  ·intro i o s;exact absurd s (nol i)
  ·intro i s;exact absurd s (nol i)
theorem bQi(hm:P.follows .mixedOrders=true){id:Nat}(hd:uQ rx ops=true){al:List gA}(hl:bY rx ops (fT ops)=some al){K:List AV→List AObj→Prop}{env:List AV}{h:List AObj}{X:Ctx}{w:World}{a:Act}{Q:Exit→Act→World→Prop}
 (e:dN P G (some N) al K env h) (g:GH G X w h) (r:EnvOK G.ds X w h env a) (hQ:∀a' w',mI G X w h K a' w'→Q .normal a' w'):(Code.region id ops true).wp P Q a w:=
 wp_region_any hm (zM hd hl e g r hQ)
end
def aQh(pre:Array Oper)(o:Oper):Bool:=
 ((anyPre o).all fun e=>decide (e<pre.size)) &&
 (List.range pre.size).all fun i=>(anyPre o).contains i||(List.range pre.size).any fun j=>decide (i<j)&&match pre[j]? with
  |some p=>(anyPre p).contains i
  |Option.none=>false
def uO(pre:Array Oper):Bool:=pre.toList.all fun p=>match p.guard with
 |some (j,_)=>decide (j<pre.size)
 |Option.none=>true
section
variable {P:Program} {pre:Array Oper} {o:Oper} {Q:Exit→Act→World→Prop}
def Cl(pre:Array Oper)(l:Array Bool):Prop:=∀i p,pre[i]? = some p→l.getD i false=true→∀e∈anyPre p,l.getD e false=true
def qS(P:Program)(pre:Array Oper)(o:Oper)(Q:Exit→Act→World→Prop):Exit→Act→World→Prop
 | .normal,a,w=>wpOp P (pre.push o) Q pre.size (fun a w=>Q .normal a w) a w
 |x,a,w=>Q x a w
theorem kC{l:Array Bool}{i:Nat}{d:Bool}(h:i<l.size):(l.push false).getD i d=l.getD i d:=by
 simp[Array.getD,h,J3,Nat.lt_succ_of_lt h]
theorem M6{l:Array Bool}{d:Bool}:(l.push false).getD l.size d=false:=by simp[Array.getD]
theorem sD{i:Nat}(h:i<pre.size):(pre.push o)[i]? = pre[i]? := by rw[eN];rw[if_neg (by omega)]
theorem M7{l:Array Bool}(hlt:∀i p,pre[i]? = some p→∀e∈anyPre p,e<i)(hl:l.size=pre.size)(hr:Region.ready .any pre l=[]):∀i,i<pre.size→l.getD i false=true:=by
 intro i;induction i using Nat.strongRecOn with
 |ind i ih=>
  intro hi;have ho:pre[i]? = some pre[i]:=by simp[hi]
  have hn:i∉Region.ready .any pre l:=by rw[hr];simp
  rw[mem_ready]at hn;have hli:i<l.size:=by omega
  cases hc:l[i]with
  |true=>simp[Array.getD,hli,hc]
  |false=>
   refine absurd ⟨by simp[Array.getD,hli,hc],pre[i],ho,fun d hd hb=>?_⟩ hn;have hlt':=hlt i pre[i] ho d.on (iJ.2 ⟨d,hd,hb,rfl⟩);exact ih d.on hlt' (by omega)
theorem bFa{l:Array Bool}(hL:aQh pre o=true)(hc:Cl pre l)(hd:∀e∈anyPre o,l.getD e false=true):∀i,i<pre.size→l.getD i false=true:=by
 simp only[aQh,aA,bF,fE,cC]at hL;have key:∀k i,pre.size-i≤k→i<pre.size→l.getD i false=true:=by
  intro k;induction k with
  |zero=>intro i h1 h2;omega
  |succ k ih=>
   intro i h1 h2;rcases hL.2 i h2 with h|h
   ·exact hd i (jW.1 h)
   ·rw[gY]at h;obtain⟨j,hj,hj2⟩:=h;rw[fE]at hj;simp only[aA,decide_eq_true_eq]at hj2;have hp:pre[j]? = some pre[j]:=by simp[hj]
    rw[hp]at hj2;exact hc j _ hp (ih j (by omega) hj) i (jW.1 hj2.2)
 exact fun i h=>key _ i (bK _) h
theorem vP{l:Array Bool}{i:Nat}(hlt:∀i p,pre[i]? = some p→∀e∈anyPre p,e<i)(hl:l.size=pre.size)(hi:i<pre.size):i∈Region.ready .any (pre.push o) (l.push false)↔i∈Region.ready .any pre l:=by
 rw[mem_ready,mem_ready,sD hi,kC (by omega)];have ho:pre[i]? = some pre[i]:=by simp[hi]
 rw[ho];have h1:∀d∈pre[i].after,Region.binds .any d=true→(l.push false).getD d.on false=l.getD d.on false:=fun d hd hb=>kC (by have:=hlt i _ ho d.on (iJ.2 ⟨d,hd,hb,rfl⟩);omega);constructor
 ·rintro⟨a,p,hp,hall⟩;cases hp;exact⟨a,_,rfl,fun d hd hb=>(h1 d hd hb).symm.trans (hall d hd hb)⟩
 ·rintro⟨a,p,hp,hall⟩;cases hp;exact⟨a,_,rfl,fun d hd hb=>(h1 d hd hb).trans (hall d hd hb)⟩
theorem aOp{ops:Array Oper}{l:Array Bool}(hl:∀i,i<ops.size→l.getD i true=true){a:Act}{w:World}(q:Q .normal a w):∀fuel,wpAny P .any ops Q fuel l a w:=by
 have hr:Region.ready .any ops l=[]:=by
  rw[iH];intro i hi;obtain⟨h1,p,hp,_⟩:=mem_ready.1 hi;have:=hl i (aY.1 hp).1;rw[h1]at this;cases this
 intro fuel;cases fuel with
 |zero=>exact⟨hr,q⟩
 |succ f=>exact⟨fun _=>q,fun i hi=>by rw[hr]at hi;cases hi⟩
theorem xA(hg:uO pre=true){i:Nat}{p:Oper}(hp:pre[i]? = some p)(ts:Array Value):Region.wanted p (yielded (pre.push o) ts)=Region.wanted p (yielded pre ts):=by
 simp only[uO,bF]at hg;have:=hg p (aRz.2 (gX hp));unfold Region.wanted;cases hq:p.guard with
 |none=>rfl
 |some q=>
  obtain⟨j,b⟩:=q;rw[hq]at this;simp only[decide_eq_true_eq]at this;simp only[yielded,sD this]
theorem lF{o:Oper}{a:Act}{w:World}{K:Act→World→Prop}{Q Q':Exit→Act→World→Prop}(hQ:∀x a w,x ≠ .normal→Q x a w→Q' x a w)(hL:LetsOut Q→LetsOut Q')(h:o.wp P a w K Q):o.wp P a w K Q':=by
 unfold Oper.wp at *
 generalize (execOp a.eval o).run P w=r at *
 cases r with
 |ok n w'=>
  cases n<;>simp only[Oper.upon]at h⊢ <;> first
   |exact h
   |exact Calls.mono h (fun e w'' he=>by cases e<;>first|exact he|exact hQ _ _ _ (by simp) he|exact hL he)
 |halt x w'=>cases x<;>simp only[Oper.upon]at h⊢ <;> first|exact h|exact hQ _ _ _ (by simp) h
theorem bAn(hlt:∀i p,pre[i]? = some p→∀e∈anyPre p,e<i)(hL:aQh pre o=true)(hg:uO pre=true) :
 ∀(fuel:Nat) (l:Array Bool),l.size=pre.size→Cl pre l→∀(a:Act) (w:World),wpAny P .any pre (qS P pre o Q) fuel l a w→wpAny P .any (pre.push o) Q (fuel+1) (l.push false) a w:=by
 have hn:(pre.push o)[pre.size]? = some o:=by simp
 have hdl:∀e∈anyPre o,e<pre.size:=by
  simp only[aQh,aA,bF,decide_eq_true_eq]at hL;exact hL.1
 have fin:∀(fuel:Nat) (l:Array Bool),l.size=pre.size→(∀i,i<pre.size→l.getD i false=true)→∀(a:Act) (w:World),qS P pre o Q .normal a w→wpAny P .any (pre.push o) Q (fuel+1) (l.push false) a w:=by
  intro fuel l hl hall a w hB;have hmem:pre.size∈Region.ready .any (pre.push o) (l.push false):=by
   rw[mem_ready];refine⟨by rw[← hl];exact M6,o,hn,fun d hd hb=>?_⟩;have:=hdl d.on (iJ.2 ⟨d,hd,hb,rfl⟩);rw[kC (by omega)];exact hall _ this
  refine⟨fun hr=>(by rw[hr]at hmem;cases hmem),fun i hi=>?_⟩;have hlt2:i<pre.size+1:=by
   obtain⟨_,p,hp,_⟩:=mem_ready.1 hi;have:=(aY.1 hp).1;simpa using this
  by_cases hin:i<pre.size
  ·have h1:=(mem_ready.1 hi).1;rw[kC (by omega)]at h1;have h2:=hall i hin;have hli:i<l.size:=by omega
   simp[Array.getD,hli]at h1 h2;rw[h1]at h2;cases h2
  ·obtain rfl:i=pre.size:=by omega
   refine wpOp_mono (fun a w q=>aOp (fun k hk=>?_) q fuel) hB;rw[oA]at hk;by_cases hk2:k<pre.size
   ·have h2:=hall k hk2;have hkl:k<l.size:=by omega
    have:((l.push false).setIfInBounds pre.size true).getD k true=l.getD k false:=by
     rw[getD_set_ne true (by omega),kC hkl];simp[Array.getD,hkl]
    rw[this];exact h2
   ·obtain rfl:k=pre.size:=by omega
    rw[← hl];simp[Array.getD]
 intro fuel;induction fuel with
 |zero=>
  intro l hl hc a w h;exact fin 0 l hl (M7 hlt hl h.1) a w h.2
 |succ fuel ih=>
  intro l hl hc a w h;by_cases hr:Region.ready .any pre l=[]
  ·exact fin (fuel+1) l hl (M7 hlt hl hr) a w (h.1 hr)
  ·refine⟨fun hr'=>?_,fun i hi=>?_⟩
   ·obtain⟨k,hk⟩:=S3 _ hr;have hkl:k<pre.size:=by obtain⟨_,p,hp,_⟩:=mem_ready.1 hk;exact(aY.1 hp).1
    have:=(vP (o:=o) hlt hl hkl).2 hk;rw[hr']at this;cases this
   ·have hlt2:i<pre.size+1:=by
     obtain⟨_,p,hp,_⟩:=mem_ready.1 hi;have:=(aY.1 hp).1;simpa using this
    by_cases hin:i<pre.size
    ·have hi':=(vP hlt hl hin).1 hi;have h2:=h.2 i hi';have hp:pre[i]? = some pre[i]:=by simp[hin]
     have hli:i<l.size:=by omega
     have hset:(l.push false).setIfInBounds i true=(l.setIfInBounds i true).push false:=by
      apply U7
      ·simp
      ·intro k h1 h2;have q1:=cL (xs:=l.push false) (i:=i) (j:=k) (a:=true);rw[bW h1]at q1;have q2:=eN (xs:=l.setIfInBounds i true) (x:=false) (i:=k);rw[bW h2]at q2;apply fR;rw[q1,q2,cL,eN];simp only[oA,mD];by_cases hik:i=k
       ·subst hik;rw[if_pos rfl,if_pos (by omega),if_neg (by omega),if_pos rfl,if_pos hli]
       ·rw[if_neg hik];by_cases hkl:k=l.size
        ·rw[if_pos hkl,if_pos hkl]
        ·rw[if_neg hkl,if_neg hkl,if_neg hik]
     have K:∀a w,wpAny P .any pre (qS P pre o Q) fuel (l.setIfInBounds i true) a w→wpAny P .any (pre.push o) Q (fuel+1) ((l.push false).setIfInBounds i true) a w:=fun a w q=>by
      rw[hset];refine ih _ (by simp[hl]) ?_ a w q;intro k p hp' hk e he;by_cases hik:i=k
      ·subst hik;obtain⟨_,p2,hp2,hall⟩:=mem_ready.1 hi';rw[hp']at hp2;cases hp2;obtain⟨d,hd1,hd2,rfl⟩:=iJ.1 he;have:=hlt _ _ hp' d.on he;rw[getD_set_ne false (by omega)];exact hall d hd1 hd2
      ·rw[getD_set_ne false hik]at hk;have:=hc k p hp' hk e he;by_cases hie:i=e
       ·subst hie;simp[Array.getD,hli]
       ·rw[getD_set_ne false hie];exact this
     unfold wpOp at h2 ⊢;rw[sD hin,hp];rw[hp]at h2;dsimp only at h2 ⊢;rw[xA hg hp];by_cases hw:Region.wanted pre[i] (yielded pre a.tmps)=true
     ·rw[if_pos hw]at h2 ⊢;have up:LetsOut (qS P pre o Q)→LetsOut Q:=fun⟨a,w,q⟩=>⟨a,w,q⟩;rcases h2 with h2|⟨h2,h3⟩
      ·exact .inl (lF (fun x a w hx q=>by cases x<;>first|exact absurd rfl hx|exact q) up (wN K h2))
      ·exact .inr ⟨h2,up h3⟩
     ·rw[if_neg hw]at h2 ⊢;exact K _ _ h2
    ·obtain rfl:i=pre.size:=by omega
     exfalso;apply hr;have hall:=bFa hL hc (fun e he=>by
      obtain⟨_,p,hp,hd⟩:=mem_ready.1 hi;rw[hn]at hp;cases hp;obtain⟨d,hd1,hd2,rfl⟩:=iJ.1 he;have:=hd d hd1 hd2;rwa[kC (by have:=hdl _ he;omega)]at this)
     rw[iH];intro k hk;obtain⟨h1,p,hp,_⟩:=mem_ready.1 hk;have hkl:=(aY.1 hp).1;have h2:=hall k hkl;have hkl':k<l.size:=by omega
     simp[Array.getD,hkl']at h1 h2;rw[h1]at h2;cases h2
end
section
variable {P:Program} {G:Md} {N:DR} {rx:RX} {pre:Array Oper} {o:Oper}
def D8(pre:Array Oper):List Oper→Bool
 | []=>true
 |o::l=>(aQh pre o&&uO pre)&&((match o.guard with|some (j,_)=>decide (j<pre.size)|Option.none=>true)&&D8 (pre.push o) l)
def sT(P:Program)(ops:Array Oper)(l:List Oper)(Q:Exit→Act→World→Prop):Exit→Act→World→Prop
 | .normal,a,w=>wpList P ops Q l a w
 |x,a,w=>Q x a w
theorem lY{ops:Array Oper}{Q Q':Exit→Act→World→Prop}(hQ:∀x a w,Q x a w→Q' x a w):∀(fuel:Nat) (l:Array Bool) (a:Act) (w:World),wpAny P .any ops Q fuel l a w→wpAny P .any ops Q' fuel l a w
 |0,l,a,w,h=>⟨h.1,hQ _ _ _ h.2⟩
 |fuel+1,l,a,w,h=>⟨fun hr=>hQ _ _ _ (h.1 hr),fun i hi=>by
  have h2:=h.2 i hi;unfold wpOp at h2 ⊢;have up:LetsOut Q→LetsOut Q':=fun⟨a,w,q⟩=>⟨a,w,hQ _ _ _ q⟩;split
  ·rename_i ho;rw[ho]at h2;exact lY hQ fuel _ a w h2
  ·rename_i o ho;rw[ho]at h2;dsimp only at h2;split
   ·rename_i hw;rw[if_pos hw]at h2;rcases h2 with h2|⟨h2,h3⟩
    ·exact .inl (lF (fun x a w _ q=>hQ x a w q) up (wN (fun a w q=>lY hQ fuel _ a w q) h2))
    ·exact .inr ⟨h2,up h3⟩
   ·rename_i hw;rw[if_neg hw]at h2;exact lY hQ fuel _ _ w h2⟩
theorem A3{pre full:Array Oper}{p:Oper}(hg:∀j b,p.guard=some (j,b)→j<pre.size∧full[j]? = pre[j]?)(ts:Array Value):Region.wanted p (yielded full ts)=Region.wanted p (yielded pre ts):=by
 unfold Region.wanted;cases hq:p.guard with
 |none=>rfl
 |some q=>
  obtain⟨j,b⟩:=q;obtain⟨h1,h2⟩:=hg j b hq;simp only[yielded,h2]
theorem aCc:∀(l:List Oper) (pre:Array Oper),(∀i p,pre[i]? = some p→∀e∈anyPre p,e<i)→D8 pre l=true→∀(Q:Exit→Act→World→Prop) (a:Act) (w:World) (fuel:Nat),
 wpAny P .any pre (sT P (pre++l.toArray) l Q) fuel (Array.replicate pre.size false) a w→wpAny P .any (pre++l.toArray) Q (fuel+l.length) (Array.replicate (pre++l.toArray).size false) a w
 | [],pre,hlt,ht,Q,a,w,fuel,h=>by
   have e:pre++([]:List Oper).toArray=pre:=by simp
   rw[e]at h ⊢;exact lY (fun x a w q=>by cases x<;>exact q) _ _ _ _ h
 |o :: l,pre,hlt,ht,Q,a,w,fuel,h=>by
  simp only[D8,aA]at ht;obtain⟨⟨hL,hg⟩,hgo,ht⟩:=ht;have e:pre++(o::l).toArray=pre.push o++l.toArray:=by apply oS;simp
  have hdl:∀e∈anyPre o,e<pre.size:=by
   have hL:=hL;simp only[aQh,aA,bF,decide_eq_true_eq]at hL;exact hL.1
  have hlt1:∀i p,(pre.push o)[i]? = some p→∀e∈anyPre p,e<i:=by
   intro i p hp e he;rw[eN]at hp;split at hp
   ·rename_i hi;cases hp;rw[hi];exact hdl e he
   ·exact hlt i p hp e he
  rw[e]at h ⊢;rw[aQ,show fuel+(l.length+1)=fuel+1+l.length by omega];refine aCc l (pre.push o) hlt1 ht Q a w (fuel+1) ?_;have e1:(pre.push o).size=pre.size+1:=by simp
  have e2:Array.replicate (pre.size+1) false=(Array.replicate pre.size false).push false:=by
   apply U7
   ·simp
   ·intro k h1 h2;simp[J3]
  rw[e1,e2];refine bAn hlt hL hg _ _ (by simp) ?_ a w (lY ?_ _ _ _ _ h)
  ·intro i p hp hi;exfalso;have:=(aY.1 hp).1;simp[Array.getD,this]at hi
  ·intro x a w q;cases x with
   |normal=>
    simp only[sT,qS]at q ⊢;have hn:(pre.push o)[pre.size]? = some o:=by simp
    unfold wpOp;rw[hn];dsimp only;simp only[wpList]at q;have hw:Region.wanted o (yielded (pre.push o++l.toArray) a.tmps)=Region.wanted o (yielded (pre.push o) a.tmps):=A3 (fun j b hj=>by
     rw[hj]at hgo;simp only[decide_eq_true_eq]at hgo;exact⟨by rw[e1];omega,dU (by rw[e1];omega)⟩) _
    rw[hw]at q;split
    ·rename_i hw2;rw[if_pos hw2]at q;have up:LetsOut Q→LetsOut (sT P (pre.push o++l.toArray) l Q):=fun⟨a,w,q⟩=>⟨a,w,q⟩;rcases q with q|⟨q,q3⟩
     ·exact .inl (lF (fun x a w hx q=>by cases x<;>first|exact absurd rfl hx|exact q) up q)
     ·exact .inr ⟨q,up q3⟩
    ·rename_i hw2;rw[if_neg hw2]at q;exact q
   |_=>exact q
theorem aFt(hm:P.follows .mixedOrders=true){id:Nat}{l:List Oper}(hd:uQ rx pre=true)(ht:D8 pre l=true){al:List gA}{al2:List gA}(hl:bY rx pre (fT pre)=some al)(ho:bY .off (pre++l.toArray) l=some al2)
 {K:List AV→List AObj→Prop} {env:List AV} {h:List AObj} {X:Ctx} {w:World} {a:Act} {Q:Exit→Act→World→Prop}
 (e:dN P G (some N) al (fun env h=>dN P G Option.none al2 K env h) env h) (g:GH G X w h) (r:EnvOK G.ds X w h env a) (hQ:∀a' w',mI G X w h K a' w'→Q .normal a' w')
 (hP:∀v a' w',mI G X w h (G.pan v) a' w'→Q (.panic [{v:=v,recovered:=false}]) a' w'):(Code.region id (pre++l.toArray) true).wp P Q a w:=by
 have D:=aYf hd;refine wp_region_any hm ?_;rw[show(pre++l.toArray).size=pre.size+l.length by simp];have:=aCc (P:=P) l pre (fun i p hp=>D.lt i p hp) ht Q a {w with drawn:=w.drawn+1} pre.size (zM hd hl e g r ?_)
 ·rw[show(pre++l.toArray).size=pre.size+l.length by simp]at this;exact this
 ·rintro a' w' ⟨env',h',X',k1,k2,k3,k4⟩;exact lX (ops:=pre++l.toArray) (Q:=Q) l al2 ho env' h' X' w' a' k1 k2 k3 (fun a2 w2 ⟨env2,h2,X2,m1,m2,m3,m4⟩=>hQ a2 w2 ⟨env2,h2,X2,m1,m2,m3,k4.trans m4⟩)
   (fun _ v a2 w2 ⟨env2,h2,X2,m1,m2,m3,m4⟩=>hP v a2 w2 ⟨env2,h2,X2,m1,m2,m3,k4.trans m4⟩)
end
def lI:Option TH→Bool
 |some t=>t.k == 1000
 |Option.none=>false
def eS:Option TH→Bool
 |some t=>t.split
 |Option.none=>false
def mY:Option TH→Nat
 |some t=>t.k
 |Option.none=>0
def oX:List Oper→List Oper×List Oper
 | []=>([],[])
 | [o]=>([],[o])
 |a::b::l=>(a::(oX (b::l)).1,(oX (b::l)).2)
def splitK:Nat→List Oper→List Oper×List Oper
 |0,l=>([],l)
 |_+1,[]=>([],[])
 |k+1,a::l=>(a::(splitK k l).1,(splitK k l).2)
def oC(k:Nat)(l:List Oper):List Oper×List Oper:=
 match k with
 |0=>oX l
 |k+1=>splitK (k+1) l
theorem aDe:∀(l:List Oper),l=(oX l).1++(oX l).2
 | []=>rfl
 | [a]=>rfl
 |a::b::l=>by rw[oX,aH,← aDe (b::l)]
theorem aDf:∀(k:Nat) (l:List Oper),l=(splitK k l).1++(splitK k l).2
 |0,l=>rfl
 |_+1,[]=>rfl
 |k+1,a::l=>by rw[splitK,aH,← aDf k l]
theorem aTm(k:Nat)(l:List Oper):l=(oC k l).1++(oC k l).2:=by
 cases k with
 |zero=>exact aDe l
 |succ k=>exact aDf _ l
def bJo(rx:RX)(k:Nat)(ops:Array Oper):Bool:=uQ rx (oC k ops.toList).1.toArray&&D8 (oC k ops.toList).1.toArray (oC k ops.toList).2
def strip(rx:Bool)(th:Nat→Option TH):Code→Option kN
 | .skip=>some .skip
 | .region id ops true=>match lI (th id)with
   |true=>some (.raw (.region id ops true))
   |false=>match eS (th id)with
    |true=>match bY (lH rx (th id)) (oC (mY (th id)) ops.toList).1.toArray (fT (oC (mY (th id)) ops.toList).1.toArray),bY .off ops (oC (mY (th id)) ops.toList).2 with
     |some l,some a=>some (.seq (.draw (th id) l) (.region a))
     |_,_=>Option.none
    |false=>match bY (lH rx (th id)) ops (fT ops)with
     |some l=>some (.draw (th id) l)
     |Option.none=>Option.none
 | .region id ops false=>match lI (th id)with
   |true=>some (.raw (.region id ops false))
   |false=>match bY .off ops ops.toList with
    |some l=>some (.region l)
    |Option.none=>Option.none
 | .seq a b=>match strip rx th a,strip rx th b with
   |some x,some y=>some (.seq x y)
   |_,_=>Option.none
 | .cond c a b=>match strip rx th a,strip rx th b with
   |some x,some y=>some (.cond c x y)
   |_,_=>Option.none
 | .block id c=>match strip rx th c with
   |some x=>some (.block id x)
   |Option.none=>Option.none
 | .loop c=>match strip rx th c with
   |some x=>some (.loop x)
   |Option.none=>Option.none
 | .exit id=>some (.exit id)
 | .ret=>some .ret
 | .rangeFunc a b c d=>some (.raw (.rangeFunc a b c d))
 |_=>Option.none
def jF(rx:Bool)(th:Nat→Option TH):Code→Bool
 | .region id ops true=>match lI (th id)with
   |true=>true
   |false=>match eS (th id)with
    |true=>bJo (lH rx (th id)) (mY (th id)) ops
    |false=>uQ (lH rx (th id)) ops
 | .seq a b| .cond _ a b=>jF rx th a&&jF rx th b
 | .block _ c| .loop c=>jF rx th c
 |_=>true
section
variable {P:Program} {G:Md} {rx:Bool} {th:Nat→Option TH}
theorem aOz{c:Code}{S:Type}(I:S→Act→World→Prop)(μ:S→Nat){Q:Exit→Act→World→Prop}(s0:S){a:Act}{w:World}(h₀:I s0 a w)
 (round:∀s a w,I s a w→c.wp P (Exit.then (fun a' w'=>∃s',I s' a' w'∧μ s'<μ s) Q) a w):(Code.loop c).wp P Q a w:=by
 intro b k cs;have key:∀n s a w,μ s=n→I s a w →
  ∃e a' w',Q e a' w'∧Arrives P (lone (b.at a (.code c::.inLoop c::k)) cs w) b k cs e a' w':=by
  intro n;induction n using Nat.strongRecOn with
  |_ n ih=>
   intro s a w hn hI;obtain⟨e,a₁,w₁,hq,harr⟩:=round s a w hI b (.inLoop c::k) cs;cases e with
   |normal=>
    obtain⟨s',hI₁,hlt⟩:=hq;obtain⟨e₂,a₂,w₂,hq₂,harr₂⟩:=ih (μ s') (hn▸hlt) s' a₁ w₁ rfl hI₁;exact⟨e₂,a₂,w₂,hq₂,.of_steps (Steps.trans harr (.one step_inLoop)) harr₂⟩
   |exit id=>exact⟨_,a₁,w₁,hq,.pass (x:=.inLoop c) rfl (fun _ _=>.inl (by simp)) harr⟩
   |goto l=>exact⟨_,a₁,w₁,hq,.pass (x:=.inLoop c) rfl (fun _ _=>.inl (by simp)) harr⟩
   |ret=>exact⟨_,a₁,w₁,hq,.pass (x:=.inLoop c) rfl (fun _ _=>.inl (by simp)) harr⟩
   |panic ch=>exact⟨_,a₁,w₁,hq,.pass (x:=.inLoop c) rfl (fun _ _=>.inl (by simp)) harr⟩
   |outgrown=>exact⟨_,a₁,w₁,hq,.pass (x:=.inLoop c) rfl (fun _ _=>.inl (by simp)) harr⟩
 obtain⟨e,a',w',hq,harr⟩:=key _ s0 a w rfl h₀;exact⟨e,a',w',hq,.of_steps (.one step_loop) harr⟩
theorem mI.trans{X X1:Ctx}{w w1:World}{h h1:List AObj}{K:List AV→List AObj→Prop}{a':Act}{w':World}(t:Tr X w h X1 w1 h1)(k:mI G X1 w1 h1 K a' w'):mI G X w h K a' w':=by
 obtain⟨env',h',X',k1,k2,k3,k4⟩:=k;exact⟨env',h',X',k1,k2,k3,t.trans k4⟩
theorem uU(hm:P.follows .mixedOrders=true):∀(c:Code) (ac:kN),jF rx th c=true→strip rx th c=some ac→∀(Q:Exit→List AV→List AObj→Prop) (env:List AV) (h:List AObj),awx P G ac Q env h→AW P G c Q env h
 | .skip,ac,hd,hs,Q,env,h,e=>by
   simp only[strip,aB]at hs;subst hs;intro X w a g r;exact wp_skip ⟨env,h,X,e,g,r,.refl _ _ _⟩
 | .region id ops false,ac,hd,hs,Q,env,h,e=>by
   simp only[strip]at hs;cases hr:lI (th id)with
   |true=>
    rw[hr]at hs;simp only[aB]at hs;subst hs;exact e
   |false=>
   rw[hr]at hs;simp only at hs;cases hl:bY .off ops ops.toList with
   |none=>simp[hl]at hs
   |some al=>
    simp only[hl,aB]at hs;subst hs;intro X w a g r;exact wp_region_list (lX ops.toList al hl env h X w a e g r (fun a' w' k=>k) (fun _ v a' w' ⟨env2,h2,X2,m1,m2,m3,m4⟩=>⟨env2,h2,X2,⟨v,rfl,m1⟩,m2,m3,m4⟩))
 | .region id ops true,ac,hd,hs,Q,env,h,e=>by
   simp only[strip]at hs;simp only[jF]at hd;cases hr:lI (th id)with
   |true=>
    rw[hr]at hs;simp only[aB]at hs;subst hs;exact e
   |false=>
   rw[hr]at hs hd;simp only at hs hd;cases hq:eS (th id)with
   |true=>
    rw[hq]at hs hd;simp only[bJo,aA]at hs hd;have he:=aTm (mY (th id)) ops.toList;generalize oC (mY (th id)) ops.toList=q at hs hd he;obtain⟨p,l⟩:=q;have hops:ops=p.toArray++l.toArray:=by
     apply oS;rw[he];simp
    split at hs
    ·rename_i al a' h2 h3;simp only[aB]at hs;subst hs;intro X w a g r;rw[hops];exact aFt hm hd.1 hd.2 h2 (hops▸h3) e g r (fun a' w' k=>k) (fun v a' w' ⟨env2,h2,X2,m1,m2,m3,m4⟩=>⟨env2,h2,X2,⟨v,rfl,m1⟩,m2,m3,m4⟩)
    ·cases hs
   |false=>
   rw[hq]at hs hd;simp only at hs hd;cases hl:bY (lH rx (th id)) ops (fT ops)with
   |none=>simp[hl]at hs
   |some al=>
    simp only[hl,aB]at hs;subst hs;intro X w a g r;exact bQi hm hd hl e g r (fun a' w' k=>k)
 | .seq x y,ac,hd,hs,Q,env,h,e=>by
   simp only[jF,aA]at hd;simp only[strip]at hs;cases hx:strip rx th x with
   |none=>simp[hx]at hs
   |some ax=>
   cases hy:strip rx th y with
   |none=>simp[hx,hy]at hs
   |some ay=>
    simp only[hx,hy,aB]at hs;subst hs;intro X w a g r;refine wp_seq (wp_mono (uU hm x ax hd.1 hx _ env h e X w a g r) ?_);intro e' a' w' k;cases e' with
    |normal=>
     obtain⟨env',h',X',k1,k2,k3,k4⟩:=k;exact wp_mono (uU hm y ay hd.2 hy _ env' h' k1 X' w' a' k2 k3) (fun e2 a2 w2 k5=>k5.trans k4)
    |_=>exact k
 | .cond c x y,ac,hd,hs,Q,env,h,e=>by
   simp only[jF,aA]at hd;simp only[strip]at hs;cases hx:strip rx th x with
   |none=>simp[hx]at hs
   |some ax=>
   cases hy:strip rx th y with
   |none=>simp[hx,hy]at hs
   |some ay=>
    simp only[hx,hy,aB]at hs;subst hs;intro X w a g r;have rc:=jG g r c;simp only[awx]at e;cases hc:aev G env c with
    |b t=>
     rw[hc]at e rc;have hv:=aJx rc;cases t with
     |true=>exact wp_cond_true hv (uU hm x ax hd.1 hx _ env h (e.1 rfl) X w a g r)
     |false=>exact wp_cond_false hv (uU hm y ay hd.2 hy _ env h (e.2 rfl) X w a g r)
    |_=>rw[hc]at e;exact e.elim
 | .block id c,ac,hd,hs,Q,env,h,e=>by
   simp only[jF]at hd;simp only[strip]at hs;cases hx:strip rx th c with
   |none=>simp[hx]at hs
   |some ax=>
    simp only[hx,aB]at hs;subst hs;intro X w a g r;refine wp_block (wp_mono (uU hm c ax hd hx _ env h e X w a g r) ?_);intro e' a' w' k;cases e' with
    |exit i=>
     simp only[Exit.inBlock];obtain⟨env',h',X',k1,k2,k3,k4⟩:=k;simp only[bOb,F0]at k1;split
     ·rename_i hi;rw[if_pos hi]at k1;exact⟨env',h',X',k1,k2,k3,k4⟩
     ·rename_i hi;rw[if_neg hi]at k1;exact⟨env',h',X',k1,k2,k3,k4⟩
    |_=>exact k
 | .loop c,ac,hd,hs,Q,env,h,e=>by
   simp only[jF]at hd;simp only[strip]at hs;cases hx:strip rx th c with
   |none=>simp[hx]at hs
   |some ax=>
    simp only[hx,aB]at hs;subst hs;intro X w a g r;simp only[awx,Loop]at e;obtain⟨S,I,μ,s0,h0,hround⟩:=e;refine aOz (S:=S×List AV×List AObj×Ctx) (fun s a' w'=>I s.1 s.2.1 s.2.2.1∧GH G s.2.2.2 w' s.2.2.1∧EnvOK G.ds s.2.2.2 w' s.2.2.1 s.2.1 a'∧Tr X w h s.2.2.2 w' s.2.2.1) (fun s=>μ s.1) (s0,env,h,X) ⟨h0,g,r,.refl _ _ _⟩ ?_;rintro⟨s1,env1,h1,X1⟩ a1 w1 ⟨i1,g1,r1,t1⟩;refine wp_mono (uU hm c ax hd hx _ env1 h1 (hround s1 env1 h1 i1) X1 w1 a1 g1 r1) ?_;intro e' a' w' k;cases e' with
    |normal=>
     obtain⟨env',h',X',⟨s',k1,k1'⟩,k2,k3,k4⟩:=k;exact⟨(s',env',h',X'),⟨k1,k2,k3,t1.trans k4⟩,k1'⟩
    |_=>exact k.trans t1
 | .exit id,ac,hd,hs,Q,env,h,e=>by
   simp only[strip,aB]at hs;subst hs;intro X w a g r;exact wp_exit ⟨env,h,X,e,g,r,.refl _ _ _⟩
 | .ret,ac,hd,hs,Q,env,h,e=>by
   simp only[strip,aB]at hs;subst hs;intro X w a g r;exact wp_ret ⟨env,h,X,e,g,r,.refl _ _ _⟩
 | .rangeFunc _ _ _ _,ac,hd,hs,Q,env,h,e=>by
   simp only[strip,aB]at hs;subst hs;exact e
 | .scope _,ac,hd,hs,Q,env,h,e=>by simp[strip]at hs
 | .label _,ac,hd,hs,Q,env,h,e=>by simp[strip]at hs
 | .goto _,ac,hd,hs,Q,env,h,e=>by simp[strip]at hs
 | .refuse _,ac,hd,hs,Q,env,h,e=>by simp[strip]at hs
end
mutual
def dJ:AV→AV→List Nat
 | .hs id _ _ _,.own .. => [id]
 | .agg xs,.agg rs=>finIdsL xs rs
 | .tup xs,.tup rs=>finIdsL xs rs
 |_,_=>[]
def finIdsL:List AV→List AV→List Nat
 |x::xs,r::rs=>dJ x r++finIdsL xs rs
 |_,_=>[]
end
mutual
def kH(h:List AObj):AV→AV→List Nat
 | .hs _ _ _ _,.own .. => []
 | .e0,.own .. => []
 | .agg xs,.agg rs=>finRchL h xs rs
 | .tup xs,.tup rs=>finRchL h xs rs
 |x,_=>eH dep h x
def finRchL(h:List AObj):List AV→List AV→List Nat
 |x::xs,r::rs=>kH h x r++finRchL h xs rs
 |_,_=>[]
end
mutual
def oM(h:List AObj):AV→AV→Prop
 | .hs id off n t,.own sz cells m=>t=false∧m=n∧∃cs,h[id]? = some (.arr false sz cs)∧off+n*sz≤cs.length∧cells=(cs.drop off).take (n*sz)∧persL cells=true
 | .e0,.own sz cells m=>cells=[]∧m=0
 | .agg xs,.agg rs=>finOKL h xs rs
 | .tup xs,.tup rs=>finOKL h xs rs
 |x,r=>r=gZ dep h x
def finOKL(h:List AObj):List AV→List AV→Prop
 | [],[]=>True
 |x::xs,r::rs=>oM h x r∧finOKL h xs rs
 |_,_=>False
end
def Fin(h:List AObj)(x r:AV):Prop:=(r=x∧pers x=true)∨(oM h x r∧(dJ x r).Nodup∧∀i∈dJ x r,i∉kH h x r)
def FB(X:Ctx)(ids:List Nat)(b:Nat):Prop:=X.F b∨∃id o,id∉ids∧X.ι id=some (b,o)
section
variable {P:Program} {G:Glob} {D:List Deferred} {X:Ctx} {w:World} {h:List AObj}
def aBr(X:Ctx)(ids:List Nat):List Nat:=ids.filterMap fun i=>(X.ι i).map (·.1)
theorem aJy(X:Ctx)(a b:List Nat):aBr X (a++b)=aBr X a++aBr X b:=by simp[aBr]
theorem aBq{X:Ctx}{ids:List Nat}{b:Nat}(hb:b∈aBr X ids):∃id∈ids,∃o,X.ι id=some (b,o):=by
 simp only[aBr,List.mem_filterMap,dG]at hb;obtain⟨id,hi,⟨c,o⟩,hc,rfl⟩:=hb;exact⟨id,hi,o,hc⟩
theorem C6(g:GH G X w h):∀{ids:List Nat},ids.Nodup→(aBr X ids).Nodup
 | [],_=>by simp[aBr]
 |id::ids,hn=>by
  rw[kT]at hn;have ih:=C6 g hn.2;simp only[aBr,mU];cases hb:X.ι id with
  |none=>simp only[Option.map_none];exact ih
  |some bo=>
   obtain⟨b,o⟩:=bo;simp only[hb,dO];rw[kT];refine⟨fun hm=>?_,ih⟩;obtain⟨id',hi',o',ho'⟩:=aBq (X:=X) (ids:=ids) hm;exact hn.1 (g.inj _ _ _ _ _ hb ho'▸hi')
theorem jY(g:GH G X w h)(ids:List Nat){x:AV}{v:Value}(r:RV X w h x v)(hd:∀i∈ids,i∉eH dep h x):RR (FB X ids) w (gZ dep h x) v []:=by
 refine RR.val ((K7 g dep x v r).monoF ?_);rintro b (hb|⟨id,hi,o,ho⟩)
 ·exact .inl hb
 ·exact .inr ⟨id,o,fun hm=>hd id hm hi,ho⟩
mutual
theorem aXn(g:GH G X w h)(ids:List Nat):∀(x r:AV) (v:Value),oM h x r→RV X w h x v→(∀i∈ids,i∉kH h x r)→RR (FB X ids) w r v (aBr X (dJ x r))
 | .hs id off n t,r,v,e,rv,hd=>by
   have gen:oM h (.hs id off n t) r=(r=gZ dep h (.hs id off n t))→dJ (.hs id off n t) r=[]→kH h (.hs id off n t) r=eH dep h (.hs id off n t)→RR (FB X ids) w r v (aBr X (dJ (.hs id off n t) r)):=by
    intro e1 e2 e3;rw[e1]at e;rw[e2,e];rw[e3]at hd;exact jY g ids rv hd
   cases r with
   |own sz cells m=>
    clear gen;simp only[oM]at e;obtain⟨rfl,rfl,cs,hid,hle,rfl,hp⟩:=e;simp only[dJ,RR];cases rv with
    |dead hr hd' _=>simp[AV.refs]at hr;subst hr;rw[hid]at hd';cases hd'
    |hs0 hid' hf ho=>exact .inr ⟨by simp,rfl,_,rfl⟩
    | @hs _ _ _ _ fz' s' cells' b o cap T N hid' hι hsh hn hcc hN htt hff=>
      rw[hid]at hid';cases hid';have ok:=g.objs _ _ hid;cases ok with
      |absent h0=>rw[h0]at hι;cases hι
      | @arr _ _ _ b' o' cur T' fr h0 hb hf1 hf2 hl h1 hr hc1=>
      rw[h0]at hι;cases hι;obtain⟨hF,rfl⟩:=hf2 rfl;have hNs:N=cur.size:=by simp[World.shape?,hb]at hsh;exact hsh.2.symm
      subst hNs;refine .inl ⟨b,o+off,cur,T',cap,by simp[aBr,h0],rfl,hb,by simp;omega,hcc,hN,hc1,?_⟩
      ·intro j y u hy hu;have hy':=hy;rw[dY]at hy;split at hy
       ·rw[eL]at hy;exact(hr (off+j) y u hy (by rw[← eK];exact hu)).pers (iN hp j y hy') (fun b hb=>.inl hb) (fun _ _=>rfl)
       ·cases hy
   |_=>exact gen rfl rfl rfl
 | .e0,r,v,e,rv,hd=>by
   have gen:oM h .e0 r=(r=gZ dep h .e0)→dJ .e0 r=[]→kH h .e0 r=eH dep h .e0→RR (FB X ids) w r v (aBr X (dJ .e0 r)):=by
    intro e1 e2 e3;rw[e1]at e;rw[e2,e];rw[e3]at hd;exact jY g ids rv hd
   cases r with
   |own sz cells m=>
    clear gen;simp only[oM]at e;obtain⟨rfl,rfl⟩:=e;simp only[dJ,RR];cases rv with
    |e0 a=>exact .inr ⟨trivial,trivial,a,rfl⟩
    |dead hr _ _=>simp[AV.refs]at hr
   |_=>exact gen rfl rfl rfl
 | .agg xs,r,v,e,rv,hd=>by
   have gen:oM h (.agg xs) r=(r=gZ dep h (.agg xs))→dJ (.agg xs) r=[]→kH h (.agg xs) r=eH dep h (.agg xs)→RR (FB X ids) w r v (aBr X (dJ (.agg xs) r)):=by
    intro e1 e2 e3;rw[e1]at e;rw[e2,e];rw[e3]at hd;exact jY g ids rv hd
   cases r with
   |agg rs=>
    clear gen;simp only[oM]at e;simp only[dJ];cases rv with
    | @agg _ vs hl h1 hr=>exact⟨vs,rfl,h1,finL_ok g ids xs rs vs.toList e (by simpa using hl) (fun j a v ha hv=>hr j a v ha (by simpa using hv)) hd⟩
    |dead hr _ _=>simp[AV.refs]at hr
   |_=>exact gen rfl rfl rfl
 | .tup xs,r,v,e,rv,hd=>by
   have gen:oM h (.tup xs) r=(r=gZ dep h (.tup xs))→dJ (.tup xs) r=[]→kH h (.tup xs) r=eH dep h (.tup xs)→RR (FB X ids) w r v (aBr X (dJ (.tup xs) r)):=by
    intro e1 e2 e3;rw[e1]at e;rw[e2,e];rw[e3]at hd;exact jY g ids rv hd
   cases r with
   |tup rs=>
    clear gen;simp only[oM]at e;simp only[dJ];cases rv with
    | @tup _ vs hl hr=>exact⟨vs,rfl,finL_ok g ids xs rs vs.toList e (by simpa using hl) (fun j a v ha hv=>hr j a v ha (by simpa using hv)) hd⟩
    |dead hr _ _=>simp[AV.refs]at hr
   |_=>exact gen rfl rfl rfl
 | .u,r,v,e,rv,hd=>by
   have e':r=gZ dep h (.u):=by cases r<;>exact e
   have e2:dJ (.u) r=[]:=by cases r<;>rfl
   have e3:kH h (.u) r=eH dep h (.u):=by cases r<;>rfl
   rw[e2,e'];rw[e3]at hd;exact jY g ids rv hd
 | .b x,r,v,e,rv,hd=>by
   have e':r=gZ dep h (.b x):=by cases r<;>exact e
   have e2:dJ (.b x) r=[]:=by cases r<;>rfl
   have e3:kH h (.b x) r=eH dep h (.b x):=by cases r<;>rfl
   rw[e2,e'];rw[e3]at hd;exact jY g ids rv hd
 | .i k n,r,v,e,rv,hd=>by
   have e':r=gZ dep h (.i k n):=by cases r<;>exact e
   have e2:dJ (.i k n) r=[]:=by cases r<;>rfl
   have e3:kH h (.i k n) r=eH dep h (.i k n):=by cases r<;>rfl
   rw[e2,e'];rw[e3]at hd;exact jY g ids rv hd
 | .s l,r,v,e,rv,hd=>by
   have e':r=gZ dep h (.s l):=by cases r<;>exact e
   have e2:dJ (.s l) r=[]:=by cases r<;>rfl
   have e3:kH h (.s l) r=eH dep h (.s l):=by cases r<;>rfl
   rw[e2,e'];rw[e3]at hd;exact jY g ids rv hd
 | .p v',r,v,e,rv,hd=>by
   have e':r=gZ dep h (.p v'):=by cases r<;>exact e
   have e2:dJ (.p v') r=[]:=by cases r<;>rfl
   have e3:kH h (.p v') r=eH dep h (.p v'):=by cases r<;>rfl
   rw[e2,e'];rw[e3]at hd;exact jY g ids rv hd
 | .sl cells n,r,v,e,rv,hd=>by
   have e':r=gZ dep h (.sl cells n):=by cases r<;>exact e
   have e2:dJ (.sl cells n) r=[]:=by cases r<;>rfl
   have e3:kH h (.sl cells n) r=eH dep h (.sl cells n):=by cases r<;>rfl
   rw[e2,e'];rw[e3]at hd;exact jY g ids rv hd
 | .own sz cells n,r,v,e,rv,hd=>by
   have e':r=gZ dep h (.own sz cells n):=by cases r<;>exact e
   have e2:dJ (.own sz cells n) r=[]:=by cases r<;>rfl
   have e3:kH h (.own sz cells n) r=eH dep h (.own sz cells n):=by cases r<;>rfl
   rw[e2,e'];rw[e3]at hd;exact jY g ids rv hd
 | .ptr id off,r,v,e,rv,hd=>by
   have e':r=gZ dep h (.ptr id off):=by cases r<;>exact e
   have e2:dJ (.ptr id off) r=[]:=by cases r<;>rfl
   have e3:kH h (.ptr id off) r=eH dep h (.ptr id off):=by cases r<;>rfl
   rw[e2,e'];rw[e3]at hd;exact jY g ids rv hd
 | .box cells off,r,v,e,rv,hd=>by
   have e':r=gZ dep h (.box cells off):=by cases r<;>exact e
   have e2:dJ (.box cells off) r=[]:=by cases r<;>rfl
   have e3:kH h (.box cells off) r=eH dep h (.box cells off):=by cases r<;>rfl
   rw[e2,e'];rw[e3]at hd;exact jY g ids rv hd
 | .mp id,r,v,e,rv,hd=>by
   have e':r=gZ dep h (.mp id):=by cases r<;>exact e
   have e2:dJ (.mp id) r=[]:=by cases r<;>rfl
   have e3:kH h (.mp id) r=eH dep h (.mp id):=by cases r<;>rfl
   rw[e2,e'];rw[e3]at hd;exact jY g ids rv hd
 | .mapv ks vs,r,v,e,rv,hd=>by
   have e':r=gZ dep h (.mapv ks vs):=by cases r<;>exact e
   have e2:dJ (.mapv ks vs) r=[]:=by cases r<;>rfl
   have e3:kH h (.mapv ks vs) r=eH dep h (.mapv ks vs):=by cases r<;>rfl
   rw[e2,e'];rw[e3]at hd;exact jY g ids rv hd
 | .fn f first capt,r,v,e,rv,hd=>by
   have e':r=gZ dep h (.fn f first capt):=by cases r<;>exact e
   have e2:dJ (.fn f first capt) r=[]:=by cases r<;>rfl
   have e3:kH h (.fn f first capt) r=eH dep h (.fn f first capt):=by cases r<;>rfl
   rw[e2,e'];rw[e3]at hd;exact jY g ids rv hd
theorem finL_ok(g:GH G X w h)(ids:List Nat):∀(xs rs:List AV) (vs:List Value),finOKL h xs rs→xs.length=vs.length→(∀(j:Nat) (a:AV) (v:Value),xs[j]? = some a→vs[j]? = some v→RV X w h a v)→(∀i∈ids,i∉finRchL h xs rs) →
 RRs (FB X ids) w rs vs (aBr X (finIdsL xs rs))
 | [],[],[],e,hl,hr,hd=>by simp[finIdsL,aBr,RRs]
 |x :: xs,r::rs,v::vs,e,hl,hr,hd=>by
  simp only[finOKL]at e;simp only[finRchL]at hd;simp only[finIdsL,aJy];exact⟨_,_,rfl,aXn g ids x r v e.1 (hr 0 x v rfl rfl) (fun i hi hm=>hd i hi (dK _ hm)),
   finL_ok g ids xs rs vs e.2 (by simpa using hl) (fun j a v ha hv=>hr (j+1) a v (by simpa using ha) (by simpa using hv)) (fun i hi hm=>hd i hi (eO _ hm))⟩
 | [],r::rs,vs,e,hl,hr,hd=>by simp[finOKL]at e
 |x::xs,[],vs,e,hl,hr,hd=>by simp[finOKL]at e
 | [],[],_::_,e,hl,hr,hd=>by simp at hl
 |_::_,_::_,[],e,hl,hr,hd=>by simp at hl
end
mutual
theorem aBf:∀(x r:AV),oM h x r→∀i∈dJ x r,∃sz cs,h[i]? = some (.arr false sz cs)
 | .hs id off n t,r,e,i,hi=>by
   cases r with
   |own sz cells m=>
    simp only[oM]at e;obtain⟨rfl,rfl,cs,hid,_⟩:=e;simp only[dJ,aV]at hi;subst hi;exact⟨_,_,hid⟩
   |_=>simp[dJ]at hi
 | .agg xs,r,e,i,hi=>by
   cases r with
   |agg rs=>simp only[oM]at e;simp only[dJ]at hi;exact finL_live xs rs e i hi
   |_=>simp[dJ]at hi
 | .tup xs,r,e,i,hi=>by
   cases r with
   |tup rs=>simp only[oM]at e;simp only[dJ]at hi;exact finL_live xs rs e i hi
   |_=>simp[dJ]at hi
 | .e0,r,e,i,hi=>by cases r<;>simp[dJ]at hi
 | .u,r,e,i,hi=>by cases r<;>simp[dJ]at hi
 | .b x,r,e,i,hi=>by cases r<;>simp[dJ]at hi
 | .i k n,r,e,i,hi=>by cases r<;>simp[dJ]at hi
 | .s l,r,e,i,hi=>by cases r<;>simp[dJ]at hi
 | .p v',r,e,i,hi=>by cases r<;>simp[dJ]at hi
 | .sl cells n,r,e,i,hi=>by cases r<;>simp[dJ]at hi
 | .own sz cells n,r,e,i,hi=>by cases r<;>simp[dJ]at hi
 | .ptr id off,r,e,i,hi=>by cases r<;>simp[dJ]at hi
 | .box cells off,r,e,i,hi=>by cases r<;>simp[dJ]at hi
 | .mp id,r,e,i,hi=>by cases r<;>simp[dJ]at hi
 | .mapv ks vs,r,e,i,hi=>by cases r<;>simp[dJ]at hi
 | .fn f first capt,r,e,i,hi=>by cases r<;>simp[dJ]at hi
theorem finL_live:∀(xs rs:List AV),finOKL h xs rs→∀i∈finIdsL xs rs,∃sz cs,h[i]? = some (.arr false sz cs)
 | [],[],e,i,hi=>by simp[finIdsL]at hi
 |x::xs,r::rs,e,i,hi=>by
  simp only[finOKL]at e;simp only[finIdsL,bM]at hi;rcases hi with hi|hi
  ·exact aBf x r e.1 i hi
  ·exact finL_live xs rs e.2 i hi
 | [],_::_,e,i,hi=>by simp[finOKL]at e
 |_::_,[],e,i,hi=>by simp[finOKL]at e
end
def aGs(P:Program)(env:List AV)(h:List AObj):ResultVar→Option AV
 | .tmp t=>some (env.getD t .u)
 | .cell a T=>zX P T h (env.getD a .u)
def G8(P:Program)(env:List AV)(h:List AObj):List ResultVar→Option (List AV)
 | []=>some []
 |r::rs=>match aGs P env h r,G8 P env h rs with
  |some x,some l=>some (x::l)
  |_,_=>Option.none
def R4(P:Program)(rs:List ResultVar)(env:List AV)(h:List AObj):Option AV:=
 match G8 P env h rs with
 |some [x]=>some x
 |some l=>some (.tup l)
 |Option.none=>Option.none
def aLo(tmps:Array Value):ResultVar→Go.Sem Value
 | .tmp t=>pure (tmps.getD t undef)
 | .cell b t=>do loadVar t (← asAddr (tmps.getD b undef))
theorem aPr(fn:Func)(tmps:Array Value):results fn tmps=(do
 let vs ← fn.results.mapM (aLo tmps)
 pure (if h:vs.size=1 then vs[0]else .tuple vs)):=rfl
theorem bHq{env:List AV}{a:Act}(g:GH G X w h)(r:EnvOK D X w h env a)(rv:ResultVar){x:AV}(e:aGs P env h rv=some x) :
 ∃v,(aLo a.tmps rv).run P w=.ok v w∧RV X w h x v:=by
 cases rv with
 |tmp t=>
  simp only[aGs,aB]at e;subst e;exact⟨_,rfl,jG g r (.tmp t)⟩
 |cell b T=>
  simp only[aGs]at e;have rb:=jG g r (.tmp b);simp only[aev,Act.eval]at rb;obtain⟨u,hu,ru⟩:=aWf g rb e;refine⟨u,?_,ru⟩;have:∃ad,a.tmps.getD b undef=.pointer (some ad):=by
   unfold zX at e;cases ho:aOm h (env.getD b .u)with
   |none=>rw[ho]at e;cases e
   |some q=>
    obtain⟨cells,off⟩:=q;obtain⟨b',o,cs,T',fr,hv,_⟩:=bAl g rb ho;exact⟨_,hv⟩
  obtain⟨ad,had⟩:=this;simp only[aLo];rw[had]at hu ⊢;simpa[Instr.loadAt,Instr.sureAddr,asAddr]using hu
theorem aOl{env:List AV}{a:Act}(g:GH G X w h)(r:EnvOK D X w h env a):∀(rs:List ResultVar) (l:List AV),G8 P env h rs=some l →
 ∃vs:List Value,(rs.mapM (aLo a.tmps)).run P w=.ok vs w∧l.length=vs.length∧∀(j:Nat) (x:AV) (v:Value),l[j]? = some x→vs[j]? = some v→RV X w h x v
 | [],l,e=>by
   simp only[G8,aB]at e;subst e;exact⟨[],by simp,rfl,by simp⟩
 |rv::rs,l,e=>by
  simp only[G8]at e;cases h1:aGs P env h rv with
  |none=>simp[h1]at e
  |some x=>
  cases h2:G8 P env h rs with
  |none=>simp[h1,h2]at e
  |some l'=>
   simp only[h1,h2,aB]at e;subst e;obtain⟨v,hv,rx⟩:=bHq g r rv h1;obtain⟨vs,hvs,hl,hr⟩:=aOl g r rs l' h2;refine⟨v::vs,?_,by simp[hl],?_⟩
   ·rw[List.mapM_cons,cD,hv,bO,cD,hvs];rfl
   ·intro j y u hy hu;cases j with
    |zero=>simp at hy hu;exact hy▸hu▸rx
    |succ j=>exact hr j y u (by simpa using hy) (by simpa using hu)
theorem aCa{env:List AV}{a:Act}{fn:Func}(g:GH G X w h)(r:EnvOK D X w h env a){x:AV}(e:R4 P fn.results.toList env h=some x):∃v,(results fn a.tmps).run P w=.ok v w∧RV X w h x v:=by
 unfold R4 at e;cases hl:G8 P env h fn.results.toList with
 |none=>simp[hl]at e
 |some l=>
  obtain⟨vs,hvs,hlen,hr⟩:=aOl g r _ l hl;have hrun:(results fn a.tmps).run P w=.ok (if h:vs.toArray.size=1 then vs.toArray[0]else .tuple vs.toArray) w:=by
   rw[aPr,cD,Array.mapM_eq_mapM_toList,Sem.run_map,hvs];rfl
  rw[hrun];rw[hl]at e;clear hl hvs hrun;cases l with
  |nil=>
   cases vs with
   |cons=>simp at hlen
   |nil=>
    simp only[aB]at e;subst e;exact⟨_,rfl,by simpa using .tup (vs := #[]) rfl (by simp)⟩
  |cons y l=>
   cases vs with
   |nil=>simp at hlen
   |cons v vs=>
    cases l with
    |nil=>
     have hvs0:vs=[]:=List.eq_nil_of_length_eq_zero (by simpa using hlen.symm);subst hvs0;simp only[aB]at e;subst e;exact⟨v,by simp,hr 0 y v rfl rfl⟩
    |cons z l=>
     simp only[aB]at e;subst e;refine⟨_,rfl,?_⟩;have:(v::vs).toArray.size≠1:=by simp at hlen ⊢;intro h0;rw[h0]at hlen;simp at hlen
     rw[dif_neg this];exact .tup (by simpa using hlen) (fun j a v ha hv=>hr j a v ha (by simpa using hv))
end
theorem bUf{P:Program}{G:Glob}{f:FuncId}{fn:Func}{c:Code}{args:List AV}{r:AV}(hf:P.funcs[f]? = some fn)(hb:fn.body=some c)(hcal:iC P f=true)(hG:oR G)
 (h:AW P (pl G) c (fun e env h=>(e=.normal∨e=.ret)∧∃x,R4 P fn.results.toList env h=some x∧Fin h x r) (args++List.replicate (fn.ntmps-args.length) .u) []):Ctr P G f args r:=by
 refine⟨hcal,hG,?_⟩;intro F w vs hF hgl hl hr;have g0:GH G (.none F) w []:=⟨fun id ob h=>by simp at h,fun id bo h=>by simp[Ctx.none]at h,fun id id' b o o' h=>by simp[Ctx.none]at h,fun id b o h=>by simp[Ctx.none]at h,hF,hgl⟩;have r0:EnvOK (pl G).ds (.none F) w [] (args++List.replicate (fn.ntmps-args.length) .u) {tmps:=vs++Array.replicate (fn.ntmps-vs.size) undef,defers:=[]}:=by
  refine⟨rfl,by simp[hl],?_⟩;intro j x v hx hv;by_cases hj:j<args.length
  ·rw[aG hj]at hx;rw[dU (by omega)]at hv;exact hr j x v hx hv
  ·rw[aR (by omega),mT]at hx;split at hx
   ·cases hx;exact .u _
   ·cases hx
 refine calls_of_wp hf hb (wp_mono (h (.none F) w _ g0 r0) ?_);rintro e a' w' ⟨env',h',X',hk,g',r',t⟩;obtain⟨he,x,hres,hfin⟩:=aIh hk;obtain⟨v,hrun,rx⟩:=aCa g' r' hres;have hgr:J2 w w':=⟨fun b hb=>t.step.frame b hb (fun id o e=>by simp[Ctx.none]at e),t.step.size,t.step.os,t.step.tape,t.step.output⟩;have hι:∀id b o,X'.ι id=some (b,o)→w.heap.size≤b:=by
  intro id b o hb;rcases t.step.new id b o hb with h|⟨_,_,h⟩
  ·exact h
  ·simp[Ctx.none]at h
 have hXF:∀b,X'.F b→F b∨w.heap.size≤b:=by
  intro b hb;rcases t.step.fnew b hb with h|h|⟨_,_,h⟩
  ·exact .inl h
  ·exact .inr h
  ·simp[Ctx.none]at h
 have hFB:∀(ids:List Nat),(∀b,F b→FB X' ids b)∧(∀b,FB X' ids b→F b∨w.heap.size≤b)∧(∀b,FB X' ids b→b<w'.heap.size):=by
  intro ids;refine⟨fun b hb=>.inl (t.ext.fr b hb),?_,?_⟩
  ·rintro b (hb|⟨id,o,_,ho⟩)
   ·exact hXF b hb
   ·exact .inr (hι _ _ _ ho)
  ·rintro b (hb|⟨id,o,_,ho⟩)
   ·exact g'.fbnd b hb
   ·exact g'.bnd _ _ _ ho
 have hR:∃v' F' bs,Ending.returned v=.returned v'∧J2 w w'∧(∀b,F b→F' b)∧(∀b,F' b→F b∨w.heap.size≤b)∧(∀b,F' b→b<w'.heap.size)∧RR F' w' r v' bs∧bs.Nodup∧∀b∈bs,¬F' b∧w.heap.size≤b:=by
  rcases hfin with⟨rfl,hp⟩|⟨hok,hnd,hdis⟩
  ·exact⟨v,FB X' [],[],rfl,hgr,(hFB []).1,(hFB []).2.1,(hFB []).2.2,RR.val (rx.pers hp (fun b hb=>.inl hb) (fun _ _=>rfl)),fI,by simp⟩
  ·refine⟨v,FB X' (dJ x r),aBr X' (dJ x r),rfl,hgr,(hFB _).1,(hFB _).2.1,(hFB _).2.2,aXn g' _ x r v hok rx hdis,C6 g' hnd,?_⟩;intro b hb;obtain⟨id,hi,o,ho⟩:=aBq hb;refine⟨?_,hι _ _ _ ho⟩;rintro(hF'|⟨id',o',hn,ho'⟩)
   ·obtain⟨sz,cs,hid⟩:=aBf x r hok id hi;have ok:=g'.objs _ _ hid;cases ok with
    |arr h0 h1 h2 h3=>rw[h0]at ho;cases ho;exact(h3 rfl).1 hF'
    |absent h0=>rw[h0]at ho;cases ho
   ·exact hn (g'.inj _ _ _ _ _ ho ho'▸hi)
 rcases he with rfl|rfl
 ·exact⟨r'.defers,v,hrun,hR⟩
 ·exact⟨r'.defers,v,hrun,hR⟩
theorem qV{rx:Bool}{th:Nat→Option TH}{P:Program}(hm:P.follows .mixedOrders=true){G:Glob}{f:FuncId}{fn:Func}{c:Code}{ac:kN}{args:List AV}{r:AV}(hf:P.funcs[f]? = some fn)(hb:fn.body=some c)(hcal:iC P f=true)(hd:jF rx th c=true)(hs:strip rx th c=some ac)(hG:oR G)
 (h:awx P (pl G) ac (fun e env h=>(e=.normal∨e=.ret)∧∃x,R4 P fn.results.toList env h=some x∧Fin h x r) (args++List.replicate (fn.ntmps-args.length) .u) []):Ctr P G f args r:=
 bUf hf hb hcal hG (uU hm c ac hd hs _ _ _ h)
abbrev pmd(g:Glob)(v:Value):Md:=⟨g,fun v' _ _=>v'=v,[]⟩
theorem bMq{P:Program}{G:Glob}{f:FuncId}{fn:Func}{c:Code}{args:List AV}{v:Value}(hf:P.funcs[f]? = some fn)(hb:fn.body=some c)(hcal:iC P f=true)(hG:oR G)
 (h:AW P (pmd G v) c (fun _ _ _=>False) (args++List.replicate (fn.ntmps-args.length) .u) []):cBg P G f args v:=by
 refine⟨hcal,hG,?_⟩;intro F w vs hF hgl hl hr;have g0:GH G (.none F) w []:=⟨fun id ob h=>by simp at h,fun id bo h=>by simp[Ctx.none]at h,fun id id' b o o' h=>by simp[Ctx.none]at h,fun id b o h=>by simp[Ctx.none]at h,hF,hgl⟩;have r0:EnvOK (pmd G v).ds (.none F) w [] (args++List.replicate (fn.ntmps-args.length) .u) {tmps:=vs++Array.replicate (fn.ntmps-vs.size) undef,defers:=[]}:=by
  refine⟨rfl,by simp[hl],?_⟩;intro j x v hx hv;by_cases hj:j<args.length
  ·rw[aG hj]at hx;rw[dU (by omega)]at hv;exact hr j x v hx hv
  ·rw[aR (by omega),mT]at hx;split at hx
   ·cases hx;exact .u _
   ·cases hx
 refine calls_of_wp hf hb (wp_mono (h (.none F) w _ g0 r0) ?_);rintro e a' w' ⟨env',h',X',hk,g',r',t⟩;cases e with
 |panic ch=>
  obtain⟨v',rfl,rfl⟩:=hk;exact⟨r'.defers,rfl,⟨fun b hb=>t.step.frame b hb (fun id o e=>by simp[Ctx.none]at e),t.step.size,t.step.os,t.step.tape,t.step.output⟩⟩
 |_=>exact hk.elim
theorem aPm{rx:Bool}{th:Nat→Option TH}{P:Program}(hm:P.follows .mixedOrders=true){G:Glob}{f:FuncId}{fn:Func}{c:Code}{ac:kN}{args:List AV}{v:Value}(hf:P.funcs[f]? = some fn)(hb:fn.body=some c)(hcal:iC P f=true)(hd:jF rx th c=true)(hs:strip rx th c=some ac)(hG:oR G)
 (h:awx P (pmd G v) ac (fun _ _ _=>False) (args++List.replicate (fn.ntmps-args.length) .u) []):cBg P G f args v:=
 bMq hf hb hcal hG (uU hm c ac hd hs _ _ _ h)
section
variable (P:Program) (G:Md) (dr:Option DR)
def fG(op:Op)(d:Option Nat)(os:List gA)(K:List AV→List AObj→Prop)(env:List AV)(h:List AObj):Prop:=
 pS P G dr op (fun r h'=>dN P G dr os K (iV env d r) h') env h
def pM(x:Option AV)(d:Option Nat)(os:List gA)(K:List AV→List AObj→Prop)(env:List AV)(h:List AObj):Prop:=
 match x with
 |some v=>dN P G dr os K (iV env d v) h
 |Option.none=>False
def aYy(x:Option (List AObj))(d:Option Nat)(os:List gA)(K:List AV→List AObj→Prop)(env:List AV):Prop:=
 match x with
 |some h'=>dN P G dr os K (iV env d .u) h'
 |Option.none=>False
def oE(x:Option (AV×List AObj))(d:Option Nat)(os:List gA)(K:List AV→List AObj→Prop)(env:List AV):Prop:=
 match x with
 |some (v,h')=>dN P G dr os K (iV env d v) h'
 |Option.none=>False
def bRk(fv:AV)(args:List AV)(d:Option Nat)(os:List gA)(K:List AV→List AObj→Prop)(env:List AV)(h:List AObj):Prop:=
 match fv with
 | .fn f first capt=>G5 P G (fun v h'=>G.pan v env h') dr.isSome f (first++args++capt) h (fun r h'=>dN P G dr os K (iV env d r) h')
 |_=>False
def tM(f:FuncId)(A:List AV)(d:Option Nat)(os:List gA)(K:List AV→List AObj→Prop)(env:List AV)(h:List AObj):Prop:=
 G5 P G (fun v h'=>G.pan v env h') dr.isSome f A h (fun r h'=>dN P G dr os K (iV env d r) h')
def nP(c:AV)(want:Bool)(op:Op)(d:Option Nat)(os:List gA)(K:List AV→List AObj→Prop)(env:List AV)(h:List AObj):Prop:=
 tH (T7 c want) (fG P G dr op d os K env h) (dN P G dr os K (iV env d (.tup [])) h)
def U2(c:AV)(a b:kN)(Q:Exit→List AV→List AObj→Prop)(env:List AV)(h:List AObj):Prop:=
 tH c (awx P G a Q env h) (awx P G b Q env h)
end
section
variable {P:Program} {G:Md} {dr:Option DR} {d:Option Nat} {os:List gA} {K:List AV→List AObj→Prop} {env:List AV} {h:List AObj} {Q:Exit→List AV→List AObj→Prop}
theorem aIm:dN P G dr [] K env h=K env h:=rfl
theorem bIr{op:Op}{K:AV→List AObj→Prop}:aPp P G dr false op K env h=pS P G dr op K env h:=by
 cases op with
 |call c=>obtain⟨ce,as,ts⟩:=c;cases ce<;>rfl
 |_=>rfl
theorem bDx{op:Op}:dN P G dr (⟨d,op,none,false⟩::os) K env h=fG P G dr op d os K env h:=by simp only[dN,aRb,true_and,bIr];rfl
theorem aVh{op:Op}{t:Nat}{want:Bool}:dN P G dr (⟨d,op,some (t,want),false⟩::os) K env h=nP P G dr (env.getD t .u) want op d os K env h:=by simp only[dN,aRb,true_and,bIr];rfl
def ckV(P:Program)(G:Md)(N:DR)(op:Op)(d:Option Nat)(os:List gA)(K:List AV→List AObj→Prop)(env:List AV)(h:List AObj):Prop:=
 match op with
 | .buildSlice T len ps=>pM P G (some N) (aRl P (aev G env) T len ps) d os K env h
 | .call ⟨.value f,as,ts⟩=>bSt P G N ⟨.value f,as,ts⟩ (fun r h'=>dN P G (some N) os K (iV env d r) h') env h
 |op=>aBn G N op env∧fG P G (some N) op d os K env h
theorem bUz{op:Op}{N:DR}:dN P G (some N) (⟨d,op,none,true⟩::os) K env h=ckV P G N op d os K env h:=by
 cases op with
 |buildSlice T len ps=>
  have e:dN P G (some N) (⟨d,.buildSlice T len ps,none,true⟩::os) K env h=(True∧F9 ((aRl P (aev G env) T len ps).map fun v=>(v,h)) (fun r h'=>dN P G (some N) os K (iV env d r) h')):=rfl;rw[e,ckV,true_and];cases aRl P (aev G env) T len ps<;>rfl
 |call c=>
  obtain⟨ce,as,ts⟩:=c;cases ce with
  |value f=>
   have e:dN P G (some N) (⟨d,.call ⟨.value f,as,ts⟩,none,true⟩::os) K env h=(True∧bSt P G N ⟨.value f,as,ts⟩ (fun r h'=>dN P G (some N) os K (iV env d r) h') env h):=rfl;rw[e,true_and];rfl
  |_=>rfl
 |_=>rfl
def cAj(P:Program)(G:Md)(N:DR)(f:FuncId)(A:List AV)(d:Option Nat)(os:List gA)(K:List AV→List AObj→Prop)(env:List AV)(h:List AObj):Prop:=
 ∃x h',ACalls P G f A h (fun x1 h1=>x1=x∧h1=h')∧nK N h h'∧dN P G (some N) os K (iV env d x) h'
def cFp(P:Program)(G:Md)(N:DR)(fv:AV)(args:List AV)(d:Option Nat)(os:List gA)(K:List AV→List AObj→Prop)(env:List AV)(h:List AObj):Prop:=
 match fv with
 | .fn f first capt=>cAj P G N f (first++args++capt) d os K env h
 |_=>False
theorem aWq{fx:Operand}{args:Array Operand}{tys:Array TypeId}{N:DR}:ckV P G N (.call ⟨.value fx,args,tys⟩) d os K env h=cFp P G N (aev G env fx) (args.toList.map (aev G env)) d os K env h:=by
 rw[ckV];simp only[bSt,fY,nR,cFp,cAj];cases aev G env fx<;>simp only[G5,aE,if_false,false_and,exists_false];have q:∀(f:FuncId) (A:List AV) (K:AV→List AObj→Prop),(ACalls P G.g f A h K∨rI P G.g f A h fun _ _=>False)=ACalls P G.g f A h K:=fun f A K=>propext ⟨fun a=>a.elim id rI.none,.inl⟩;simp only[q]
theorem cAi{f:FuncId}{a b args:List AV}{N:DR}:cFp P G N (.fn f a b) args d os K env h=cAj P G N f (a++args++b) d os K env h:=rfl
def asl:Option (AV×List AObj)→Option AV
 |some (.hs _ _ n _,[.arr _ _ cells])=>if 0<n∧persL cells=true then some (.sl cells n)else Option.none
 |_=>Option.none
theorem bHo{i o n sz:Nat}{t fz:Bool}{cells:List AV}:asl (some (.hs i o n t,[.arr fz sz cells]))=if 0<n∧persL cells=true then some (.sl cells n)else Option.none:=rfl
theorem bFk{op:Op}:nP P G dr (.b true) true op d os K env h=fG P G dr op d os K env h:=by simp[nP,T7,tH]
theorem bFo{op:Op}:nP P G dr (.b false) false op d os K env h=fG P G dr op d os K env h:=by simp[nP,T7,tH]
theorem bFl{op:Op}:nP P G dr (.b true) false op d os K env h=dN P G dr os K (iV env d (.tup [])) h:=by simp[nP,T7,tH]
theorem bFn{op:Op}:nP P G dr (.b false) true op d os K env h=dN P G dr os K (iV env d (.tup [])) h:=by simp[nP,T7,tH]
theorem bFm{op:Op}{want:Bool}:nP P G dr (.tup []) want op d os K env h=dN P G dr os K (iV env d (.tup [])) h:=by simp[nP,T7,tH]
theorem O7{op:Op}{x want:Bool}(h1:x=want→fG P G dr op d os K env h)(h2:x=(!want)→dN P G dr os K (iV env d (.tup [])) h):nP P G dr (.b x) want op d os K env h:=by
 cases x<;>cases want<;>simp_all[nP,T7,tH]
theorem bSu:awx P G .skip Q env h=Q .normal env h:=rfl
theorem bBo{ops:List gA}:awx P G (.region ops) Q env h=dN P G none ops (Q .normal) env h:=rfl
theorem bSw{ops:List gA}:awx P G (.draw Option.none ops) Q env h=dN P G (some ⟨h.length,[]⟩) ops (Q .normal) env h:=rfl
theorem bLo{N k:Nat}{L:List Nat}{v m s:Bool}{xs zs:List Nat}{ops:List gA}:awx P G (.draw (some ⟨some N,L,v,m,s,xs,zs,k⟩) ops) Q env h=dN P G (some ⟨N,L⟩) ops (Q .normal) env h:=rfl
theorem bLp{k:Nat}{L:List Nat}{v m s:Bool}{xs zs:List Nat}{ops:List gA}:awx P G (.draw (some ⟨none,L,v,m,s,xs,zs,k⟩) ops) Q env h=dN P G (some ⟨h.length,L⟩) ops (Q .normal) env h:=rfl
theorem cBz{a b:kN}:awx P G (.seq a b) Q env h=awx P G a (tW (awx P G b Q) Q) env h:=rfl
theorem bTa{c:Operand}{a b:kN}:awx P G (.cond c a b) Q env h=U2 P G (aev G env c) a b Q env h:=rfl
theorem bLq{i:Nat}{c:kN}:awx P G (.block i c) Q env h=awx P G c (F0 i Q) env h:=rfl
theorem bSv{i:Nat}:awx P G (.exit i) Q env h=Q (.exit i) env h:=rfl
theorem cCa:awx P G .ret Q env h=Q .ret env h:=rfl
theorem cCb{c:Code}:awx P G (.raw c) Q env h=AW P G c Q env h:=rfl
theorem aHr{K:List AV→List AObj→Prop}:tW K Q .normal env h=K env h:=rfl
theorem aSu{K:List AV→List AObj→Prop}{i:Nat}:tW K Q (.exit i) env h=Q (.exit i) env h:=rfl
theorem bBv{K:List AV→List AObj→Prop}:tW K Q .ret env h=Q .ret env h:=rfl
theorem aGo{i:Nat}:F0 i Q .normal env h=Q .normal env h:=rfl
theorem aZq{i:Nat}:F0 i Q .ret env h=Q .ret env h:=rfl
theorem aRi{i j:Nat}:F0 i Q (.exit j) env h=if j=i then Q .normal env h else Q (.exit j) env h:=rfl
theorem bZv{a b:kN}:U2 P G (.b true) a b Q env h=awx P G a Q env h:=by simp[U2,tH]
theorem bZw{a b:kN}:U2 P G (.b false) a b Q env h=awx P G b Q env h:=by simp[U2,tH]
theorem Y9{a b:kN}{x:Bool}(h1:x=true→awx P G a Q env h)(h2:x=false→awx P G b Q env h):U2 P G (.b x) a b Q env h:=⟨h1,h2⟩
theorem bLn{c:kN}{S:Type}(I:S→List AV→List AObj→Prop)(μ:S→Nat)(s0:S)(h0:I s0 env h)(round:∀s env h,I s env h→awx P G c (tW (fun e' h'=>∃s',I s' e' h'∧μ s'<μ s) Q) env h):awx P G (.loop c) Q env h:=
 ⟨S,I,μ,s0,h0,round⟩
theorem bUm{x:Operand}:fG P G dr (.move x) d os K env h=dN P G dr os K (iV env d (aev G env x)) h:=rfl
theorem bDd{x:Operand}:fG P G dr (.assign x) d os K env h=dN P G dr os K (iV env d (aev G env x)) h:=rfl
def cAr:AV→AV→AV→Option AV
 | .b t,a,b=>some (if t then a else b)
 |_,_,_=>Option.none
theorem mP{x:Option AV}:F9 (match x with|some v=>some (v,h)|Option.none=>Option.none) (fun r h'=>dN P G dr os K (iV env d r) h')=pM P G dr x d os K env h:=by cases x<;>rfl
theorem bUl{c a b:Operand}:fG P G dr (.pick c a b) d os K env h=pM P G dr (cAr (aev G env c) (aev G env a) (aev G env b)) d os K env h:=by
 simp only[fG,pS,fU,rJ,fY,aop];cases aev G env c<;>rfl
def aOq:Bool→Option Nat→Option (List AV)→List AObj→Option (AV×List AObj)
 |true,some sz,some cells,h=>some (.ptr h.length 0,h++[.arr false sz cells])
 |true,Option.none,some cells,h=>some (.ptr h.length 0,h++[.box false cells])
 |false,_,some cells,h=>some (.ptr h.length 0,h++[.box false cells])
 |_,_,Option.none,_=>Option.none
theorem bAq{c:List AV}{h:List AObj}:aOq true Option.none (some c) h=some (.ptr h.length 0,h++[.box false c]):=rfl
theorem bHt{q:Option Nat}{c:List AV}{h:List AObj}:aOq false q (some c) h=some (.ptr h.length 0,h++[.box false c]):=rfl
theorem bNm{T:TypeId}:fG P G dr (.alloc T) d os K env h=oE P G dr (aOq dr.isNone (lU P T) (zeroOf P T) h) d os K env:=by
 simp only[fG,pS,fU,rJ,fY,aop];cases lU P T<;>cases zeroOf P T<;>cases dr<;>rfl
theorem cCw{T:TypeId}{x:Operand}:fG P G dr (.box T x) d os K env h=oE P G dr (aOq dr.isNone (lU P T) (kY (aev G env x)) h) d os K env:=by
 simp only[fG,pS,fU,rJ,fY,aop];cases lU P T<;>cases kY (aev G env x)<;>cases dr<;>rfl
def bAy(pl:Option (List (Nat×Nat)))(z:Option (List AV))(parts:List (Nat×AV)):Option AV:=
 match pl,z with
 |some pl,some z=>(nU (fun i=>pl[i]?) z parts).map .agg
 |_,_=>Option.none
theorem bNj{T:TypeId}{parts:Array (Nat×Operand)}:fG P G dr (.build T parts) d os K env h=pM P G dr (bAy (jP P T) (zeroOf P T) (parts.toList.map fun(i,x)=>(i,aev G env x))) d os K env h:=by
 simp only[fG,pS,fU,rJ,fY,aop];cases jP P T with
 |none=>rfl
 |some pl=>
  cases zeroOf P T with
  |none=>rfl
  |some z=>
   simp only[bAy];cases nU (fun i=>pl[i]?) z (parts.toList.map fun(i,x)=>(i,aev G env x))<;>rfl
def jS(h:List AObj)(el:Option TypeId)(len:Nat)(parts:List (Nat×AV)):Option (AV×List AObj):=
 match el with
 |some e=>match zeroOf P e with
  |some z=>if lP P e=some z.length∧0<z.length∧len*z.length≤65536 then
   (if len=0∧parts=[]then some (.e0,h)else(nU (fun i=>some (i*z.length,z.length)) (List.replicate len z).flatten parts).map fun cells=>(.hs h.length 0 len false,h++[.arr false z.length cells]))else Option.none
  |Option.none=>Option.none
 |Option.none=>Option.none
def aQz(dr:Option DR)(l:List (Nat×Operand))(a b:Option (AV×List AObj)):Option (AV×List AObj):=if(dr.isSome&&aQy l)=true then a else b
theorem cLd{l:List (Nat×Operand)}{a b:Option (AV×List AObj)}:aQz Option.none l a b=b:=rfl
theorem cLe{N:DR}{a b:Option (AV×List AObj)}:aQz (some N) [] a b=b:=rfl
theorem cLc{N:DR}{i:Nat}{t:Tmp}{l:List (Nat×Operand)}{a b:Option (AV×List AObj)}:aQz (some N) ((i,.tmp t)::l) a b=b:=rfl
theorem cFk{N:DR}{i:Nat}{v:Value}{a b:Option (AV×List AObj)}:aQz (some N) [(i,.const v)] a b=a:=rfl
theorem cAt{T:TypeId}{len:Nat}{parts:Array (Nat×Operand)}:aop P G env h (.buildSlice T len parts)=jS (P:=P) h (fV P T) len (parts.toList.map fun(i,x)=>(i,aev G env x)):=by
 simp only[aop,jS];cases fV P T with
 |none=>rfl
 |some e=>
  simp only;cases zeroOf P e with
  |none=>rfl
  |some z=>
   simp only;have hm:(parts.toList=[])↔((parts.toList.map fun(i,x)=>(i,aev G env x))=[]):=by simp
   simp only[hm];split
   ·split
    ·rfl
    ·cases nU (fun i=>some (i*z.length,z.length)) (List.replicate len z).flatten (parts.toList.map fun(i,x)=>(i,aev G env x))<;>rfl
   ·rfl
theorem aIl{x:Option (AV×List AObj)}:F9 x (fun r h'=>dN P G dr os K (iV env d r) h')=oE P G dr x d os K env:=by
 cases x<;>rfl
theorem aDu{T:TypeId}{len:Nat}{parts:Array (Nat×Operand)}:fG P G dr (.buildSlice T len parts) d os K env h=oE P G dr (aQz dr parts.toList ((bBl P T len parts).map fun v=>(v,h)) (jS (P:=P) h (fV P T) len (parts.toList.map fun(i,x)=>(i,aev G env x)))) d os K env:=by
 rw[← cAt];simp only[fG,pS,fU,rJ,fY];exact aIl
def mR:Nat→List (Nat×AV)→Option (List AV)
 |_,[]=>some []
 |i,(j,a)::rest=>if j=i then(match kY a with
  |some [c]=>(mR (i+1) rest).map (c::·)
  |_=>Option.none)else Option.none
theorem aGz:∀(parts:List (Nat×AV)) (i:Nat) (cells pre:List AV) (z:AV),mR i parts=some cells→pre.length=i →
 nU (fun i=>some (i*1,1)) (pre++List.replicate cells.length z) parts=some (pre++cells)
 | [],i,cells,pre,z,h,hp=>by
   simp only[mR,aB]at h;subst h;simp[nU]
 |(j,a)::rest,i,cells,pre,z,h,hp=>by
  simp only[mR]at h;split at h;case isFalse=>cases h
  rename_i hj;subst hj;split at h;case h_2=>cases h
  rename_i c hc;cases hr:mR (j+1) rest with
  |none=>simp[hr]at h
  |some cs=>
   simp only[hr,dO,aB]at h;subst h;have ih:=aGz rest (j+1) cs (pre++[c]) z hr (by simp[hp]);simp only[nU,hc,aQ,cB,List.length_append,List.length_replicate,bBa,dM];rw[if_pos ⟨trivial,by omega⟩];have hs:kO (pre++List.replicate (cs.length+1) z) j [c]=(pre++[c])++List.replicate cs.length z:=by
    unfold kO;rw[List.take_left' hp,aKo,List.drop_append,cV (by omega),hp];have:j+1-j=1:=by omega
    rw[this,aJ,gV,aT,bG]
   have e1:(fun i=>some (i*1,1))=(fun i:Nat=>some (i,1)):=by funext i;rw[bBa]
   rw[e1]at ih;rw[hs,ih,bU];rfl
theorem bFx{i:Nat}:mR i []=some []:=rfl
theorem bWf{i:Nat}{rest:List (Nat×AV)}{l:List UInt8}:mR i ((i,.s l)::rest)=(mR (i+1) rest).map (.s l::·):=by simp[mR,kY,AV.one]
theorem bWg{i:Nat}{rest:List (Nat×AV)}{k:IntKind}{n:Int}:mR i ((i,.i k n)::rest)=(mR (i+1) rest).map (.i k n::·):=by simp[mR,kY,AV.one]
theorem bPx{i:Nat}{rest:List (Nat×AV)}{c:List AV}{n:Nat}:mR i ((i,.sl c n)::rest)=(mR (i+1) rest).map (.sl c n::·):=by simp[mR,kY,AV.one]
theorem bPy{i:Nat}{rest:List (Nat×AV)}{id o n:Nat}{t:Bool}:mR i ((i,.hs id o n t)::rest)=(mR (i+1) rest).map (.hs id o n t::·):=by simp[mR,kY,AV.one]
def nS(h:List AObj)(el:Option TypeId)(len:Nat)(parts:List (Nat×AV)):Option (AV×List AObj):=
 match el with
 |some e=>match zeroOf P e,lP P e,mR 0 parts with
  |some [_],some 1,some cells=>if cells.length=len∧0<len∧len≤65536 then some (.hs h.length 0 len false,h++[.arr false 1 cells])else jS (P:=P) h (some e) len parts
  |_,_,_=>jS (P:=P) h (some e) len parts
 |Option.none=>Option.none
theorem vB{el:Option TypeId}{len:Nat}{parts:List (Nat×AV)}:jS (P:=P) h el len parts=nS (P:=P) h el len parts:=by
 unfold nS;cases el with
 |none=>rfl
 |some e=>
  simp only;split
  ·rename_i z cells hz hs hf;split
   ·rename_i hc;obtain⟨hc1,hc0,hc2⟩:=hc;have:=aGz parts 0 cells [] z hf rfl;simp only[jS,hz,hs,aKo];rw[if_pos ⟨trivial,by omega,by omega⟩,if_neg (by omega)];have e2:(List.replicate len [z]).flatten=[]++List.replicate cells.length z:=by
     rw[hc1,aJ];clear this hc1 hc0 hc2 hf;induction len with
     |zero=>rfl
     |succ n ih=>rw[gV,fB,ih,gV];rfl
    rw[e2,this];rfl
   ·rfl
  ·rfl
theorem aAj{T:TypeId}{len:Nat}{parts:Array (Nat×Operand)}:fG P G dr (.buildSlice T len parts) d os K env h=oE P G dr (aQz dr parts.toList ((bBl P T len parts).map fun v=>(v,h)) (nS (P:=P) h (fV P T) len (parts.toList.map fun(i,x)=>(i,aev G env x)))) d os K env:=by
 rw[aDu,vB]
theorem cAl{T:TypeId}{len:Nat}{parts:Array (Nat×Operand)}:aRl P (aev G env) T len parts=asl (jS (P:=P) [] (fV P T) len (parts.toList.map fun(i,x)=>(i,aev G env x))):=by
 unfold aRl jS;cases fV P T with
 |none=>rfl
 |some e=>
  simp only;cases zeroOf P e with
  |none=>rfl
  |some z=>
   simp only;by_cases h1:lP P e=some z.length∧0<z.length∧len*z.length≤65536
   ·rw[if_pos h1]
    by_cases h2:0<len
    ·rw[if_pos ⟨h1.1,h1.2.1,h2,h1.2.2⟩,if_neg (fun q=>by omega)];cases nU (fun i=>some (i*z.length,z.length)) (List.replicate len z).flatten (parts.toList.map fun(i,x)=>(i,aev G env x))with
     |none=>rfl
     |some cells=>simp only[dO,asl,aJ,h2,true_and]
    ·rw[if_neg (fun q=>h2 q.2.2.1)];split
     ·rfl
     ·cases nU (fun i=>some (i*z.length,z.length)) (List.replicate len z).flatten (parts.toList.map fun(i,x)=>(i,aev G env x))with
      |none=>rfl
      |some cells=>simp only[dO,asl,aJ,h2,false_and,if_false]
   ·rw[if_neg h1,if_neg (fun q=>h1 ⟨q.1,q.2.1,q.2.2.2⟩)];rfl
theorem bPj{T:TypeId}{len:Nat}{parts:Array (Nat×Operand)}{N:DR}:ckV P G N (.buildSlice T len parts) d os K env h=pM P G (some N) (asl (nS (P:=P) [] (fV P T) len (parts.toList.map fun(i,x)=>(i,aev G env x)))) d os K env h:=by
 rw[← vB,← cAl];rfl
theorem bUn{T:TypeId}{x:Operand}:fG P G dr (.load T x) d os K env h=pM P G dr (zX P T h (aev G env x)) d os K env h:=by
 simp only[fG,pS,fU,rJ,fY,aop];exact mP
theorem bNc{T:TypeId}{x y:Operand}:fG P G dr (.store T x y) d os K env h=aYy P G dr (uV P h T (aev G env x) (aev G env y)) d os K env:=by
 simp only[fG,pS,fU,rJ,fY,aop];cases uV P h T (aev G env x) (aev G env y)<;>rfl
def cFw(h:List AObj):AV→Option AV
 | .ptr id off=>match h[id]? with|some (.box ..)|some (.arr ..)|some (.held false _)=>some (.ptr id off)|_=>Option.none
 | .box cells off=>some (.box cells off)
 | .fn f a b=>some (.fn f a b)
 |_=>Option.none
theorem aPw{x:Operand}:fG P G dr (.nilCheck x) d os K env h=pM P G dr (cFw h (aev G env x)) d os K env h:=by
 simp only[fG,pS,fU,rJ,fY,aop,cFw];cases aev G env x with
 |ptr id off=>
  simp only;cases h[id]? with
  |none=>rfl
  |some ob=>cases ob with
   |held m q=>cases m<;>rfl
   |_=>rfl
 |_=>rfl
theorem cCx{op:BinOp}{T U:TypeId}{x:Operand}{t:Nat}:fG P G dr (.binOp op T x (.tmp t) U) d os K env h=pM P G dr (bIf P op T (aev G env x) (aev G env (.tmp t))) d os K env h:=by
 simp only[fG,pS,fU,rJ,bSk,fY,aop];exact mP
theorem bNl{op:BinOp}{T U:TypeId}{x:Operand}{k:IntKind}{n:Int}:fG P G dr (.binOp op T x (.const (.int k n)) U) d os K env h=pM P G dr (bIf P op T (aev G env x) (.i k n)) d os K env h:=by
 simp only[fG,pS,fU,rJ,bSk,fY,aop];exact mP
theorem bNk{op:BinOp}{T U:TypeId}{x:Operand}{b:ByteArray}:fG P G dr (.binOp op T x (.const (.string b)) U) d os K env h=pM P G dr (bIf P op T (aev G env x) (aev G env (.const (.string b)))) d os K env h:=by
 simp only[fG,pS,fU,rJ,bSk,fY,aop];exact mP
def cDi(P:Program)(G:Md)(A:Option TypeDesc)(v:AV)(d:Option Nat)(os:List gA)(K:List AV→List AObj→Prop)(env:List AV)(h:List AObj):Prop:=
 match A with
 |some (.slice _)=>(match v with
  | .e0=>dN P G none os K (iV env d (.b true)) h∧dN P G none os K (iV env d (.b false)) h
  | .sl _ n=>(n=0→dN P G none os K (iV env d (.b true)) h)∧dN P G none os K (iV env d (.b false)) h
  |_=>False)
 |_=>False
theorem cCt{T U:TypeId}{x:Operand}:fG P G none (.binOp .eql T x (.const (.slice none 0 0)) U) d os K env h=cDi P G (P.underlying T) (aev G env x) d os K env h:=by
 simp only[fG,pS,fU,rJ,bSk,bJi,cDi];cases P.underlying T with
 |none=>rfl
 |some t=>cases t<;>first|rfl|(cases aev G env x<;>rfl)
theorem bJh{e:TypeId}{cells:List AV}{n:Nat}(h1:n=0→dN P G none os K (iV env d (.b true)) h)(h2:dN P G none os K (iV env d (.b false)) h):cDi P G (some (.slice e)) (.sl cells n) d os K env h:=⟨h1,h2⟩
theorem cJt{op:UnOp}{T:TypeId}{x:Operand}:fG P G dr (.unOp op T x) d os K env h=pM P G dr (aUn op (aev G env x)) d os K env h:=by
 simp only[fG,pS,fU,rJ,fY,aop];exact mP
theorem bUp{S T:TypeId}{x:Operand}:fG P G dr (.convert S T x) d os K env h=pM P G dr (aKh P S T (aev G env x)) d os K env h:=by
 simp only[fG,pS,fU,rJ,fY,aop];exact mP
theorem aPx{f:FuncId}{a b:Array Operand}:fG P G dr (.makeFunc (.func f) a b) d os K env h=dN P G dr os K (iV env d (.fn f (a.toList.map (aev G env)) (b.toList.map (aev G env)))) h:=rfl
theorem aUh{T:TypeId}:fG P G none (.makeMap T none) d os K env h=dN P G none os K (iV env d (.mp h.length)) (h++[.map false [] []]):=rfl
theorem aIb{T:TypeId}{l c:Operand}:fG P G dr (.makeSlice T l c) d os K env h=oE P G dr (nH P h T (aev G env l) (aev G env c)) d os K env:=by
 simp only[fG,pS,fU,rJ,fY,aop];cases nH P h T (aev G env l) (aev G env c)<;>rfl
theorem bNd{T:TypeId}{x:Operand}{l hi m:Option Operand}:fG P G dr (.slice T x l hi m) d os K env h=pM P G dr (sY P h T (aev G env x) (l.map (aev G env)) (hi.map (aev G env)) (m.map (aev G env))) d os K env h:=by
 simp only[fG,pS,fU,rJ,fY,aop];exact mP
def C9(h:List AObj)(q:Option (Nat×Option Nat))(x:AV):Option AV:=
 match q with
 |some (fo,some (_+1))=>match x with
  | .ptr id off=>match h[id]? with|some (.box ..)|some (.arr ..)|some (.held false _)=>some (.ptr id (off+fo))|_=>Option.none
  | .box cells off=>some (.box cells (off+fo))
  |_=>Option.none
 |_=>Option.none
def eI(P:Program)(S:TypeId)(f:Nat):Option (Nat×Option Nat):=(lV P S f).map fun q=>(q.1,lP P q.2)
theorem aId{S:TypeId}{x:Operand}{f:Nat}:fG P G dr (.fieldAddr S x f) d os K env h=pM P G dr (C9 h (eI P S f) (aev G env x)) d os K env h:=by
 simp only[fG,pS,fU,rJ,fY,aop,C9,eI];cases lV P S f with
 |none=>rfl
 |some q=>
  obtain⟨fo,ft⟩:=q;simp only[dO];cases lP P ft with
  |none=>rfl
  |some n=>
   cases n with
   |zero=>rfl
   |succ n=>
    cases aev G env x with
    |ptr id off=>
     simp only;cases h[id]? with
     |none=>rfl
     |some ob=>cases ob with
      |held m q=>cases m<;>rfl
      |_=>rfl
    |_=>rfl
theorem aIc{T:TypeId}{x i:Operand}:fG P G dr (.indexAddr T x i) d os K env h=pM P G dr (kE P h T (aev G env x) (aev G env i)) d os K env h:=by
 simp only[fG,pS,fU,rJ,fY,aop];exact mP
theorem bNh{T:TypeId}{x i:Operand}:fG P G dr (.index T x i) d os K env h=pM P G dr (R9 P T (aev G env x) (aev G env i)) d os K env h:=by
 simp only[fG,pS,fU,rJ,fY,aop];exact mP
theorem bDc{T:TypeId}{m k:Operand}{ok:Bool}:fG P G dr (.lookup T m k ok) d os K env h=pM P G dr (pO P h T (aev G env m) (aev G env k) ok) d os K env h:=by
 simp only[fG,pS,fU,rJ,fY,aop];exact mP
def bRn(P:Program)(h:List AObj)(T:TypeId)(m k x:AV):Option (List AObj):=
 if pers x then gP P h T m k x else gP P (freeze (eH dep h x) h) T m k (gZ dep h x)
theorem aIa{T:TypeId}{m k x:Operand}:fG P G dr (.mapUpdate T m k x) d os K env h=aYy P G dr (bRn P h T (aev G env m) (aev G env k) (aev G env x)) d os K env:=by
 simp only[fG,pS,fU,rJ,fY,bRn];split
 ·cases gP P h T (aev G env m) (aev G env k) (aev G env x)<;>rfl
 ·cases gP P (freeze (eH dep h (aev G env x)) h) T (aev G env m) (aev G env k) (gZ dep h (aev G env x))<;>rfl
def cFs:AV→Nat→Option AV
 | .tup vs,i=>vs[i]?
 |_,_=>Option.none
theorem aUi{x:Operand}{i:Nat}:fG P G dr (.extract x i) d os K env h=pM P G dr (cFs (aev G env x) i) d os K env h:=by
 simp only[fG,pS,fU,rJ,fY,aop,cFs];cases aev G env x with
 |tup vs=>exact mP
 |_=>rfl
theorem cCu{T:TypeId}{x:Operand}:fG P G dr (.call ⟨.builtin .len,#[x],#[T]⟩) d os K env h=pM P G dr ((bAu P h T (aev G env x)).map fun n=>.i .i64 (Int.ofNat n)) d os K env h:=by
 simp only[fG,pS,fU,rJ,fY,nR,jZ,aK,aZ];cases bAu P h T (aev G env x)<;>rfl
def aHb(P:Program)(h:List AObj)(T:TypeId)(s x:AV):Option (AV×List AObj):=
 if tU h x then iE P h T s x else iE P (freeze (eH dep h x) h) T s (gZ dep h x)
theorem bDe{T:TypeId}{s x:Operand}:fG P G dr (.call ⟨.builtin .append,#[s,x],#[T,T]⟩) d os K env h=oE P G dr (aHb P h T (aev G env s) (aev G env x)) d os K env:=by
 simp only[fG,pS,fU,rJ,fY,nR,aK,aZ,if_true,aHb];split
 ·cases iE P h T (aev G env s) (aev G env x)<;>rfl
 ·cases iE P (freeze (eH dep h (aev G env x)) h) T (aev G env s) (gZ dep h (aev G env x))<;>rfl
def aKr(P:Program)(G:Md)(dr:Option DR)(A:Option TypeDesc)(q:Option (AV×List AObj))(d:Option Nat)(os:List gA)(K:List AV→List AObj→Prop)(env:List AV):Prop:=
 match A with
 |some (.int _)=>oE P G dr q d os K env
 |_=>False
theorem aSe{k:IntKind}{q:Option (AV×List AObj)}:aKr P G dr (some (.int k)) q d os K env=oE P G dr q d os K env:=rfl
theorem M4{T U:TypeId}(hTU:T≠U){s x:Operand}:fG P G dr (.call ⟨.builtin .append,#[s,x],#[T,U]⟩) d os K env h=aKr P G dr (P.underlying U) (sX P h T (aev G env s) (aev G env x)) d os K env:=by
 simp only[fG,pS,fU,rJ,fY,nR,aK,aZ,if_neg hTU];generalize sX P h T (aev G env s) (aev G env x)=q;cases P.underlying U with
 |none=>rfl
 |some t=>cases t<;>first|rfl|(cases q<;>rfl)
def cAy(P:Program)(h:List AObj)(T:Option TypeDesc)(id off n:Nat)(x:AV):Option (AV×List AObj):=
 match T with
 |some (.slice el)=>match lP P el,h[id]? with
  |some sz,some (.arr false s cells)=>match R0 h sz x with
   |some (win,m)=>if s=sz∧off+n*sz≤cells.length then some (.i .i64 (min m n:Nat),h.set id (.arr false s (kO cells off (win.take (min m n*sz)))))else Option.none
   |Option.none=>Option.none
  |_,_=>Option.none
 |_=>Option.none
theorem bQy{T U:TypeId}{h:List AObj}{id off n:Nat}{t:Bool}{x:AV}:jZ P h .copy #[T,U] [.hs id off n t,x]=cAy P h (P.underlying T) id off n x:=rfl
theorem bUo{T U:TypeId}{x y:Operand}:fG P G dr (.call ⟨.builtin .copy,#[x,y],#[T,U]⟩) d os K env h=oE P G dr (jZ P h .copy #[T,U] [aev G env x,aev G env y]) d os K env:=by
 simp only[fG,pS,fU,rJ,fY,nR,aK,aZ];cases jZ P h .copy #[T,U] [aev G env x,aev G env y]<;>rfl
theorem cCo{k:IntKind}{a:Int}:aRt .shr k a 1=some (.i k (a / 2)):=by simp[aRt]
theorem cCv{T:TypeId}{x:Operand}:fG P G dr (.call ⟨.builtin .cap,#[x],#[T]⟩) d os K env h=oE P G dr (jZ P h .cap #[T] [aev G env x]) d os K env:=by
 simp only[fG,pS,fU,rJ,fY,nR,aK,aZ];cases jZ P h .cap #[T] [aev G env x]<;>rfl
theorem bLc{T e:TypeId}{h:List AObj}(hT:P.underlying T=some (.slice e)):jZ P h .cap #[T] [.e0]=some (.i .i64 0,h):=by simp[jZ,hT]
theorem bHy{T:TypeId}{x:AV}{h:List AObj}:aHb P h T .e0 x=if tU h x then iE P h T .e0 x else iE P (freeze (eH dep h x) h) T .e0 (gZ dep h x):=rfl
theorem bHx{T:TypeId}{x:AV}{h:List AObj}{id o n:Nat}{t:Bool}:aHb P h T (.hs id o n t) x=if tU h x then iE P h T (.hs id o n t) x else iE P (freeze (eH dep h x) h) T (.hs id o n t) (gZ dep h x):=rfl
theorem bUq{fx:Operand}{args:Array Operand}{tys:Array TypeId}:fG P G dr (.call ⟨.value fx,args,tys⟩) d os K env h=bRk P G dr (aev G env fx) (args.toList.map (aev G env)) d os K env h:=by
 simp only[fG,pS,fU,rJ,fY,nR,bRk];cases aev G env fx<;>rfl
def aUg(P:Program)(G:Md)(T:Option TypeDesc)(x:AV)(h1:List AObj)(d:Option Nat)(os:List gA)(K:List AV→List AObj→Prop)(env:List AV):Prop:=
 match T,x with
 |some (.map _ _),.mapv ks vs=>dN P G none os K (iV env d (.ptr h1.length 0)) (h1++[.mit none ks vs])
 |some .string,.s l=>dN P G none os K (iV env d (.ptr h1.length 0)) (h1++[.sit l 0])
 |_,_=>False
theorem bNe{T:TypeId}{x:Operand}:fG P G none (.range T x) d os K env h=aUg P G (P.underlying T) (gZ dep h (aev G env x)) (freeze (eH dep h (aev G env x)) h) d os K env:=by
 simp only[fG,pS,fU,rJ,fY,I9,aE,if_false,aUg];cases P.underlying T with
 |none=>rfl
 |some t=>cases t<;>first|rfl|(cases gZ dep h (aev G env x)<;>rfl)
def cKi(P:Program)(G:Md)(x:AV)(d:Option Nat)(os:List gA)(K:List AV→List AObj→Prop)(env:List AV)(h:List AObj):Prop:=
 match x with
 | .ptr id 0=>match h[id]? with
   |some (.mit _ ks vs)=>(ks=[]→dN P G none os K (iV env d (.tup [.b false])) h)∧∀(j:Nat) (k v:AV),ks[j]? = some k→vs[j]? = some v→dN P G none os K (iV env d (.tup [.b true,k,v])) (h.set id (.mit (some (k,v)) (ks.eraseIdx j) (vs.eraseIdx j)))
   |_=>False
 |_=>False
theorem aUd{l:List UInt8}{h1:List AObj}:aUg P G (some .string) (.s l) h1 d os K env=dN P G none os K (iV env d (.ptr h1.length 0)) (h1++[.sit l 0]):=rfl
def aMg(P:Program)(G:Md)(x:AV)(d:Option Nat)(os:List gA)(K:List AV→List AObj→Prop)(env:List AV)(h:List AObj):Prop:=
 match x with
 | .ptr id 0=>match h[id]? with
   |some (.sit l pos)=>(l.length≤pos→dN P G none os K (iV env d (.tup [.b false])) h)∧∀(c:UInt8),l[pos]? = some c→(c.toNat<128→dN P G none os K (iV env d (.tup [.b true,.i .i64 pos,.i .i32 c.toNat])) (h.set id (.sit l (pos+1)))) ∧
    ∀(rn k:Nat),128≤c.toNat→128≤rn→rn≤2147483647→1≤k→dN P G none os K (iV env d (.tup [.b true,.i .i64 pos,.i .i32 rn])) (h.set id (.sit l (pos+k)))
   |_=>False
 |_=>False
theorem bNg{x:Operand}:fG P G none (.next x true) d os K env h=aMg P G (aev G env x) d os K env h:=by
 simp only[fG,pS,fU,rJ,fY,I9,aE,if_false,aMg];cases aev G env x with
 |ptr id o=>cases o with
  |zero=>simp only;cases h[id]? with
   |none=>rfl
   |some ob=>cases ob<;>rfl
  |succ o=>rfl
 |_=>rfl
theorem aIr{id:Nat}{l:List UInt8}{pos:Nat}(hid:h[id]? = some (.sit l pos))(h0:l.length≤pos→dN P G none os K (iV env d (.tup [.b false])) h)
 (h1:∀(c:UInt8),l[pos]? = some c→c.toNat<128→dN P G none os K (iV env d (.tup [.b true,.i .i64 pos,.i .i32 c.toNat])) (h.set id (.sit l (pos+1))))
 (h2:∀(c:UInt8) (rn k:Nat),l[pos]? = some c→128≤c.toNat→128≤rn→rn≤2147483647→1≤k→dN P G none os K (iV env d (.tup [.b true,.i .i64 pos,.i .i32 rn])) (h.set id (.sit l (pos+k)))):aMg P G (.ptr id 0) d os K env h:=by
 unfold aMg;simp only[hid];exact⟨h0,fun c hc=>⟨h1 c hc,fun rn k=>h2 c rn k hc⟩⟩
theorem cLg{f:FuncId}{a b args:List AV}:bRk P G dr (.fn f a b) args d os K env h=tM P G dr f (a++args++b) d os K env h:=rfl
theorem aRf{f:FuncId}{A:List AV}{r:AV}(s:Ctr P G f (A.map (gZ dep h)) r)(k:dN P G dr os K (iV env d (mat r (gU r h A)).1) (mat r (gU r h A)).2):tM P G dr f A d os K env h:=by
 cases dr
 ·exact .inl (ACalls.sem s k)
 ·exact⟨r,s,k⟩
def bMm(h:List AObj):AV→AV
 | .e0=>.e0
 |a=>gZ dep h a
theorem bLd{f:FuncId}{A A':List AV}{r:AV}(s:Ctr P G f A' r)(hA:A.map (bMm h)=A')(k:dN P G none os K (iV env d (mat r (gU r h A)).1) (mat r (gU r h A)).2):tM P G none f A d os K env h:=by
 subst hA;refine .inl (ACalls.sem0 s (by simp) (fun j a a' h1 h2=>?_) k);rw[eV,h1]at h2;simp only[dO,aB]at h2;subst h2;cases a<;>first|exact .inr ⟨rfl,rfl⟩|exact .inl rfl
def cDe(G:Md)(x:AV)(env:List AV)(h:List AObj):Prop:=match x with
 | .p (.iface T v)=>G.pan (.iface T v) env h
 |_=>False
theorem cDd{T:TypeId}{v:Value}:cDe G (.p (.iface T v)) env h=G.pan (.iface T v) env h:=rfl
theorem bNf{x:Operand}:fG P G none (.panic x) d os K env h=cDe G (aev G env x) env h:=by
 simp only[fG,pS,fU,rJ,fY,cDe];cases aev G.g env x<;>first|rfl|(rename_i v;cases v<;>rfl)
def bAv(P:Program)(T:TypeId)(x:AV):Option AV:=match P.underlying T with
 |Option.none|some (.interface _)=>Option.none
 |some _=>(toV x).map fun v=>.p (.iface T v)
theorem bNi{T:TypeId}{x:Operand}:fG P G dr (.makeInterface T x) d os K env h=pM P G dr (bAv P T (aev G env x)) d os K env h:=by
 simp only[fG,pS,fU,rJ,fY,aop,bAv];cases P.underlying T with
 |none=>rfl
 |some t=>cases t<;>cases toV (aev G env x)<;>rfl
theorem bTl{v:AV}:pM P G dr (some v) d os K env h=dN P G dr os K (iV env d v) h:=rfl
theorem cCh{c:Prop}[Decidable c]{v:AV}:pM P G dr (if c then some v else Option.none) d os K env h=(c∧dN P G dr os K (iV env d v) h):=by
 by_cases hc:c<;>simp[hc,pM]
theorem bVv{h':List AObj}:aYy P G dr (some h') d os K env=dN P G dr os K (iV env d .u) h':=rfl
theorem cDv{c:Prop}[Decidable c]{h':List AObj}:aYy P G dr (if c then some h' else Option.none) d os K env=(c∧dN P G dr os K (iV env d .u) h'):=by
 by_cases hc:c<;>simp[hc,aYy]
theorem bLv{v:AV}{h':List AObj}:oE P G dr (some (v,h')) d os K env=dN P G dr os K (iV env d v) h':=rfl
theorem bTg{c:Prop}[Decidable c]{v:AV}{h':List AObj}:oE P G dr (if c then some (v,h')else Option.none) d os K env=(c∧dN P G dr os K (iV env d v) h'):=by
 by_cases hc:c<;>simp[hc,oE]
theorem bDi{n:Nat}{x:AV}:iV env (some n) x=env.set n x:=rfl
theorem bDj{x:AV}:iV env Option.none x=env:=rfl
theorem bWi{G:Glob}{t:Nat}:aev G env (.tmp t)=env.getD t .u:=rfl
theorem bGa{G:Glob}{v:Value}:aev G env (.const v)=aZw v:=rfl
theorem bQc{G:Glob}{f:FuncId}:aev G env (.func f)=.fn f [] []:=rfl
end
attribute [go_sem] bFx bWf bWg bPx bPy
attribute [go_sem ↓] bSu bBo bSw bLo bLp cBz bTa bLq cCb aIm bDx aVh bUz bUm bDd bUl bNm cCw bNj aAj bUn bNc aPw cCx bNl bNk cCt cJt bUp aPx aUh aIb bNd aId aIc bNh bDc aIa aUi cCu bDe M4 cCv bUq bNe bNg bNf bNi bUo
attribute [go_sem] Int.toNat_one aSe bSv cCa aHr aSu bBv aGo aZq aRi bZv bZw bFk bFo bFl bFn bFm cLg cAi bTl cCh bVv cDv bLv bTg bDi bDj bWi bGa bQc
attribute [go_sem ↓] bPj aWq
attribute [go_sem ↓] cCo
attribute [go_sem] bQy cAy bHo bAq bHt cDd toV bSh bIn bAv dO
attribute [go_sem] cLd cLe cLc cFk aZw aRk bAu kE R9 zX aOm apart uV kO kY AV.one bIf aRt cBs bId aEq lM aUn aKh sY R0 tU pO rH bRn gP bHy bHx sX iE nH aUd cAr C9 cFs cFw bAy nS jS nU
attribute [go_sem] iG iF dE eM aK aZ dO Int.ofNat_eq_natCast Int.toNat_natCast bBa nV dM Nat.add_zero bT bZ aQ cB aJ aH List.append_nil aL bR aT bG
attribute [go_sem] eH pers persL flat flatL mat matL gU R4 G8 aGs
inductive aSc where
 |k
 |j
 |v (x:AV)
def rX(F:Nat→AV):Nat→List aSc→List AV→List AV
 |i,.k::ps,v::vs=>v::rX F (i+1) ps vs
 |i,.j::ps,_::vs=>F i::rX F (i+1) ps vs
 |i,.v x::ps,_::vs=>x::rX F (i+1) ps vs
 |_,_,_=>[]
def hZ:List aSc→List AV→List AV→Prop
 | .k::ps,v::vs,w::ws=>w=v∧hZ ps vs ws
 | .j::ps,_::vs,_::ws=>hZ ps vs ws
 | .v x::ps,_::vs,w::ws=>w=x∧hZ ps vs ws
 | [],[],[]=>True
 |_,_,_=>False
theorem aAw:∀(ps:List aSc) (E e:List AV) (i:Nat) (F:Nat→AV),(∀m v,e[m]? = some v→F (i+m)=v)→hZ ps E e→rX F i ps E=e:=by
 intro ps;induction ps with
 |nil=>intro E e i F _ h;cases E<;>cases e<;>simp[hZ]at h;simp[rX]
 |cons p ps ih=>
  intro E e i F hF h;cases E with
  |nil=>cases e<;>cases p<;>simp[hZ]at h
  |cons v vs=>
   cases e with
   |nil=>cases p<;>simp[hZ]at h
   |cons w ws=>
    have hF':∀m v,ws[m]? = some v→F (i+1+m)=v:=fun m u hm=>by have:=hF (m+1) u (by simpa using hm);rw[← this];congr 1;omega
    cases p with
    |k=>obtain⟨h1,h2⟩:=h;simp only[rX];rw[ih vs ws _ F hF' h2,h1]
    |j=>simp only[rX];rw[ih vs ws _ F hF' h];have:=hF 0 w rfl;simpa using this
    |v x=>obtain⟨h1,h2⟩:=h;simp only[rX];rw[ih vs ws _ F hF' h2,h1]
section
variable {P:Program} {G:Md} {env:List AV} {h:List AObj} {Q:Exit→List AV→List AObj→Prop}
theorem dF{c:kN}{S:Type}(ps:S→List aSc)(hp:S→List AObj)(I:S→Prop)(μ:S→Nat)(s0:S)(h0:I s0)(hh:h=hp s0)(k0:hZ (ps s0) env env)
 (round:∀(s:S) (j:Nat→AV),I s→awx P G c (tW (fun e' h'=>∃s',I s'∧μ s'<μ s∧h'=hp s'∧hZ (ps s') env e') Q) (rX j 0 (ps s) env) (hp s)):awx P G (.loop c) Q env h:=by
 refine bLn (fun s e h'=>I s∧h'=hp s∧hZ (ps s) env e) μ s0 ⟨h0,hh,k0⟩ ?_;rintro s e h' ⟨hI,rfl,hf⟩;have he:rX (fun n=>e.getD n .u) 0 (ps s) env=e:=aAw _ env e 0 _ (fun m v hv=>by simp[List.getD,hv]) hf;have r:=round s (fun n=>e.getD n .u) hI;rw[he]at r;have mono:(fun e2 h2=>∃s',I s'∧μ s'<μ s∧h2=hp s'∧hZ (ps s') env e2)=fun e2 h2=>∃s',(I s'∧h2=hp s'∧hZ (ps s') env e2)∧μ s'<μ s:=by
  funext e2 h2;exact propext ⟨fun⟨s',a,b,c,d⟩=>⟨s',⟨a,c,d⟩,b⟩,fun⟨s',⟨a,c,d⟩,b⟩=>⟨s',a,b,c,d⟩⟩
 rw[mono]at r;exact r
end
section
variable {P:Program} {G:Md} {env:List AV} {h:List AObj} {Q:Exit→List AV→List AObj→Prop}
theorem kI{c:kN}{S:Type}(ps:S→List aSc)(hp:S→List AObj)(I:S→Prop)(μ:S→Nat)(s0:S)(g0:List AObj)(h0:I s0)(hh:h=hp s0++g0)(k0:hZ (ps s0) env env)
 (round:∀(s:S) (g:List AObj) (j:Nat→AV),I s→awx P G c (tW (fun e' h'=>∃s' g',I s'∧μ s'<μ s∧h'=hp s'++g'∧hZ (ps s') env e') Q) (rX j 0 (ps s) env) (hp s++g)):awx P G (.loop c) Q env h:=by
 refine dF (S:=S×List AObj) (fun s=>ps s.1) (fun s=>hp s.1++s.2) (fun s=>I s.1) (fun s=>μ s.1) (s0,g0) h0 hh k0 ?_;rintro⟨s,g⟩ j hI;have r:=round s g j hI;have mono:(fun(e2:List AV) (h2:List AObj)=>∃s' g',I s'∧μ s'<μ s∧h2=hp s'++g'∧hZ (ps s') env e2)=fun e2 h2=>∃s':S×List AObj,I s'.1∧μ s'.1<μ s∧h2=hp s'.1++s'.2∧hZ (ps s'.1) env e2:=by
  funext e2 h2;exact propext ⟨fun⟨s',g',a,b,c,d⟩=>⟨(s',g'),a,b,c,d⟩,fun⟨s',a,b,c,d⟩=>⟨s'.1,s'.2,a,b,c,d⟩⟩
 rw[mono]at r;exact r
end
section
variable {α:Type} {f:α→List AV} {m:Nat}
theorem sF(hf:∀x,(f x).length=m):∀(l:List α),(l.flatMap f).length=l.length*m
 | []=>by simp
 |x::l=>by rw[List.flatMap_cons,List.length_append,hf,sF hf l,aQ,aKj,nW]
theorem zK(hf:∀x,(f x).length=m):∀(l:List α) (k:Nat),(l.flatMap f).drop (k*m)=(l.drop k).flatMap f
 |l,0=>by simp
 | [],k+1=>by simp
 |x::l,k+1=>by
  rw[List.flatMap_cons,aKj,nW,← pV,List.drop_left' (hf x),zK hf l k,aT]
theorem O9(hf:∀x,(f x).length=m):∀(l:List α) (k:Nat),(l.flatMap f).take (k*m)=(l.take k).flatMap f
 |l,0=>by simp
 | [],k+1=>by simp
 |x::l,k+1=>by
  rw[List.flatMap_cons,aKj,nW,List.take_append,hf,Nat.add_sub_cancel_left,O9 hf l k,aL,List.flatMap_cons,bE (by rw[hf];omega)]
theorem vZ(hf:∀x,(f x).length=m)(l:List α)(k:Nat):((l.flatMap f).drop (k*m)).take m=((l[k]?).map f).getD []:=by
 rw[zK hf];have:(l.drop k).flatMap f=((l[k]?).map f).getD []++(l.drop (k+1)).flatMap f:=by
  cases hk:l[k]? with
  |none=>
   have hle:=S2.1 hk;rw[cV hle,cV (by omega)];simp
  |some x=>
   obtain⟨hlt,hx⟩:=gO.1 hk;rw[eA hlt,List.flatMap_cons,hx];simp
 rw[this];cases hk:l[k]? with
 |none=>
  have hle:=S2.1 hk;rw[cV (by omega)];simp
 |some x=>simp[List.take_left' (hf x)]
theorem aMy(hf:∀x,(f x).length=m)(l:List α)(k:Nat){j:Nat}(hj:j<m):(l.flatMap f)[k*m+j]? = (l[k]?).bind fun x=>(f x)[j]? := by
 have h1:(l.flatMap f)[k*m+j]? = ((((l.flatMap f).drop (k*m)).take m))[j]? := by
  rw[List.getElem?_take_of_lt hj,eL]
 rw[h1,vZ hf];cases hk:l[k]? with
 |none=>simp
 |some x=>simp
end
section
variable {P:Program} {G:Md} {dr:Option DR} {d:Option Nat} {os:List gA} {K:List AV→List AObj→Prop} {env:List AV} {h:List AObj} {Q:Exit→List AV→List AObj→Prop}
theorem bJu{op:Op}{x:Bool}(h1:x=true→fG P G dr op d os K env h)(h2:x=false→dN P G dr os K (iV env d (.tup [])) h):nP P G dr (.b x) true op d os K env h:=O7 h1 h2
theorem aWw{op:Op}{x:Bool}(h1:x=false→fG P G dr op d os K env h)(h2:x=true→dN P G dr os K (iV env d (.tup [])) h):nP P G dr (.b x) false op d os K env h:=O7 h1 h2
end
theorem bV{h:List AObj}{x r:AV}(hr:r=x)(hp:pers x=true):Fin h x r:=.inl ⟨hr,hp⟩
attribute [go_sem] true_and and_true if_true if_false aE aB exists_eq_left' reduceCtorEq or_true false_or true_or or_false
attribute [go_sem] rX hZ
theorem wrap64{x:Int}(h1 : -9223372036854775808≤x)(h2:x≤9223372036854775807):IntKind.i64.wrap x=x:=IntWalk.i64_in _ (by omega)
theorem bMh{s:List UInt8}:decide (s=[])=decide (s.length=0):=by cases s<;>simp
attribute [go_sem] wrap64 bMh Int.toNat_zero aN aS
theorem bAo{d:Nat}:zW Option.none d=some d:=rfl
theorem bHs{k:IntKind}{n:Int}{d:Nat}(h:0≤n):zW (some (.i k n)) d=some n.toNat:=if_pos h
theorem aPc{m:Nat}:((m:Int)-1).toNat=m-1:=by omega
theorem aPb{m:Nat}:((m:Int)-2).toNat=m-2:=by omega
theorem aPd{m:Nat}:((m:Int)+1).toNat=m+1:=by omega
theorem aHp{m:Nat}(h:2≤m):((m:Int)-2+1).toNat=m-1:=by omega
attribute [go_sem] bAo bHs aPc aPb aPd aHp Option.map_none I9 I8 aX aU aM aO aI bA
theorem aVx{l:List (List UInt8)}{k:Nat}(h:k<l.length):(l.map AV.s)[k]? = some (.s (l.getD k [])):=by simp[h]
theorem aEu{q:IntKind}{l:List Int}{k:Nat}(h:k<l.length):(l.map (AV.i q))[k]? = some (.i q (l.getD k 0)):=by simp[h]
attribute [go_sem] aVx aEu
theorem aXm{h:List AObj}{id sz n m:Nat}{cells cs:List AV}(hid:h[id]? = some (.arr false sz cs))(hm:m=n)(hc:cells=cs)(hl:cs.length=n*sz)(hp:persL cs=true):Fin h (.hs id 0 n false) (.own sz cells m):=by
 subst hm hc;refine .inr ⟨⟨rfl,rfl,cells,hid,by omega,?_,hp⟩,by simp[dJ],by simp[dJ,kH]⟩;rw[bG,bE (by omega)]
theorem bBz{α:Type}{l:List α}{n:Nat}(h:l.length≤n):l.take n=l:=bE h
attribute [go_sem] dP
def rQ(h:List AObj)(a:AV):AV:=
 let L:=fun l=>if persL l then l else l.map (gZ 8 h)
 match a with
 | .e0=>.sl [] 0
 | .hs id off n _=>match h[id]? with
   |some (.arr _ sz cells)=>if off+n*sz≤cells.length then .sl (L ((cells.drop off).take (n*sz))) n else .u
   |_=>.u
 | .ptr id off=>match h[id]? with
   |some (.box _ cells)=>.box (L cells) off
   |some (.arr _ _ cells)=>.box (L cells) off
   |_=>.u
 | .mp id=>match h[id]? with
   |some (.map _ ks vs)=>.mapv (L ks) (L vs)
   |_=>.u
 | .fn f a b=>.fn f (L a) (L b)
 | .agg cs=>.agg (L cs)
 | .tup vs=>.tup (L vs)
 |_=>.u
theorem gE{h:List AObj}{a:AV}:gZ dep h a=if pers a then a else rQ h a:=rfl
theorem mA{l:List (List UInt8)}:persL (l.map AV.s)=true:=by
 induction l with
 |nil=>rfl
 |cons x l ih=>simp[persL,pers,ih]
theorem uH{k:IntKind}{l:List Int}:persL (l.map (AV.i k))=true:=by
 induction l with
 |nil=>rfl
 |cons x l ih=>simp[persL,pers,ih]
theorem dA{P:Program}{G:Md}{dr:Option DR}{d:Option Nat}{os:List gA}{K:List AV→List AObj→Prop}{env:List AV}{h:List AObj}{f:FuncId}{A A':List AV}{r:AV}(s:Ctr P G f A' r)(hA:A.map (gZ dep h)=A')
 (k:dN P G dr os K (iV env d (mat r (gU r h A)).1) (mat r (gU r h A)).2):tM P G dr f A d os K env h:=aRf (hA▸s) k
theorem bBy{α β:Type}{f:α→β}{l:List α}{k:Nat}:(l.map f).take k=(l.take k).map f:=List.map_take.symm
theorem bGe{α β:Type}{f:α→β}{l:List α}{k:Nat}:(l.map f).drop k=(l.drop k).map f:=List.map_drop.symm
theorem bEx{α:Type}{l:List α}{k:Nat}(h:k≤l.length):(l.take k).length=k:=by simp;omega
attribute [go_sem] gE rQ mA uH bBy bGe bEx dI aKk
attribute [go_sem] bBz
theorem bPr{l:List (List UInt8)}:flatL (l.map AV.s)=true:=by
 induction l with
 |nil=>rfl
 |cons x l ih=>simp[flatL,flat,ih]
attribute [go_sem] bK bPr gD List.flatMap_nil List.flatMap_cons freeze AObj.fz
section
variable {P:Program} {G:Glob} {N:DR} {env:List AV}
def E1(N:DR)(G:Glob)(env:List AV):Option Operand→Prop
 |some x=>lS N (aev G env x)
 |Option.none=>True
theorem aZe{T:TypeId}{x:Operand}:aBn G N (.load T x) env=lS N (aev G env x):=by simp[aBn,Op.operands,uI]
theorem E9{T:TypeId}{x:Operand}{f:Nat}:aBn G N (.fieldAddr T x f) env=lS N (aev G env x):=by simp[aBn,Op.operands,uI]
theorem aGi{T:TypeId}{x i:Operand}:aBn G N (.indexAddr T x i) env=(lS N (aev G env x)∧lS N (aev G env i)):=by simp[aBn,Op.operands,uI]
theorem bGw{T:TypeId}{x:Operand}{l hi m:Option Operand}:aBn G N (.slice T x l hi m) env=(lS N (aev G env x)∧E1 N G env l∧E1 N G env hi∧E1 N G env m):=by
 cases l<;>cases hi<;>cases m<;>simp[aBn,Op.operands,uI,E1]
theorem bZz{T:TypeId}{x:Operand}:aBn G N (.call ⟨.builtin .len,#[x],#[T]⟩) env=lS N (aev G env x):=by simp[aBn,Op.operands,Call.operands,uI]
theorem aGj{T:TypeId}{s x:Operand}:aBn G N (.call ⟨.builtin .append,#[s,x],#[T,T]⟩) env=wU N (aev G env s):=by simp[aBn]
variable {P:Program} {d:Option Nat} {os:List gA} {K:List AV→List AObj→Prop} {h:List AObj}
theorem bVs{T:TypeId}{x:Operand}:ckV P G N (.load T x) d os K env h=(lS N (aev G env x)∧fG P G (some N) (.load T x) d os K env h):=by rw[← aZe (T:=T)];rfl
theorem bPi{T:TypeId}{a x:Operand}:ckV P G N (.store T a x) d os K env h=(wU N (aev G env a)∧fG P G (some N) (.store T a x) d os K env h):=rfl
theorem aJe{T:TypeId}{x:Operand}{f:Nat}:ckV P G N (.fieldAddr T x f) d os K env h=(lS N (aev G env x)∧fG P G (some N) (.fieldAddr T x f) d os K env h):=by rw[← E9 (T:=T) (f:=f)];rfl
theorem cDo{T:TypeId}{x:Operand}{l hi m:Option Operand}:ckV P G N (.slice T x l hi m) d os K env h=((lS N (aev G env x)∧E1 N G env l∧E1 N G env hi∧E1 N G env m)∧fG P G (some N) (.slice T x l hi m) d os K env h):=by rw[← bGw (T:=T)];rfl
theorem bFd{T:TypeId}{s x:Operand}:ckV P G N (.call ⟨.builtin .append,#[s,x],#[T,T]⟩) d os K env h=(wU N (aev G env s)∧fG P G (some N) (.call ⟨.builtin .append,#[s,x],#[T,T]⟩) d os K env h):=by rw[← aGj (T:=T) (x:=x)];rfl
theorem bOi{n id:Nat}:DR.old ⟨n,[]⟩ id=(id<n):=rfl
theorem bOh{n x id:Nat}:DR.old ⟨n,[x]⟩ id=(id<n∧¬id=x):=by simp[DR.old]
theorem bOx{n id:Nat}:DR.mut ⟨n,[]⟩ id=(n≤id):=rfl
theorem bOw{n x id:Nat}:DR.mut ⟨n,[x]⟩ id=(n≤id∨id=x):=by simp[DR.mut]
end
theorem bPn{α:Type}{l m:List α}{n:Nat}:(l++m)[l.length+n]? = m[n]? := by rw[aR (by omega)];congr 1;omega
theorem bFs{α:Type}{l m:List α}:(l++m)[l.length]? = m[0]? := by rw[aR (by omega)];congr 1;omega
theorem bMp{α:Type}{l m:List α}{n:Nat}{a:α}:(l++m).set (l.length+n) a=l++m.set n a:=by rw[jU _ _ (by omega)];congr 2;omega
theorem bCo{α:Type}{l m:List α}{a:α}:(l++m).set l.length a=l++m.set 0 a:=by rw[jU _ _ (by omega)];congr 2;omega
attribute [go_sem] bPn bFs bMp bCo bU List.length_append
attribute [go_sem ↓] bVs bPi aJe cDo bFd
attribute [go_sem] E1 lS wU AV.refs bOi bOh bOx bOw
def jI(sz N:Nat)(g:List AObj)(out:AV)(cells:List AV)(n:Nat):Prop:=
 (out=.e0∧cells=[]∧n=0)∨∃i,out=.hs (i+N) 0 n false∧g[i]? = some (.arr false sz cells)∧cells.length=n*sz
theorem kX{sz N:Nat}{g:List AObj}:jI sz N g .e0 [] 0:=.inl ⟨rfl,rfl,rfl⟩
theorem jI.more{sz N:Nat}{g:List AObj}{out:AV}{cells:List AV}{n:Nat}(h:jI sz N g out cells n)(g':List AObj):jI sz N (g++g') out cells n:=by
 rcases h with h|⟨i,h1,h2,h3⟩
 ·exact .inl h
 ·exact .inr ⟨i,h1,by rw[aG (bP h2)];exact h2,h3⟩
section
variable {P:Program} {G:Md} {dr:Option DR} {d:Option Nat} {os:List gA} {K:List AV→List AObj→Prop} {env:List AV}
theorem bAh{pre g:List AObj}{T e by_:Nat}{z:List AV}{out x:AV}{cells news:List AV}{n m:Nat}(ho:jI z.length pre.length g out cells n)(hT:fV P T=some e)(hz:zeroOf P e=some z)(hs:lP P e=some z.length)(hb:aCo P e=some by_)
 (hpos:0<z.length) (hp:tU (pre++g) x=true) (hx:R0 (pre++g) z.length x=some (news,m)) (hbd:(n+m)*by_≤140737488355328∧n+m≤140737488355328)
 (k:∀out' g',jI z.length pre.length g' out' (cells++news) (n+m)→(∀(i:Nat) (o:AObj),g[i]? = some o→(∀c:List AV,o ≠ .arr false z.length c)→g'[i]? = some o)→dN P G dr os K (iV env d out') (pre++g')):oE P G dr (aHb P (pre++g) T out x) d os K env:=by
 have hm : news.length=m*z.length:=by
  cases x with
  |e0=>simp only[R0,aB,bH]at hx;obtain⟨rfl,rfl⟩:=hx;simp
  |sl c q=>
   simp only[R0]at hx;split at hx
   ·simp only[aB,bH]at hx;obtain⟨rfl,rfl⟩:=hx;assumption
   ·cases hx
  |hs id off q t=>
   simp only[R0]at hx;split at hx
   ·split at hx
    ·rename_i hc;simp only[aB,bH]at hx;obtain⟨rfl,rfl⟩:=hx;rw[List.length_take,dI];omega
    ·cases hx
   ·cases hx
  |_=>simp[R0]at hx
 have e1:aHb P (pre++g) T out x=iE P (pre++g) T out x:=by simp[aHb,hp]
 rw[e1];rcases ho with⟨rfl,rfl,rfl⟩|⟨i,rfl,hi,hl⟩
 ·have e2:iE P (pre++g) T .e0 x=some (.hs (pre++g).length 0 m false,(pre++g)++[.arr false z.length news]):=by
   simp only[iE,hT,hz,hb,hpos,hs,hx,and_self,if_true,true_and];rw[if_pos (by simpa using hbd)]
  rw[e2];show dN P G dr os K _ _;rw[bU];refine k _ _ (.inr ⟨g.length,?_,by simp,by simpa using hm⟩) (fun i o ho _=>by rw[aG (bP ho)];exact ho);simp[nW]
 ·have hlt:=bP hi;have hg:(pre++g)[i+pre.length]? = some (.arr false z.length cells):=by
   rw[aR (by omega)];simpa using hi
  have e2:iE P (pre++g) T (.hs (i+pre.length) 0 n false) x=some (.hs (pre++g).length 0 (n+m) false,(pre++g).set (i+pre.length) .dead++[.arr false z.length (cells++news)]):=by
   simp only[iE,hT,hz,hb,hpos,hs,hx,hg,and_self,if_true,true_and,hl,dM,bK,hbd,aE,if_false,bG]
  rw[e2];show dN P G dr os K _ _;rw[jU _ _ (by omega),bU,Nat.add_sub_cancel];refine k _ _ (.inr ⟨g.length,?_,by simp,?_⟩) (fun j o hj hn=>?_)
  ·simp[nW]
  ·rw[List.length_append,hl,hm,Nat.add_mul]
  ·have hne:i≠j:=by
    rintro rfl;rw[hi]at hj;cases hj;exact hn _ rfl
   rw[aG (by simpa using bP hj),dW hne];exact hj
theorem gM{h pre g more:List AObj}{T e by_ sz N:Nat}{z:List AV}{out x:AV}{cells news:List AV}{n m:Nat}(ho:jI sz N g out cells n)(hN:pre.length=N)(hh:h=pre++(g++more))(hT:fV P T=some e)(hz:zeroOf P e=some z)(hs:lP P e=some sz)(hb:aCo P e=some by_)
 (hzl:z.length=sz) (hpos:0<sz) (hp:tU h x=true) (hx:R0 h sz x=some (news,m)) (hbd:(n+m)*by_≤140737488355328∧n+m≤140737488355328)
 (k:∀out' g',jI sz N g' out' (cells++news) (n+m)→(∀(i:Nat) (o:AObj),g[i]? = some o→(∀c:List AV,o ≠ .arr false sz c)→g'[i]? = some o)→dN P G dr os K (iV env d out') (pre++g')):oE P G dr (aHb P h T out x) d os K env:=by
 subst hh hzl hN;exact bAh (ho.more more) hT hz hs hb hpos hp hx hbd (fun out' g' h1 h2=>k out' g' h1 (fun i o hi hn=>h2 i o (by rw[aG (bP hi)];exact hi) hn))
end
theorem aBe{pre g:List AObj}{sz n:Nat}{out:AV}{cells:List AV}(ho:jI sz pre.length g out cells n)(hp:persL cells=true):Fin (pre++g) out (.own sz cells n):=by
 rcases ho with⟨rfl,rfl,rfl⟩|⟨i,rfl,hi,hl⟩
 ·exact .inr ⟨⟨rfl,rfl⟩,by simp[dJ],by simp[dJ]⟩
 ·exact aXm (by rw[aR (by omega)];simpa using hi) rfl rfl hl hp
end Go.Vo

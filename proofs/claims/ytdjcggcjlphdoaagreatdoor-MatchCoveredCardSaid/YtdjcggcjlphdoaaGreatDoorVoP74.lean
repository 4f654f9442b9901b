/-
  The abstract layer, part Pc: a statement whose order Go leaves open: run in the order of its text it stands for every order. It speaks of any program that mixes its orders; no condition.
-/
import Derived.Test.YtdjcggcjlphdoaaGreatDoorVoP73
set_option linter.unusedVariables false
set_option linter.unusedSimpArgs false
set_option linter.constructorNameAsVariable false
namespace Go.Vo
def nR(ops:Array Oper)(i:Nat):Bool:=match ops[i]? with|some o=>eB o|Option.none=>false
def Fs(ops:Array Oper):List Nat:=(List.range ops.size).filter (nR ops)
def Rs(ops:Array Oper):List Nat:=(List.range ops.size).filter fun i => !nR ops i
def InR(ops:Array Oper)(p i:Nat):Prop:=∃m,m<p∧(Rs ops)[m]? = some i
def Chg(rx:RX)(ops:Array Oper)(o:Oper):Prop:=dk rx ops o=some .w∨dk rx ops o=some .l
section
variable {P:Program} {G:Md} {rx:RX} {ops:Array Oper}
theorem cDe{o:Oper}:dk rx ops o=some .a↔eB o=true:=by
 constructor
 ·intro h;exact bGl.1 (aAg h (by decide) (by decide)).2.2
 ·intro h;have hv:vOf rx ops o=false:=by
   cases hq:vOf rx ops o with
   |false=>rfl
   |true=>
    obtain⟨T,len,ps,ho,_⟩:=aJg hq;unfold eB at h;rw[ho]at h;cases h
  have hz:zOf rx o=false:=by
   cases hq:zOf rx o with
   |false=>rfl
   |true=>
    obtain⟨f,as,ts,ho⟩:=aBw hq;unfold eB at h;rw[ho]at h;cases h
  unfold dk;rw[hv,hz];simpa using bGl.2 h
theorem bSu{o:Oper}{k:DK}(h:dk rx ops o=some k)(hk:k ≠ .c)(hl:k ≠ .l):omOf rx ops o=.n:=bRn (aAg h hk hl).1 (aAg h hk hl).2.1
theorem aVs{N:DR}{o:Oper}{k:DK}(h:dk rx ops o=some k)(hk:k ≠ .c)(hl:k ≠ .l){env:List AV}{hh h':List AObj}{x:AV}(e:DOc P G N (omOf rx ops o) o.op env hh x h'):DOp P G o.op env hh x h':=by
 rw[bSu h hk hl]at e;exact e
theorem bSs{N:DR}{o:Oper}{k:DK}(h:dk rx ops o=some k)(hk:k ≠ .c)(hl:k ≠ .l){env:List AV}{hh h':List AObj}{x:AV}(e:DOp P G o.op env hh x h'):DOc P G N (omOf rx ops o) o.op env hh x h':=by
 rw[bSu h hk hl];exact e
theorem aLh{N:DR}{o:Oper}(h:dk rx ops o=some .w){env:List AV}{hh h':List AObj}{x:AV}(e:DOc P G N (omOf rx ops o) o.op env hh x h'):F8 hh h':=bPx (aAg h (by decide) (by decide)).2.2 (aVs h (by decide) (by decide) e)
theorem aLg{N:DR}{o:Oper}(h:dk rx ops o=some .c){env:List AV}{h0 hh:List AObj}{x:AV}(e:DOc P G N (omOf rx ops o) o.op env h0 x hh):hh=h0∧∀h',DOc P G N (omOf rx ops o) o.op env h' x h':=by
 cases hv:vOf rx ops o with
 |true=>
  have hm:omOf rx ops o=.v:=by simp[omOf,hv]
  rw[hm]at e ⊢;exact⟨e.2,fun h'=>⟨e.1,rfl⟩⟩
 |false=>
  have hz:zOf rx o=false:=by
   cases hq:zOf rx o with
   |false=>rfl
   |true=>unfold dk at h;rw[hv,hq]at h;simp at h
  rw[bRn hv hz]at e ⊢;have hd:uW o=some .c:=by unfold dk at h;rw[hv,hz]at h;simpa using h
  exact bKo hd e
theorem aLf{N:DR}{o:Oper}(hk:dk rx ops o=some .r∨dk rx ops o=some .c){env:List AV}{h hh:List AObj}{x:AV}(e:DOc P G N (omOf rx ops o) o.op env h x hh):hh=h:=by
 rcases hk with hk|hk
 ·exact(aCp (aKp (aAg hk (by decide) (by decide)).2.2) (aVs hk (by decide) (by decide) e)).1
 ·exact(aLg hk e).1
theorem aFy{f:Operand}{as:Array Operand}{ts:Array TypeId}{K:AV→List AObj→Prop}{env env':List AV}{h:List AObj}(he:∀o∈(Op.call ⟨.value f,as,ts⟩).operands.toList,aev G env o=aev G env' o)(e:fV P G.np false (.call ⟨.value f,as,ts⟩) K env h):fV P G.np false (.call ⟨.value f,as,ts⟩) K env' h:=by
 simp only[fV,mR]at e ⊢;have hargs:as.toList.map (aev G env')=as.toList.map (aev G env):=(nX (fun o ho=>he o (by simp only[Op.operands,Call.operands];simp;simp at ho;exact .inr ho))).symm;rw[hargs,(he f (by simp[Op.operands,Call.operands])).symm];exact e
theorem aEl{N:DR}{m:OM}{op:Op}{env env':List AV}{h h':List AObj}{x:AV}(he:∀o∈op.operands.toList,aev G env o=aev G env' o)(e:DOc P G N m op env h x h'):DOc P G N m op env' h x h':=by
 cases m with
 |n=>exact V6 he e
 |z=>
  obtain⟨⟨f,as,ts,rfl⟩,h1,h2⟩:=e;exact⟨⟨f,as,ts,rfl⟩,aFy he h1,h2⟩
 |v =>
  obtain⟨⟨T,len,ps,rfl,ha⟩,rfl⟩:=e;refine⟨⟨T,len,ps,rfl,?_⟩,rfl⟩;have hm:(ps.toList.map fun(i,x)=>(i,aev G env' x))=ps.toList.map fun(i,x)=>(i,aev G env x):=by
   apply jC;rintro⟨i,y⟩ hp;simp only[bL,true_and];exact(he y (by simp only[Op.operands];simp;exact⟨i,by simpa using hp⟩)).symm
  unfold aOx at ha ⊢;rw[hm];exact ha
theorem bSt{N:DR}{o:Oper}{X:Ctx}{w:World}{h h1:List AObj}{env:List AV}{a:Act}{x:AV}{next:Act→World→Prop}{Q:Exit→Act→World→Prop}(g:GH G X w h)(r:EnvOK G.ds X w h env a)(e:DOc P G N (omOf rx ops o) o.op env h x h1)
 (hn:∀a' w' X',GH G X' w' h1→EnvOK G.ds X' w' h1 (iE env o.dst x) a'→Tr X w h X' w' h1→next a' w'):o.wp P a w next Q:=by
 cases hm:omOf rx ops o with
 |n=>
  rw[hm]at e;refine N6 (K:=fun x1 h2=>x1=x∧h2=h1) o g r e ?_ (fun h=>by cases h);rintro x' h' a' w' X' ⟨rfl,rfl⟩ g' r' t;exact hn _ _ _ g' r' t
 |z=>
  rw[hm]at e;refine N6 (G:=G.np) (K:=fun x1 h2=>x1=x∧h2=h1) o g r e.2.1 ?_ (fun _ _ _ _ _ _ k=>k.elim);rintro x' h' a' w' X' ⟨rfl,rfl⟩ g' r' t;exact hn _ _ _ g' r' t
 |v=>
  rw[hm]at e;obtain⟨⟨T,len,ps,ho,ha⟩,rfl⟩:=e;exact kR r (aRd o ho g r ha) hn
end
theorem aCa{α:Type}(ops:Array α):ops.toList=(List.range ops.size).filterMap (ops[·]?):=by
 apply oB;intro i;have key:∀n,n≤ops.size→(List.range n).filterMap (ops[·]?)=ops.toList.take n:=by
  intro n;induction n with
  |zero=>intro _;simp
  |succ n ih=>
   intro hn;have hlt:n<ops.size:=by omega
   rw[List.range_succ,List.filterMap_append,ih (by omega)];simp[hlt,List.take_add_one]
 rw[key ops.size (bV _)];simp[← Array.length_toList]
theorem bCk(ops:Array Oper):fQ ops=(Fs ops++Rs ops).filterMap (ops[·]?):=by
 have h1:∀(q:Oper→Bool) (q':Nat→Bool),(∀i o,ops[i]? = some o→q' i=q o)→ops.toList.filter q=((List.range ops.size).filter q').filterMap (ops[·]?):=by
  intro q q' hq;rw[aCa];generalize List.range ops.size=l;induction l with
  |nil=>rfl
  |cons i l ih=>
   cases ho:ops[i]? with
   |none=>
    rw[mE,ho];simp only;rw[ih,bD];split
    ·rw[mE,ho]
    ·rfl
   |some o=>
    rw[mE,ho];simp only;rw[bD,bD,hq i o ho];split
    ·rw[mE,ho,ih]
    ·exact ih
 unfold fQ Fs Rs;rw[List.filterMap_append,h1 eB (nR ops) (fun i o ho=>by simp[nR,ho]),h1 (fun o => !eB o) (fun i => !nR ops i) (fun i o ho=>by simp[nR,ho])]
section
variable {ops:Array Oper}
theorem B5{i:Nat}:i∈Fs ops↔i<ops.size∧nR ops i=true:=by simp[Fs]
theorem B4{i:Nat}:i∈Rs ops↔i<ops.size∧nR ops i=false:=by simp[Rs]
theorem vN(n:Nat)(q:Nat→Bool){m m' k k':Nat}(h1:((List.range n).filter q)[m]? = some k)(h2:((List.range n).filter q)[m']? = some k')(hl:m<m'):k<k':=by
 have hp:((List.range n).filter q).Pairwise (· < ·):=aPi _ (List.pairwise_lt_range (n:=n));rw[eS]at hp;obtain⟨a1,b1⟩:=gH.1 h1;obtain⟨a2,b2⟩:=gH.1 h2;have:=hp m m' a1 a2 hl;rw[b1,b2]at this;exact this
theorem oW{m m' k k':Nat}(h1:(Rs ops)[m]? = some k)(h2:(Rs ops)[m']? = some k')(hl:m<m'):k<k':=vN _ _ h1 h2 hl
theorem aYm{m m' k:Nat}(h1:(Rs ops)[m]? = some k)(h2:(Rs ops)[m']? = some k):m=m':=by
 rcases Nat.lt_trichotomy m m' with h|h|h
 ·have:=oW h1 h2 h;omega
 ·exact h
 ·have:=oW h2 h1 h;omega
theorem bBk:(Fs ops++Rs ops).Nodup:=by
 rw[kE];refine⟨aPi _ List.nodup_range,aPi _ List.nodup_range,?_⟩;intro a ha b hb hab;subst hab;have:=(B5.1 ha).2;rw[(B4.1 hb).2]at this;cases this
end
structure Told(P:Program)(G:Md)(N:DR)(rx:RX)(ops:Array Oper)(h0:List AObj)(env0:List AV)(x:Nat→AV)(hr:Nat→List AObj)(zz:Nat→List AV):Prop where
 free:∀(q i:Nat),(Fs ops)[q]? = some i→∃(o:Oper) (T:TypeId),ops[i]? = some o∧o.op=.alloc T∧zeroOf P T=some (zz i)∧x i=.ptr (h0.length+q) 0∧(hr 0)[h0.length+q]? = some (.box false (zz i))
 start:∃obs,hr 0=h0++obs∧∀ob∈obs,AObj.isH ob=false
 rest:∀(q i:Nat) (o:Oper),(Rs ops)[q]? = some i→ops[i]? = some o→∃e,EnvIs ops x env0 (fun k=>k∈Fs ops∨InR ops q k) e∧OpAt P G N rx ops o e (hr q) (x i) (hr (q+1))
section
variable {P:Program} {G:Md} {N:DR} {rx:RX} {ops:Array Oper} {B:Nat→Nat→Prop} {h0:List AObj} {env0:List AV}
theorem bBp{α:Type}(l:List α)(q:Nat)(k:α):k∈l.take q↔∃m,m<q∧l[m]? = some k:=by
 rw[dB];constructor
 ·rintro⟨m,hm⟩;rw[eQ]at hm;split at hm
  ·exact⟨m,‹_›,hm⟩
  ·cases hm
 ·rintro⟨m,h1,h2⟩;exact⟨m,by rw[eQ,if_pos h1];exact h2⟩
theorem bJa(D:DOK rx ops B){K:List AV→List AObj→Prop}{al:List fZ}(hs:bY rx ops (fQ ops)=some al)(e:dM P G (some N) al K env0 h0) :
 ∃x hr zz,Told P G N rx ops h0 env0 x hr zz∧∀e,EnvIs ops x env0 (fun i=>i<ops.size) e→K e (hr (Rs ops).length):=by
 rw[bCk]at hs;obtain⟨x,hh,e0,hK,htr⟩:=bQi (Fs ops++Rs ops) al env0 h0 (fun i hi=>by
  rcases cQ.1 hi with h|h
  ·exact(B5.1 h).1
  ·exact(B4.1 h).1) bBk hs e
 have hfr:∀q i,(Fs ops)[q]? = some i→∃(o:Oper) (T:TypeId) (z:List AV),ops[i]? = some o∧o.op=.alloc T∧zeroOf P T=some z∧x i=.ptr (hh q).length 0∧hh (q+1)=hh q++[.box false z]:=by
  intro q i hq;have hm:=B5.1 (dY hq);have ho:ops[i]? = some ops[i]:=by simp[hm.1]
  have hf:eB ops[i]=true:=by have:=hm.2;simp only[nR,ho]at this;exact this
  obtain⟨T,hop,hg,_⟩:=L6 hf;have hat:=htr q i ops[i] (by rw[aN (bW hq)];exact hq) ho;unfold OpAt at hat;rw[hg]at hat;have hvf:vOf rx ops ops[i]=false:=by unfold vOf vY;rw[hop];simp
  have hzf:zOf rx ops[i]=false:=by unfold zOf;rw[hop]
  have hd2:=hat.2;rw[bRn hvf hzf]at hd2;obtain⟨z,hz,hx,hh'⟩:=aEk (hop▸hd2);exact⟨ops[i],T,z,ho,hop,hz,hx,hh'⟩
 have hzz:∃zz:Nat→List AV,∀q i,(Fs ops)[q]? = some i→∃(o:Oper) (T:TypeId),ops[i]? = some o∧o.op=.alloc T∧zeroOf P T=some (zz i)∧x i=.ptr (hh q).length 0∧hh (q+1)=hh q++[.box false (zz i)]:=by
  refine⟨fun i=>match ops[i]? with|some o=>(match o.op with| .alloc T=>(zeroOf P T).getD []|_=>[])|Option.none=>[],?_⟩;intro q i hq;obtain⟨o,T,z,ho,hop,hz,hx,hh'⟩:=hfr q i hq;exact⟨o,T,ho,hop,by simp[ho,hop,hz],hx,by simp[ho,hop,hz,hh']⟩
 obtain⟨zz,hzz⟩:=hzz;have hlen:∀q,q≤(Fs ops).length→(hh q).length=h0.length+q∧(∃obs,hh q=h0++obs∧∀ob∈obs,AObj.isH ob=false)∧∀m i,m<q→(Fs ops)[m]? = some i→(hh q)[h0.length+m]? = some (.box false (zz i)):=by
  intro q;induction q with
  |zero=>intro _;exact⟨by rw[e0];rfl,⟨[],by rw[e0];simp,by simp⟩,fun m i h=>by omega⟩
  |succ q ih=>
   intro hq;obtain⟨i1,⟨obs,i2,i2b⟩,i3⟩:=ih (by omega);have hqi:(Fs ops)[q]? = some (Fs ops)[q]:=by simp[show q<(Fs ops).length by omega]
   obtain⟨o,T,ho,hop,hz,hx,hh'⟩:=hzz q _ hqi;refine⟨by rw[hh'];simp[i1];omega,⟨obs++[.box false (zz (Fs ops)[q])],by rw[hh',i2];simp,fun ob hob=>by exact(cQ.1 hob).elim (i2b ob) (fun m=>by rw[aP]at m;subst m;rfl)⟩,?_⟩;intro m i hm hmi;rw[hh'];by_cases hmq:m=q
   ·subst hmq;rw[hqi]at hmi;cases hmi;rw[aX (by omega)];simp[i1]
   ·rw[aN (by omega)];exact i3 m i (by omega) hmi
 obtain⟨l1,l2,l3⟩:=hlen (Fs ops).length (bV _);refine⟨x,fun q=>hh ((Fs ops).length+q),zz,⟨?_,l2,?_⟩,?_⟩
 ·intro q i hq;obtain⟨o,T,ho,hop,hz,hx,hh'⟩:=hzz q i hq;refine⟨o,T,ho,hop,hz,?_,l3 q i (bW hq) hq⟩;rw[hx,(hlen q (Nat.le_of_lt (bW hq))).1]
 ·intro q i o hq ho;refine⟨_,?_,htr ((Fs ops).length+q) i o (by rw[aX (by omega)];simpa using hq) ho⟩;refine(aLe D _).congr (fun k=>?_);rw[List.take_append,bB (by omega),Nat.add_sub_cancel_left,cQ,bBp (Rs ops)];rfl
 ·intro e he;have:e=zL ops x (Fs ops++Rs ops) env0:=he.unique D ((aLe D _).congr (fun k=>by
   rw[cQ,B5,B4];cases nR ops k<;>simp))
  rw[this];have:=hK;rw[List.length_append]at this;exact this
structure Inv(P:Program)(G:Md)(rx:RX)(ops:Array Oper)(h0:List AObj)(env0:List AV)(x:Nat→AV)(hr:Nat→List AObj)(zz:Nat→List AV)(X0:Ctx)(w0:World)(S:Nat→Prop)(X:Ctx)(w:World)(a:Act)(p:Nat)(e:List AV):Prop where
 hp:p≤(Rs ops).length
 g:GH G X w (hr p)
 ei:EnvIs ops x env0 S e
 eo:EnvOK G.ds X w (hr p) e a
 tr:Tr X0 w0 h0 X w (hr p)
 ch:∀(i:Nat) (o:Oper),ops[i]? = some o→Chg rx ops o→(S i↔InR ops p i)
 pend:∀(q i:Nat),(Fs ops)[q]? = some i→¬S i→(hr p)[h0.length+q]? = some (.box false (zz i))∧X.ι (h0.length+q)=Option.none
 cl:Closed ops S
 lt:∀i,S i→i<ops.size
variable {x:Nat→AV} {hr:Nat→List AObj} {zz:Nat→List AV} {X0:Ctx} {w0:World} {S:Nat→Prop} {X:Ctx} {w:World} {a:Act} {p:Nat} {e:List AV}
theorem N3{i:Nat}{o:Oper}(cl:Closed ops S)(hi:ops[i]? = some o)(hpre:∀e,e∈anyPre o→S e):Closed ops (fun k=>S k∨k=i):=by
 rintro k ok (s|rfl) hk e he
 ·exact .inl (cl k ok s hk e he)
 ·rw[hi]at hk;cases hk;exact .inl (hpre e he)
theorem Y8(D:DOK rx ops B)(T:Told P G N rx ops h0 env0 x hr zz){m k:Nat}{ok:Oper}(hm:(Rs ops)[m]? = some k)(hk:ops[k]? = some ok)(hc:¬Chg rx ops ok):(dk rx ops ok=some .r∨dk rx ops ok=some .c)∧hr (m+1)=hr m:=by
 have hnf:eB ok=false:=by
  have:=(B4.1 (dY hm)).2;simp only[nR,hk]at this;exact this
 have hkind:dk rx ops ok=some .r∨dk rx ops ok=some .c:=by
  have:=D.kind k ok hk;cases hd:dk rx ops ok with
  |none=>rw[hd]at this;cases this
  |some d=>
   cases d with
   |c=>exact .inr rfl
   |a=>rw[cDe.1 hd]at hnf;cases hnf
   |r=>exact .inl rfl
   |w=>exact absurd (.inl hd) hc
   |l=>exact absurd (.inr hd) hc
 refine⟨hkind,?_⟩;obtain⟨eT,_,hat⟩:=T.rest m k ok hm hk;unfold OpAt at hat;cases hg:ok.guard with
 |none=>rw[hg]at hat;exact aLf hkind hat.2
 |some q=>
  obtain⟨j,want⟩:=q;rw[hg]at hat;obtain⟨d,b,_,_,h1,h2⟩:=hat;cases b with
  |true=>exact aLf hkind (h1 rfl).2
  |false=>exact(h2 rfl).2
theorem G3(D:DOK rx ops B)(T:Told P G N rx ops h0 env0 x hr zz){m k:Nat}{ok:Oper}(hm:(Rs ops)[m]? = some k)(hk:ops[k]? = some ok)(hc:dk rx ops ok≠some .l):F8 (hr m) (hr (m+1)):=by
 by_cases hc2:Chg rx ops ok
 ·have hw:dk rx ops ok=some .w:=hc2.resolve_right hc;obtain⟨eT,_,hat⟩:=T.rest m k ok hm hk;unfold OpAt at hat;cases hg:ok.guard with
  |none=>rw[hg]at hat;exact aLh hw hat.2
  |some q=>
   obtain⟨j,want⟩:=q;rw[hg]at hat;obtain⟨d,b,_,_,h1,h2⟩:=hat;cases b with
   |true=>exact aLh hw (h1 rfl).2
   |false=>rw[(h2 rfl).2];exact .refl _
 ·rw[(Y8 D T hm hk hc2).2];exact .refl _
theorem aAd{a : Nat}:∀(b:Nat),a≤b→(∀m,a≤m→m<b→hr (m+1)=hr m)→hr b=hr a
 |0,h,_ => by have:a=0:=by omega
              rw[this]
 |b + 1,h,hs=>by
  by_cases hab:a=b+1
  ·rw[hab]
  ·rw[hs b (by omega) (by omega)];exact aAd b (by omega) (fun m h1 h2=>hs m h1 (by omega))
theorem zG{a:Nat}:∀(b:Nat),a≤b→(∀m,a≤m→m<b→F8 (hr m) (hr (m+1)))→F8 (hr a) (hr b)
 |0,h,_ => by have:a=0:=by omega
              rw[this];exact .refl _
 |b+1,h,hs=>by
  by_cases hab:a=b+1
  ·rw[hab];exact .refl _
  ·exact(zG b (by omega) (fun m h1 h2=>hs m h1 (by omega))).trans (hs b (by omega) (by omega))
theorem mT.refl(N:DR)(h:List AObj):mT N h h:=fun id o _ ho=>⟨o,ho,rfl⟩
theorem mT.trans{N:DR}{a b c:List AObj}(x:mT N a b)(y:mT N b c):mT N a c:=fun id o hn ho=>by
 obtain⟨o1,h1,e1⟩:=x id o hn ho;obtain⟨o2,h2,e2⟩:=y id o1 hn h1;exact⟨o2,h2,e2.trans e1⟩
theorem F8.toN{N:DR}{h h':List AObj}(g:F8 h h'):mT N h h':=fun id o _ ho=>g id o ho
theorem vZ{N:DR}{a:Nat}:∀(b:Nat),a≤b→(∀m,a≤m→m<b→mT N (hr m) (hr (m+1)))→mT N (hr a) (hr b)
 |0,h,_ => by have:a=0:=by omega
              rw[this];exact .refl _ _
 |b+1,h,hs=>by
  by_cases hab:a=b+1
  ·rw[hab];exact .refl _ _
  ·exact(vZ b (by omega) (fun m h1 h2=>hs m h1 (by omega))).trans (hs b (by omega) (by omega))
theorem mT.app{N:DR}(h obs:List AObj):mT N h (h++obs):=(F8.app h obs).toN
theorem mT.set{N:DR}{id:Nat}{h:List AObj}{ob:AObj}(hn:N.mut id):mT N h (h.set id ob):=fun i o hi ho=>⟨o,by rw[eA (zV (DR.apart hi hn))];exact ho,rfl⟩
theorem C6{N:DR}{h h':List AObj}{T:TypeId}{s x y:AV}(hs:sT N s)(e:gZ P h T s x=some (y,h')):mT N h h':=by
 unfold gZ at e;split at e;case h_2=>cases e
 split at e;case h_2=>cases e
 split at e;case isFalse=>cases e
 split at e;case h_2=>cases e
 split at e
 ·split at e
  ·cases e;exact .app _ _
  ·cases e
 ·rename_i id off n t;have hn:N.mut id:=hs;split at e;case h_2=>cases e
  split at e;case isFalse=>cases e
  split at e
  ·split at e
   ·cases e;exact .app _ _
   ·cases e
  split at e
  ·cases e
  split at e
  ·cases e;exact(mT.set hn).trans (.app _ _)
  split at e
  ·cases e;exact .set hn
  ·cases e;exact(mT.set hn).trans (.app _ _)
 ·cases e
theorem aKo{p q:Oper}(h:P9 rx ops p q=true):P9 rx ops q p=true:=by
 unfold P9 at h ⊢;simp only[aD,cB]at h ⊢;exact⟨h.1,h.2.symm⟩
theorem T2{N:DR}:∀{l:List AV},vG N l→∀a∈l,mH N a
 | [],_,a,h=>by cases h
 |x::l,h,a,ha=>by
  rcases dA.1 ha with rfl|ha
  ·exact h.1
  ·exact T2 h.2 a ha
theorem bVs{N:DR}{o:Oper}(hk:uW o=some .r){env:List AV}(hck:aOn G (some N) true o.op env):∀y∈o.op.operands.toList,∀{id:Nat},(aev G env y).refs=some id→N.old id:=by
 intro y hy id hid;have hall:vG N (o.op.operands.toList.map (aev G env)):=by
  simp only[aOn]at hck;unfold aFb at hck;unfold uW at hk;cases ho:o.op with
  |call c=>
   rw[ho]at hck hk;simp only at hck hk;cases hc:c.callee with
   |builtin b=>rw[hc]at hck hk;cases b<;>first|exact hck|simp at hk
   |value f=>rw[hc]at hk;simp at hk
   |invoke _ _=>rw[hc]at hk;simp at hk
  |store T a x=>rw[ho]at hk;simp at hk
  |buildSlice T n ps=>rw[ho]at hk;simp only at hk;split at hk<;>simp at hk
  |_=>rw[ho]at hck;exact hck
 have:=T2 hall _ (dX.2 ⟨y,hy,rfl⟩);unfold mH at this;rw[hid]at this;exact this
theorem bLv{ok:Oper}{eT:List AV}{h0 h1:List AObj}{xk:AV}(hmm:aHv ok=true)(hc:aOn G (some N) true ok.op eT)(hd:DOp P G ok.op eT h0 xk h1):mT N h0 h1:=by
 have h2:=hmm;unfold aHv at h2;rcases cB _ _▸h2 with h2|h2;case inr=>
  unfold jX at h2;split at h2;case h_2=>cases h2
  rename_i T y z ho;rw[ho]at hc hd;simp only[aOn,aFb]at hc;unfold DOp at hd;simp only[fV,aop]at hd;cases hst:tO P (h0) T (aev G eT y) (aev G eT z)with
  |none=>rw[hst]at hd;exact hd.elim
  |some h'=>
   rw[hst]at hd;obtain⟨_,rfl⟩:=hd;unfold tO at hst;split at hst;case h_2=>cases hst
   rename_i id off cs n hy _ _;rw[hy]at hc;have hn:N.mut id:=hc;split at hst
   ·split at hst
    ·rw[← fJ hst];exact .set hn
    ·cases hst
   ·split at hst
    ·rw[← fJ hst];exact .set hn
    ·cases hst
   ·cases hst
 unfold rC at h2;split at h2;case h_2=>cases h2
 rename_i args tys ho;rw[ho]at hc hd;simp only[aOn,aFb]at hc;unfold DOp at hd;simp only[fV,mR]at hd;split at hc;case h_2=>exact hc.elim
 rename_i s z hargs;rw[hargs]at hd;split at hd;case h_2=>exact hd.elim
 rename_i A B s' z' _ hz;simp only[iD,and_true]at hz;obtain⟨rfl,rfl⟩:=hz;split at hd;case isFalse=>
  split at hd;case h_2=>exact hd.elim
  cases ha:rS P (h0) A s z with
  |none=>rw[ha]at hd;exact hd.elim
  |some q=>
   rw[ha]at hd;obtain⟨y,h'⟩:=q;obtain⟨_,rfl⟩:=hd;unfold rS at ha;split at ha;case h_2=>cases ha
   split at ha;case h_2=>cases ha
   split at ha;case isFalse=>cases ha
   split at ha
   ·simp only[aF,bL]at ha;rw[← ha.2];exact .refl _ _
   ·simp only[aF,bL]at ha;rw[← ha.2];exact .app _ _
 split at hd
 ·cases ha:gZ P (h0) A s z with
  |none=>rw[ha]at hd;exact hd.elim
  |some q=>
   rw[ha]at hd;obtain⟨y,h'⟩:=q;obtain⟨_,rfl⟩:=hd;exact C6 hc ha
 ·cases ha:gZ P (freeze (eL dep (h0) z) (h0)) A s (iA dep (h0) z)with
  |none=>rw[ha]at hd;exact hd.elim
  |some q=>
   rw[ha]at hd;obtain⟨y,h'⟩:=q;obtain⟨_,rfl⟩:=hd;exact(F8.freeze _ _).toN.trans (C6 hc ha)
theorem aUa{o ok:Oper}(hl:P9 rx ops o ok=true)(hr0:dk rx ops o=some .r):rx.on=true∧ckX rx ops o=true∧aTk rx ops ok=true:=by
 have hr':=(aAg hr0 (by decide) (by decide)).2.2;unfold P9 at hl;simp only[aD,cB]at hl;rcases hl.2 with h|h
 ·exact⟨hl.1,h.1.2,h.2⟩
 ·exfalso;have h2:=h.2;unfold aTk at h2;simp only[cB,aD]at h2;rcases h2 with h2|h2
  ·have h2:=h2.1;unfold aHv rC jX at h2;unfold uW at hr';cases ho:o.op with
   |call c=>
    rw[ho]at hr' h2;obtain⟨ce,as,ts⟩:=c;cases ce with
    |builtin b=>cases b<;>simp at hr' h2
    |_=>simp at h2
   |store T a x=>rw[ho]at hr';simp at hr'
   |_=>rw[ho]at h2;simp at h2
  ·rw[(aAg hr0 (by decide) (by decide)).2.1]at h2;cases h2
theorem bCa(T:Told P G N rx ops h0 env0 x hr zz){m k:Nat}{ok o:Oper}(hm:(Rs ops)[m]? = some k)(hk:ops[k]? = some ok)(hl:P9 rx ops o ok=true)(hr0:dk rx ops o=some .r):mT N (hr m) (hr (m+1)):=by
 obtain⟨eT,_,hat⟩:=T.rest m k ok hm hk;obtain⟨hon,hcx,hmut⟩:=aUa hl hr0;have go0:OpD P G N rx ops ok eT (hr m) (x k) (hr (m+1))→mT N (hr m) (hr (m+1)):=by
  intro hOD;unfold aTk at hmut;simp only[cB,aD]at hmut;rcases hmut with hmm|hz;case inr=>
   have hvz:vOf rx ops ok=false:=by
    cases hq:vOf rx ops ok with
    |false=>rfl
    |true=>
     obtain⟨T,len,ps,ho,_⟩:=aJg hq;obtain⟨f,as,ts,ho2⟩:=aBw hz;rw[ho]at ho2;cases ho2
   have hom:omOf rx ops ok=.z:=by simp[omOf,hvz,hz]
   have:=hOD.2;rw[hom]at this;exact this.2.2
  have hvm:vOf rx ops ok=false:=by
   cases hq:vOf rx ops ok with
   |false=>rfl
   |true=>
    obtain⟨T,len,ps,ho,_⟩:=aJg hq;have h2:=hmm.1;unfold aHv rC jX at h2;rw[ho]at h2;simp at h2
  have hzm:zOf rx ok=false:=by
   cases hq:zOf rx ok with
   |false=>rfl
   |true=>
    obtain⟨f,as,ts,ho⟩:=aBw hq;have h2:=hmm.1;unfold aHv rC jX at h2;rw[ho]at h2;simp at h2
  have happ:aHv ok=true∧ckF rx ops ok=true:=⟨hmm.1,by simp[ckF,hon,hmm.2]⟩;revert hOD;rintro⟨hc,hd⟩;rw[happ.2]at hc;rw[bRn hvm hzm]at hd;exact bLv happ.1 hc hd
 unfold OpAt at hat;cases hg:ok.guard with
 |none=>rw[hg]at hat;exact go0 hat
 |some gq=>
  obtain⟨j,want⟩:=gq;rw[hg]at hat;obtain⟨d,b,_,_,h1,h2⟩:=hat;cases b with
  |true=>exact go0 (h1 rfl)
  |false=>rw[(h2 rfl).2];exact .refl _ _
structure cHz(P:Program)(G:Md)(N:DR)(rx:RX)(ops:Array Oper)(hr:Nat→List AObj)(S:Nat→Prop)(i p:Nat)(o:Oper)(e eT:List AV)(q:Nat)(x:AV):Prop where
 agree:∀t,t∈ouses ops o→e.getD t .u=eT.getD t .u
 at_:OpAt P G N rx ops o eT (hr q) x (hr (q+1))
 run:OpD P G N rx ops o eT (hr q) x (hr (q+1))→∃p',p'≤(Rs ops).length∧DOc P G N (omOf rx ops o) o.op e (hr p) x (hr p')∧∀(k:Nat) (ok:Oper),ops[k]? = some ok→Chg rx ops ok→((S k∨k=i)↔InR ops p' k)
 drop:hr (q+1)=hr q→∃p',p'≤(Rs ops).length∧hr p'=hr p∧∀(k:Nat) (ok:Oper),ops[k]? = some ok→Chg rx ops ok→((S k∨k=i)↔InR ops p' k)
theorem cGd(D:DOK rx ops B)(T:Told P G N rx ops h0 env0 x hr zz)(I:Inv P G rx ops h0 env0 x hr zz X0 w0 S X w a p e){i:Nat}{o:Oper}(hi:ops[i]? = some o)(hS:¬S i)(hpre:∀e,e∈anyPre o→S e)(hf:eB o=false) :
 ∃eT q,cHz P G N rx ops hr S i p o e eT q (x i):=by
 have hlt:i<ops.size:=(bI.1 hi).1;have hiR:i∈Rs ops:=B4.2 ⟨hlt,by simp only[nR,hi];exact hf⟩;obtain⟨q,hq⟩:=dB.1 hiR;obtain⟨eT,hT,hat⟩:=T.rest q i o hq hi;have notF:i∉Fs ops:=fun h=>by have:=(B5.1 h).2;simp only[nR,hi]at this;rw[hf]at this;cases this
 have bef1:∀k,B k i→S k:=D.before I.cl i o hi hpre;have bef2:∀k ok,ops[k]? = some ok→S k→¬B i k:=fun k ok hk s hb=>hS (D.before I.cl k ok hk (I.cl k ok s hk) i hb);have agree:∀t,t∈ouses ops o→e.getD t .u=eT.getD t .u:=by
  intro t ht;refine I.ei.agree D hT t (fun k hk=>?_);obtain⟨ok,hok,hdk⟩:∃ok,ops[k]? = some ok∧ok.dst=some t:=by
   unfold oA at hk;cases hok:ops[k]? with
   |none=>rw[hok]at hk;cases hk
   |some ok=>rw[hok]at hk;exact⟨ok,rfl,hk⟩
  have hkl:k<ops.size:=(bI.1 hok).1;constructor
  ·intro s;cases hfk:nR ops k with
   |true=>exact .inl (B5.2 ⟨hkl,hfk⟩)
   |false=>
    right;obtain⟨m,hm⟩:=dB.1 (B4.2 ⟨hkl,hfk⟩);by_cases hmq:m<q
    ·exact⟨m,hmq,hm⟩
    ·exfalso;have hne:m≠q:=fun h=>by subst h;rw[hq]at hm;cases hm;exact hS s
     have hik:=oW hq hm (by omega);rcases D.ind k i ok o hok hi (by omega)with h|h|h
     ·have:=D.blt i o hi k h;omega
     ·exact bef2 k ok hok s h
     ·exact(qJ h).1 t hdk ht
  ·intro hkk
   by_cases s:S k
   ·exact s
   ·exfalso;have hne:k≠i:=by
     rintro rfl;rcases hkk with h|⟨m,hm,hmk⟩
     ·exact notF h
     ·have:=aYm hmk hq;omega
    rcases D.ind k i ok o hok hi hne with h|h|h
    ·exact s (bef1 k h)
    ·rcases hkk with hF|⟨m,hm,hmk⟩
     ·have hfr:eB ok=true:=by have:=(B5.1 hF).2;simp only[nR,hok]at this;exact this
      obtain⟨_,_,_,hp0⟩:=L6 hfr;rcases D.clo k ok hok i h with h|⟨e,he,_⟩
      ·rw[hp0]at h;cases h
      ·rw[hp0]at he;cases he
     ·have:=D.blt k ok hok i h;have:=oW hmk hq hm;omega
    ·exact(qJ h).1 t hdk ht
 have opd:∀y∈o.op.operands.toList,aev G eT y=aev G e y:=by
  intro y hy;cases y with
  |tmp t=>
   simp only[aev];exact(agree t (by
    unfold ouses;refine eK _ (dZ _ ?_);unfold bRk;exact List.mem_filterMap.2 ⟨.tmp t,hy,rfl⟩)).symm
  |_=>rfl
 have pend:∀m k ok,(Rs ops)[m]? = some k→ops[k]? = some ok→p≤m→m<q→Chg rx ops ok→¬S k:=by
  intro m k ok hm hk h1 h2 hc s;obtain⟨m',hm',hmk⟩:=(I.ch k ok hk hc).1 s;have:=aYm hmk hm;omega
 have at_m:∀m,m<(Rs ops).length→∃k ok,(Rs ops)[m]? = some k∧ops[k]? = some ok:=by
  intro m hm;have h1:(Rs ops)[m]? = some (Rs ops)[m]:=by simp[hm]
  have h2:=(B4.1 (dY h1)).1;exact⟨_,ops[(Rs ops)[m]],h1,by simp[h2]⟩
 have hql:q<(Rs ops).length:=bW hq;by_cases hc:Chg rx ops o
 ·have hpq:p≤q:=by
   rcases fP q p with h|h
   ·exact absurd ((I.ch i o hi hc).2 ⟨q,h,hq⟩) hS
   ·exact h
  have none:∀m k ok,(Rs ops)[m]? = some k→ops[k]? = some ok→p≤m→m<q→¬Chg rx ops ok:=by
   intro m k ok hm hk h1 h2 hck;have s:=pend m k ok hm hk h1 h2 hck;have hki:=oW hm hq h2;rcases D.ind k i ok o hk hi (by omega)with h|h|h
   ·exact s (bef1 k h)
   ·have:=D.blt k ok hk i h;omega
   ·obtain⟨_,_,a,b,ha,hb,hab⟩:=qJ h;rcases hab with hab|hab
    ·rcases hck with c1|c1<;>rcases hc with c2|c2<;>(rw[c1]at ha;rw[c2]at hb;cases ha;cases hb;simp[K8]at hab)
    ·unfold P9 at hab;rcases hck with c1|c1<;>rcases hc with c2|c2<;>simp[c1,c2]at hab
  have heq:hr q=hr p:=aAd q hpq (fun m h1 h2=>by
   obtain⟨k,ok,hk,hok⟩:=at_m m (by omega);exact(Y8 D T hk hok (none m k ok hk hok h1 h2)).2)
  have chq:∀(k:Nat) (ok:Oper),ops[k]? = some ok→Chg rx ops ok→((S k∨k=i)↔InR ops (q+1) k):=by
   intro k ok hok hck;constructor
   ·rintro(s|rfl)
    ·obtain⟨m,hm,hmk⟩:=(I.ch k ok hok hck).1 s;exact⟨m,by omega,hmk⟩
    ·exact⟨q,by omega,hq⟩
   ·rintro⟨m,hm,hmk⟩;by_cases h1:m<p
    ·exact .inl ((I.ch k ok hok hck).2 ⟨m,h1,hmk⟩)
    ·by_cases h2:m=q
     ·subst h2;rw[hq]at hmk;cases hmk;exact .inr rfl
     ·exact absurd hck (none m k ok hmk hok (by omega) (by omega))
  refine⟨eT,q,agree,hat,fun d=>⟨q+1,hql,?_,chq⟩,fun hd=>⟨q+1,hql,by rw[hd,heq],chq⟩⟩;rw[← heq];exact aEl opd d.2
 ·obtain⟨hkind,hsame⟩:=Y8 D T hq hi hc
  have chp:∀(k:Nat) (ok:Oper),ops[k]? = some ok→Chg rx ops ok→((S k∨k=i)↔InR ops p k):=by
   intro k ok hok hck;constructor
   ·rintro(s|rfl)
    ·exact(I.ch k ok hok hck).1 s
    ·rw[hi]at hok;cases hok;exact absurd hck hc
   ·intro h;exact .inl ((I.ch k ok hok hck).2 h)
  refine⟨eT,q,agree,hat,fun d=>⟨p,I.hp,?_,chp⟩,fun _=>⟨p,I.hp,rfl,chp⟩⟩;rcases hkind with hk|hk
  ·refine bSs hk (by decide) (by decide) (V6 opd ((aCp (aKp (aAg hk (by decide) (by decide)).2.2) (aVs hk (by decide) (by decide) d.2)).2 (hr p) ?_));intro y hy;intro id hid;have notL:∀m k ok,(Rs ops)[m]? = some k→ops[k]? = some ok→((p≤m∧m<q)∨(q≤m∧m<p))→dk rx ops ok≠some .l∨P9 rx ops o ok=true:=by
    intro m k ok hm hok hpm;by_cases hl:dk rx ops ok=some .l;case neg=>exact .inl hl
    right;have hck:Chg rx ops ok:=.inr hl;rcases hpm with⟨h1,h2⟩|⟨h1,h2⟩
    ·have s:=pend m k ok hm hok h1 h2 hck;have hki:=oW hm hq h2;rcases D.ind k i ok o hok hi (by omega)with h|h|h
     ·exact absurd (bef1 k h) s
     ·have:=D.blt k ok hok i h;omega
     ·obtain⟨_,_,a,b,ha,hb,hab⟩:=qJ h;rcases hab with hab|hab
      ·rw[hl]at ha;rw[hk]at hb;cases ha;cases hb;simp[K8]at hab
      ·exact aKo hab
    ·have s:S k:=(I.ch k ok hok hck).2 ⟨m,h2,hm⟩;have hne:m≠q:=fun h=>by subst h;rw[hq]at hm;cases hm;exact hS s
     have hik:=oW hq hm (by omega);rcases D.ind k i ok o hok hi (by omega)with h|h|h
     ·have:=D.blt i o hi k h;omega
     ·exact absurd h (bef2 k ok hok s)
     ·obtain⟨_,_,a,b,ha,hb,hab⟩:=qJ h;rcases hab with hab|hab
      ·rw[hl]at ha;rw[hk]at hb;cases ha;cases hb;simp[K8]at hab
      ·exact aKo hab
   have hpl:=I.hp;by_cases hflag:ckF rx ops o=true
   ·have hold:N.old id:=by
     have hck:=d.1;rw[hflag]at hck;exact bVs (aAg hk (by decide) (by decide)).2.2 hck y hy hid
    have step:∀m,m<(Rs ops).length→((p≤m∧m<q)∨(q≤m∧m<p))→mT N (hr m) (hr (m+1)):=by
     intro m hml hpm;obtain⟨k,ok,hk',hok⟩:=at_m m hml;rcases notL m k ok hk' hok hpm with h|h
     ·exact(G3 D T hk' hok h).toN
     ·exact bCa T hk' hok h (by rw[hk])
    rcases Nat.le_total p q with h|h
    ·have gr:mT N (hr p) (hr q):=vZ q h (fun m h1 h2=>step m (by omega) (.inl ⟨h1,h2⟩));have rv:=iW I.g I.eo y;rw[← opd y hy]at rv;obtain⟨ob,hob⟩:=aRi rv hid;obtain⟨ob',h1,h2⟩:=gr id ob hold hob;right;rw[hob,h1];simp[h2]
    ·have gr:mT N (hr q) (hr p):=vZ p h (fun m h1 h2=>step m (by omega) (.inr ⟨h1,h2⟩));cases hx:(hr q)[id]? with
     |none=>left;rfl
     |some ob=>obtain⟨ob',h1,h2⟩:=gr id ob hold hx;right;rw[h1];simp[h2]
   ·have notL2:∀m k ok,(Rs ops)[m]? = some k→ops[k]? = some ok→((p≤m∧m<q)∨(q≤m∧m<p))→dk rx ops ok≠some .l:=by
     intro m k ok hm hok hpm;rcases notL m k ok hm hok hpm with h|h
     ·exact h
     ·obtain⟨q1,q2,_⟩:=aUa h hk;exact absurd (by simp[ckF,q1,q2]) hflag
    rcases Nat.le_total p q with h|h
    ·have gr:F8 (hr p) (hr q):=zG q h (fun m h1 h2=>by
      obtain⟨k,ok,hk,hok⟩:=at_m m (by omega);exact G3 D T hk hok (notL2 m k ok hk hok (.inl ⟨h1,h2⟩)))
     have rv:=iW I.g I.eo y;rw[← opd y hy]at rv;obtain⟨ob,hob⟩:=aRi rv hid;obtain⟨ob',h1,h2⟩:=gr id ob hob;right;rw[hob,h1];simp[h2]
    ·have gr:F8 (hr q) (hr p):=zG p h (fun m h1 h2=>by
      obtain⟨k,ok,hk,hok⟩:=at_m m (by omega);exact G3 D T hk hok (notL2 m k ok hk hok (.inr ⟨h1,h2⟩)))
     cases hx:(hr q)[id]? with
     |none=>left;rfl
     |some ob=>obtain⟨ob',h1,h2⟩:=gr id ob hx;right;rw[h1];simp[h2]
  ·exact aEl opd ((aLg hk d.2).2 (hr p))
theorem aKf(D:DOK rx ops B)(I:Inv P G rx ops h0 env0 x hr zz X0 w0 S X w a p e){i:Nat}{o:Oper}(hi:ops[i]? = some o)(hpre:∀e,e∈anyPre o→S e){p':Nat}(hp:p'≤(Rs ops).length)
 (ch:∀(k:Nat) (ok:Oper),ops[k]? = some ok→Chg rx ops ok→((S k∨k=i)↔InR ops p' k)) {X':Ctx} {w':World} {a':Act} (g:GH G X' w' (hr p')) (eo:EnvOK G.ds X' w' (hr p') (iE e o.dst (x i)) a') (t:Tr X w (hr p) X' w' (hr p')) :
 Inv P G rx ops h0 env0 x hr zz X0 w0 (fun k=>S k∨k=i) X' w' a' p' (iE e o.dst (x i)):=by
 have hd:oA ops i=o.dst:=by simp[oA,hi]
 refine⟨hp,g,hd▸I.ei.step D i,eo,I.tr.trans t,ch,?_,N3 I.cl hi hpre,?_⟩
 ·intro q k hq hk;obtain⟨h1,h2⟩:=I.pend q k hq (fun s=>hk (.inl s));refine⟨t.abs _ _ h1 h2,?_⟩;obtain⟨o',ho',c⟩:=t.ext.obj _ _ h1;rw[t.abs _ _ h1 h2]at ho';cases ho';rcases c with c|⟨_,c⟩
  ·cases c
  ·exact(c.resolve_right (by simp)).trans h2
 ·rintro k (s|rfl)
  ·exact I.lt k s
  ·exact(bI.1 hi).1
theorem bCi(D:DOK rx ops B)(T:Told P G N rx ops h0 env0 x hr zz)(I:Inv P G rx ops h0 env0 x hr zz X0 w0 S X w a p e){i:Nat}{o:Oper}(hi:ops[i]? = some o)(hS:¬S i)(hpre:∀e,e∈anyPre o→S e)
 {Q:Exit→Act→World→Prop} {K:Act→World→Prop} (hK:∀X' w' a' p' e',Inv P G rx ops h0 env0 x hr zz X0 w0 (fun k=>S k∨k=i) X' w' a' p' e'→K a' w'):wpOp P ops Q i K a w:=by
 unfold wpOp;simp only[hi];have hd:oA ops i=o.dst:=by simp[oA,hi]
 cases hf:eB o with
 |true=>
  obtain⟨_,_,hg,_⟩:=L6 hf;have hiF:i∈Fs ops:=B5.2 ⟨(bI.1 hi).1,by simp only[nR,hi];exact hf⟩;obtain⟨q,hq⟩:=dB.1 hiF;obtain⟨o',Ty,ho',hop,hz,hx,hbox⟩:=T.free q i hq;rw[hi]at ho';cases ho';have hw:Region.wanted o (yielded ops a.tmps)=true:=by simp[Region.wanted,hg]
  rw[if_pos hw];refine .inl ?_;obtain⟨hid,hι⟩:=I.pend q i hq hS;obtain⟨iz,zv,hiz,hizv,hzc⟩:=iT hz;obtain⟨h1,h2,h3⟩:=kH (X:=X) (w:=w) (h:=hr p) hzc;have pp:=gY.alloc w (.cells zv.cells Ty (0,0));obtain⟨ex,g',st⟩:=bMh I.g pp hid hι h1 h2 h3;have hrun:(execOp a.eval o).run P w=.ok (.value (.pointer (some ⟨w.heap.size,0,Option.none⟩))) (w.alloc (.cells zv.cells Ty (0,0))):=by
   have hnr:(newRow Ty zv.cells).run P w=.ok ⟨w.heap.size,0,Option.none⟩ (w.alloc (.cells zv.cells Ty (0,0))):=rfl;unfold execOp;simp only[hop];simp[Instr.alloc,qX hiz hizv,newVar,hnr]
  unfold Oper.wp;rw[hrun];simp only[Oper.upon];have rp:RV (X.upd (h0.length+q) (some (w.heap.size,0))) (w.alloc (.cells zv.cells Ty (0,0))) (hr p) (x i) (.pointer (some ⟨w.heap.size,0,Option.none⟩)):=by
   rw[hx];have:=RV.ptr (X:=X.upd (h0.length+q) (some (w.heap.size,0))) (w:=w.alloc (.cells zv.cells Ty (0,0))) (h:=hr p) (id:=h0.length+q) (off:=0) (ob:=.box false (zz i)) (b:=w.heap.size) (o:=0) hid (by simp) (Ctx.upd_same _ _ _);simpa using this
  refine hK _ _ _ p (iE e o.dst (x i)) ⟨I.hp,g',hd▸I.ei.step D i,?_,⟨I.tr.step.trans st,?_,I.tr.abs⟩,?_,?_,N3 I.cl hi hpre,?_⟩
  ·exact EnvOK.put ⟨I.eo.defers,I.eo.size,fun j y v hy hv=>(I.eo.rel j y v hy hv).monoW ex⟩ _ rp
  ·refine⟨fun b hb=>I.tr.ext.fr b hb,fun b hb=>(ex.keep b (I.tr.ext.fr b hb)).trans (I.tr.ext.keep b hb),fun b s hs=>ex.shp b s (I.tr.ext.shp b s hs),fun k ob hk=>?_⟩;obtain⟨ob',ho',c⟩:=I.tr.ext.obj k ob hk;refine⟨ob',ho',c.imp id (fun c=>⟨c.1,?_⟩)⟩;rw[Ctx.upd_other _ _ (by have:=bW hk;omega)];exact c.2
  ·intro k ok hok hck;rw[← I.ch k ok hok hck];constructor
   ·rintro(s|rfl)
    ·exact s
    ·rw[hi]at hok;cases hok;rcases hck with c|c<;>(rw[cDe.2 hf]at c;cases c)
   ·exact .inl
  ·intro q' k hq' hk;obtain⟨p1,p2⟩:=I.pend q' k hq' (fun s=>hk (.inl s));refine⟨p1,?_⟩;have hne:q'≠q:=fun h=>by subst h;rw[hq]at hq';cases hq';exact hk (.inr rfl)
   rw[Ctx.upd_other _ _ (by omega)];exact p2
  ·rintro k (s|rfl)
   ·exact I.lt k s
   ·exact(bI.1 hi).1
 |false =>
  obtain⟨eT,q,H⟩:=cGd D T I hi hS hpre hf;have go:OpD P G N rx ops o eT (hr q) (x i) (hr (q+1))→o.wp P a w K Q:=by
   intro d;obtain⟨p',hp',d',ch⟩:=H.run d;refine bSt I.g I.eo d' ?_;intro a' w' X' g' r' t;exact hK _ _ _ _ _ (aKf D I hi hpre hp' ch g' r' t)
  have stop:hr (q+1)=hr q→x i=.tup []→K (a.put o.dst undef) w:=by
   intro d hx;obtain⟨p',hp',hh,ch⟩:=H.drop d;refine hK X w (a.put o.dst undef) p' _ (aKf D I hi hpre hp' ch (by rw[hh];exact I.g) (by rw[hh,hx];exact I.eo.put _ (.tup (vs := #[]) rfl (by simp))) (by rw[hh];exact .refl _ _ _))
  have hat:=H.at_;unfold OpAt at hat;cases hg:o.guard with
  |none=>
   rw[hg]at hat;have hw:Region.wanted o (yielded ops a.tmps)=true:=by simp[Region.wanted,hg]
   rw[if_pos hw];exact .inl (go hat)
  |some gq=>
   obtain⟨j,want⟩:=gq;rw[hg]at hat;obtain⟨d,b,hdj,hb,h1,h2⟩:=hat;have hx:Q2 (e.getD d .u) want=.b b:=by
    rw[H.agree d (by
     unfold ouses cCi;rw[hg];refine eK _ (eK _ ?_);have:((ops[j]?).bind fun x=>x.dst)=some d:=hdj;simp[this])]
    exact hb
   rw[aBx I.eo hg hdj hx];cases b with
   |true=>
    simp only[if_true];exact .inl (go (h1 rfl))
   |false=>
    simp only[aI,if_false];obtain⟨e1,e2⟩:=h2 rfl;exact stop e2 e1
theorem aEr{α:Type}{p q:α→Bool}:∀(l:List α),(∀y∈l,q y=true→p y=true)→(∃y∈l,p y=true∧q y=false)→l.countP q<l.countP p
 | [],_,h=>by obtain⟨y,hy,_⟩:=h;cases hy
 |y :: l,hs,h=>by
  have hle:l.countP q≤l.countP p:=List.countP_mono_left (fun z hz=>hs z (by simp[hz]));rw[List.countP_cons,List.countP_cons];by_cases hy:p y=true∧q y=false
  ·rw[hy.1,hy.2];simp;omega
  ·have h':∃z∈l,p z=true∧q z=false:=by
    obtain⟨z,hz,hpz⟩:=h;rcases dA.1 hz with rfl|hz
    ·exact absurd hpz hy
    ·exact⟨z,hz,hpz⟩
   have:=aEr l (fun z hz=>hs z (by simp[hz])) h';have h1:=hs y (by simp);cases hq:q y with
   |true=>rw[h1 hq];omega
   |false=>simp;omega
theorem iC{o:Oper}{e:Nat}:e∈anyPre o↔∃d∈o.after,Region.binds .any d=true∧d.on=e:=by
 unfold anyPre;simp only[dX,rN,aPl];constructor
 ·rintro⟨d,⟨h1,h2⟩,h3⟩;exact⟨d,h1,h2,h3⟩
 ·rintro⟨d,h1,h2,h3⟩;exact⟨d,⟨h1,h2⟩,h3⟩
def rU(l:Array Bool)(i:Nat):Prop:=l.getD i false=true
theorem bWl(D:DOK rx ops B)(T:Told P G N rx ops h0 env0 x hr zz){Q:Exit→Act→World→Prop}(hQ:∀X w a p e,Inv P G rx ops h0 env0 x hr zz X0 w0 (fun i=>i<ops.size) X w a p e→Q .normal a w) :
 ∀(fuel:Nat) (l:Array Bool),l.size=ops.size→(List.range ops.size).countP (fun i => !l.getD i true)≤fuel→∀(X:Ctx) (w:World) (a:Act) (p:Nat) (e:List AV),Inv P G rx ops h0 env0 x hr zz X0 w0 (rU l) X w a p e →
  wpAny P .any ops Q fuel l a w:=by
 have all:∀(l:Array Bool),l.size=ops.size→Region.ready .any ops l=[]→∀i,i<ops.size→rU l i:=by
  intro l hl hr i;induction i using Nat.strongRecOn with
  |ind i ih=>
   intro hi;have ho:ops[i]? = some ops[i]:=by simp[hi]
   have hn:i∉Region.ready .any ops l:=by rw[hr];simp
   rw[mem_ready]at hn;have hpre:∀d∈ops[i].after,Region.binds .any d=true→l.getD d.on false=true:=by
    intro d hd hb;have hlt:=D.lt i ops[i] ho d.on (iC.2 ⟨d,hd,hb,rfl⟩);exact ih d.on hlt (by omega)
   unfold rU;have hli:i<l.size:=by omega
   cases hc:l[i]with
   |true=>simp[Array.getD,hli,hc]
   |false=>exact absurd ⟨by simp[Array.getD,hli,hc],ops[i],ho,hpre⟩ hn
 have fin:∀(l:Array Bool),l.size=ops.size→Region.ready .any ops l=[]→∀X w a p e,Inv P G rx ops h0 env0 x hr zz X0 w0 (rU l) X w a p e→Q .normal a w:=by
  intro l hl hr X w a p e I;have hs:(rU l)=(fun i=>i<ops.size):=funext fun i=>propext ⟨I.lt i,all l hl hr i⟩;exact hQ X w a p e (hs▸I)
 intro fuel;induction fuel with
 |zero=>
  intro l hl hc X w a p e I;have hr:Region.ready .any ops l=[]:=by
   rw[iB];intro i hi;obtain⟨h1,o,ho,_⟩:=mem_ready.1 hi;have hlt:i<ops.size:=(bI.1 ho).1;have hz:(List.range ops.size).countP (fun i => !l.getD i true)=0:=by omega
   rw[List.countP_eq_zero]at hz;have:=hz i (eC.2 hlt);rw[h1]at this;exact this rfl
  exact⟨hr,fin l hl hr X w a p e I⟩
 |succ fuel ih=>
  intro l hl hc X w a p e I;refine⟨fun hr=>fin l hl hr X w a p e I,fun i hi=>?_⟩;obtain⟨h1,o,ho,hall⟩:=mem_ready.1 hi;have hlt:i<ops.size:=(bI.1 ho).1;have hli:i<l.size:=by omega
  have hf:l[i]=false:=by simpa[Array.getD,hli]using h1
  refine bCi D T I ho ?_ ?_ (fun X' w' a' p' e' I'=>ih (l.setIfInBounds i true) (by simp[hl]) ?_ X' w' a' p' e' ?_)
  ·intro s;unfold rU at s;simp[Array.getD,hli,hf]at s
  ·intro d hd;obtain⟨d',h1,h2,rfl⟩:=iC.1 hd;exact hall d' h1 h2
  ·have:(List.range ops.size).countP (fun k => !(l.setIfInBounds i true).getD k true)<(List.range ops.size).countP (fun k => !l.getD k true):=by
    refine aEr _ ?_ ⟨i,eC.2 hlt,by rw[h1];rfl,by simp[Array.getD,hli]⟩;intro k hk hk';by_cases hik:i=k
    ·subst hik;rw[h1];rfl
    ·rw[getD_set_ne true hik]at hk';exact hk'
   omega
  ·have hs:(rU (l.setIfInBounds i true))=(fun k=>rU l k∨k=i):=funext fun k=>propext (by
    unfold rU;by_cases hik:i=k
    ·subst hik;simp[Array.getD,hli]
    ·rw[getD_set_ne false hik];constructor
     ·exact .inl
     ·rintro(s|rfl)
      ·exact s
      ·exact absurd rfl hik)
   rw[hs];exact I'
theorem yA(hd:tF rx ops=true){al:List fZ}(hl:bY rx ops (fQ ops)=some al){K:List AV→List AObj→Prop}{env:List AV}{h:List AObj}{X:Ctx}{w:World}{a:Act}{Q:Exit→Act→World→Prop}
 (e:dM P G (some N) al K env h) (g:GH G X w h) (r:EnvOK G.ds X w h env a) (hQ:∀a' w',lR G X w h K a' w'→Q .normal a' w'):wpAny P .any ops Q ops.size (Array.replicate ops.size false) a {w with drawn:=w.drawn+1}:=by
 have D:=aVr hd;obtain⟨x,hr,zz,T,hK⟩:=bJa (P:=P) (G:=G) D hl e;obtain⟨g1,t1⟩:=bMf (w':={w with drawn:=w.drawn+1}) g rfl rfl rfl rfl;obtain⟨obs,hobs,hobs2⟩:=T.start;obtain⟨g2,t2⟩:=bMg g1 obs hobs2;have t12:=t1.trans t2;refine bWl (x:=x) (hr:=hr) (zz:=zz) (h0:=h) (env0:=env) (X0:=X) (w0:=w) D T ?_ ops.size (Array.replicate ops.size false) (by simp) (by
  have:=List.countP_le_length (p:=fun i => !(Array.replicate ops.size false).getD i true) (l:=List.range ops.size);simpa using this) X _ a 0 env ?_
 ·intro X' w' a' p' e' I;refine hQ a' w' ⟨e',hr (Rs ops).length,X',hK e' I.ei,?_⟩;have heq:hr (Rs ops).length=hr p':=aAd _ I.hp (fun m h1 h2=>by
   have hm':(Rs ops)[m]? = some (Rs ops)[m]:=by simp[h2]
   have hlt:=(B4.1 (dY hm')).1;refine(Y8 D T hm' (ok:=ops[(Rs ops)[m]]) (by simp[hlt]) (fun hc=>?_)).2;obtain⟨m',hm1,hm2⟩:=(I.ch (Rs ops)[m] ops[(Rs ops)[m]] (by simp[hlt]) hc).1 hlt;have:=aYm hm2 hm';omega)
  rw[heq];exact⟨I.g,I.eo,I.tr⟩
 ·have nol:∀i,¬rU (Array.replicate ops.size false) i:=by
   intro i s;unfold rU at s;by_cases hi:i<ops.size<;>simp[Array.getD,hi]at s
  have hs:rU (Array.replicate ops.size false)=fun _=>False:=funext fun i=>propext ⟨nol i,False.elim⟩;refine⟨bX _,hobs▸g2,hs▸EnvIs.start,hobs▸r.mono t12.ext,hobs▸t12,?_,?_,?_,?_⟩
  ·intro i o _ _;exact⟨fun s=>absurd s (nol i),fun⟨m,hm,_⟩=>by omega⟩
  ·intro q i hq _;obtain⟨o,Ty,_,_,_,_,hb⟩:=T.free q i hq;refine⟨hb,?_⟩;cases hi:X.ι (h.length+q)with
   |none=>rfl
   |some bo=>
    obtain⟨ob,hob⟩:=g.dom _ _ hi;have:=bW hob;omega
  ·intro i o s;exact absurd s (nol i)
  ·intro i s;exact absurd s (nol i)
theorem bNg(hm:P.follows .mixedOrders=true){id:Nat}(hd:tF rx ops=true){al:List fZ}(hl:bY rx ops (fQ ops)=some al){K:List AV→List AObj→Prop}{env:List AV}{h:List AObj}{X:Ctx}{w:World}{a:Act}{Q:Exit→Act→World→Prop}
 (e:dM P G (some N) al K env h) (g:GH G X w h) (r:EnvOK G.ds X w h env a) (hQ:∀a' w',lR G X w h K a' w'→Q .normal a' w'):(Code.region id ops true).wp P Q a w:=
 wp_region_any hm (yA hd hl e g r hQ)
end
def aNy(pre:Array Oper)(o:Oper):Bool:=
 ((anyPre o).all fun e=>decide (e<pre.size)) &&
 (List.range pre.size).all fun i=>(anyPre o).contains i||(List.range pre.size).any fun j=>decide (i<j)&&match pre[j]? with
  |some p=>(anyPre p).contains i
  |Option.none=>false
def tD(pre:Array Oper):Bool:=pre.toList.all fun p=>match p.guard with
 |some (j,_)=>decide (j<pre.size)
 |Option.none=>true
section
variable {P:Program} {pre:Array Oper} {o:Oper} {Q:Exit→Act→World→Prop}
def Cl(pre:Array Oper)(l:Array Bool):Prop:=∀i p,pre[i]? = some p→l.getD i false=true→∀e∈anyPre p,l.getD e false=true
def pR(P:Program)(pre:Array Oper)(o:Oper)(Q:Exit→Act→World→Prop):Exit→Act→World→Prop
 | .normal,a,w=>wpOp P (pre.push o) Q pre.size (fun a w=>Q .normal a w) a w
 |x,a,w=>Q x a w
theorem jR{l:Array Bool}{i:Nat}{d:Bool}(h:i<l.size):(l.push false).getD i d=l.getD i d:=by
 simp[Array.getD,h,G1,Nat.lt_succ_of_lt h]
theorem I9{l:Array Bool}{d:Bool}:(l.push false).getD l.size d=false:=by simp[Array.getD]
theorem rE{i:Nat}(h:i<pre.size):(pre.push o)[i]? = pre[i]? := by rw[eJ];rw[if_neg (by omega)]
theorem J0{l:Array Bool}(hlt:∀i p,pre[i]? = some p→∀e∈anyPre p,e<i)(hl:l.size=pre.size)(hr:Region.ready .any pre l=[]):∀i,i<pre.size→l.getD i false=true:=by
 intro i;induction i using Nat.strongRecOn with
 |ind i ih=>
  intro hi;have ho:pre[i]? = some pre[i]:=by simp[hi]
  have hn:i∉Region.ready .any pre l:=by rw[hr];simp
  rw[mem_ready]at hn;have hli:i<l.size:=by omega
  cases hc:l[i]with
  |true=>simp[Array.getD,hli,hc]
  |false=>
   refine absurd ⟨by simp[Array.getD,hli,hc],pre[i],ho,fun d hd hb=>?_⟩ hn;have hlt':=hlt i pre[i] ho d.on (iC.2 ⟨d,hd,hb,rfl⟩);exact ih d.on hlt' (by omega)
theorem bCb{l:Array Bool}(hL:aNy pre o=true)(hc:Cl pre l)(hd:∀e∈anyPre o,l.getD e false=true):∀i,i<pre.size→l.getD i false=true:=by
 simp only[aNy,aD,bC,eC,cB]at hL;have key:∀k i,pre.size-i≤k→i<pre.size→l.getD i false=true:=by
  intro k;induction k with
  |zero=>intro i h1 h2;omega
  |succ k ih=>
   intro i h1 h2;rcases hL.2 i h2 with h|h
   ·exact hd i (eY.1 h)
   ·rw[pK]at h;obtain⟨j,hj,hj2⟩:=h;rw[eC]at hj;simp only[aD,decide_eq_true_eq]at hj2;have hp:pre[j]? = some pre[j]:=by simp[hj]
    rw[hp]at hj2;exact hc j _ hp (ih j (by omega) hj) i (eY.1 hj2.2)
 exact fun i h=>key _ i (bV _) h
theorem uF{l:Array Bool}{i:Nat}(hlt:∀i p,pre[i]? = some p→∀e∈anyPre p,e<i)(hl:l.size=pre.size)(hi:i<pre.size):i∈Region.ready .any (pre.push o) (l.push false)↔i∈Region.ready .any pre l:=by
 rw[mem_ready,mem_ready,rE hi,jR (by omega)];have ho:pre[i]? = some pre[i]:=by simp[hi]
 rw[ho];have h1:∀d∈pre[i].after,Region.binds .any d=true→(l.push false).getD d.on false=l.getD d.on false:=fun d hd hb=>jR (by have:=hlt i _ ho d.on (iC.2 ⟨d,hd,hb,rfl⟩);omega);constructor
 ·rintro⟨a,p,hp,hall⟩;cases hp;exact⟨a,_,rfl,fun d hd hb=>(h1 d hd hb).symm.trans (hall d hd hb)⟩
 ·rintro⟨a,p,hp,hall⟩;cases hp;exact⟨a,_,rfl,fun d hd hb=>(h1 d hd hb).trans (hall d hd hb)⟩
theorem aMk{ops:Array Oper}{l:Array Bool}(hl:∀i,i<ops.size→l.getD i true=true){a:Act}{w:World}(q:Q .normal a w):∀fuel,wpAny P .any ops Q fuel l a w:=by
 have hr:Region.ready .any ops l=[]:=by
  rw[iB];intro i hi;obtain⟨h1,p,hp,_⟩:=mem_ready.1 hi;have:=hl i (bI.1 hp).1;rw[h1]at this;cases this
 intro fuel;cases fuel with
 |zero=>exact⟨hr,q⟩
 |succ f=>exact⟨fun _=>q,fun i hi=>by rw[hr]at hi;cases hi⟩
theorem vM(hg:tD pre=true){i:Nat}{p:Oper}(hp:pre[i]? = some p)(ts:Array Value):Region.wanted p (yielded (pre.push o) ts)=Region.wanted p (yielded pre ts):=by
 simp only[tD,bC]at hg;have:=hg p (aPl.2 (jK hp));unfold Region.wanted;cases hq:p.guard with
 |none=>rfl
 |some q=>
  obtain⟨j,b⟩:=q;rw[hq]at this;simp only[decide_eq_true_eq]at this;simp only[yielded,rE this]
theorem kS{o:Oper}{a:Act}{w:World}{K:Act→World→Prop}{Q Q':Exit→Act→World→Prop}(hQ:∀x a w,x ≠ .normal→Q x a w→Q' x a w)(hL:LetsOut Q→LetsOut Q')(h:o.wp P a w K Q):o.wp P a w K Q':=by
 unfold Oper.wp at *
 generalize (execOp a.eval o).run P w=r at *
 cases r with
 |ok n w'=>
  cases n<;>simp only[Oper.upon]at h⊢ <;> first
   |exact h
   |exact Calls.mono h (fun e w'' he=>by cases e<;>first|exact he|exact hQ _ _ _ (by simp) he|exact hL he)
 |halt x w'=>cases x<;>simp only[Oper.upon]at h⊢ <;> first|exact h|exact hQ _ _ _ (by simp) h
theorem aXw(hlt:∀i p,pre[i]? = some p→∀e∈anyPre p,e<i)(hL:aNy pre o=true)(hg:tD pre=true) :
 ∀(fuel:Nat) (l:Array Bool),l.size=pre.size→Cl pre l→∀(a:Act) (w:World),wpAny P .any pre (pR P pre o Q) fuel l a w→wpAny P .any (pre.push o) Q (fuel+1) (l.push false) a w:=by
 have hn:(pre.push o)[pre.size]? = some o:=by simp
 have hdl:∀e∈anyPre o,e<pre.size:=by
  simp only[aNy,aD,bC,decide_eq_true_eq]at hL;exact hL.1
 have fin:∀(fuel:Nat) (l:Array Bool),l.size=pre.size→(∀i,i<pre.size→l.getD i false=true)→∀(a:Act) (w:World),pR P pre o Q .normal a w→wpAny P .any (pre.push o) Q (fuel+1) (l.push false) a w:=by
  intro fuel l hl hall a w hB;have hmem:pre.size∈Region.ready .any (pre.push o) (l.push false):=by
   rw[mem_ready];refine⟨by rw[← hl];exact I9,o,hn,fun d hd hb=>?_⟩;have:=hdl d.on (iC.2 ⟨d,hd,hb,rfl⟩);rw[jR (by omega)];exact hall _ this
  refine⟨fun hr=>(by rw[hr]at hmem;cases hmem),fun i hi=>?_⟩;have hlt2:i<pre.size+1:=by
   obtain⟨_,p,hp,_⟩:=mem_ready.1 hi;have:=(bI.1 hp).1;simpa using this
  by_cases hin:i<pre.size
  ·have h1:=(mem_ready.1 hi).1;rw[jR (by omega)]at h1;have h2:=hall i hin;have hli:i<l.size:=by omega
   simp[Array.getD,hli]at h1 h2;rw[h1]at h2;cases h2
  ·obtain rfl:i=pre.size:=by omega
   refine wpOp_mono (fun a w q=>aMk (fun k hk=>?_) q fuel) hB;rw[nO]at hk;by_cases hk2:k<pre.size
   ·have h2:=hall k hk2;have hkl:k<l.size:=by omega
    have:((l.push false).setIfInBounds pre.size true).getD k true=l.getD k false:=by
     rw[getD_set_ne true (by omega),jR hkl];simp[Array.getD,hkl]
    rw[this];exact h2
   ·obtain rfl:k=pre.size:=by omega
    rw[← hl];simp[Array.getD]
 intro fuel;induction fuel with
 |zero=>
  intro l hl hc a w h;exact fin 0 l hl (J0 hlt hl h.1) a w h.2
 |succ fuel ih=>
  intro l hl hc a w h;by_cases hr:Region.ready .any pre l=[]
  ·exact fin (fuel+1) l hl (J0 hlt hl hr) a w (h.1 hr)
  ·refine⟨fun hr'=>?_,fun i hi=>?_⟩
   ·obtain⟨k,hk⟩:=lC _ hr;have hkl:k<pre.size:=by obtain⟨_,p,hp,_⟩:=mem_ready.1 hk;exact(bI.1 hp).1
    have:=(uF (o:=o) hlt hl hkl).2 hk;rw[hr']at this;cases this
   ·have hlt2:i<pre.size+1:=by
     obtain⟨_,p,hp,_⟩:=mem_ready.1 hi;have:=(bI.1 hp).1;simpa using this
    by_cases hin:i<pre.size
    ·have hi':=(uF hlt hl hin).1 hi;have h2:=h.2 i hi';have hp:pre[i]? = some pre[i]:=by simp[hin]
     have hli:i<l.size:=by omega
     have hset:(l.push false).setIfInBounds i true=(l.setIfInBounds i true).push false:=by
      apply A5
      ·simp
      ·intro k h1 h2;have q1:=cO (xs:=l.push false) (i:=i) (j:=k) (a:=true);rw[cJ h1]at q1;have q2:=eJ (xs:=l.setIfInBounds i true) (x:=false) (i:=k);rw[cJ h2]at q2;apply fJ;rw[q1,q2,cO,eJ];simp only[nO,lM];by_cases hik:i=k
       ·subst hik;rw[if_pos rfl,if_pos (by omega),if_neg (by omega),if_pos rfl,if_pos hli]
       ·rw[if_neg hik];by_cases hkl:k=l.size
        ·rw[if_pos hkl,if_pos hkl]
        ·rw[if_neg hkl,if_neg hkl,if_neg hik]
     have K:∀a w,wpAny P .any pre (pR P pre o Q) fuel (l.setIfInBounds i true) a w→wpAny P .any (pre.push o) Q (fuel+1) ((l.push false).setIfInBounds i true) a w:=fun a w q=>by
      rw[hset];refine ih _ (by simp[hl]) ?_ a w q;intro k p hp' hk e he;by_cases hik:i=k
      ·subst hik;obtain⟨_,p2,hp2,hall⟩:=mem_ready.1 hi';rw[hp']at hp2;cases hp2;obtain⟨d,hd1,hd2,rfl⟩:=iC.1 he;have:=hlt _ _ hp' d.on he;rw[getD_set_ne false (by omega)];exact hall d hd1 hd2
      ·rw[getD_set_ne false hik]at hk;have:=hc k p hp' hk e he;by_cases hie:i=e
       ·subst hie;simp[Array.getD,hli]
       ·rw[getD_set_ne false hie];exact this
     unfold wpOp at h2 ⊢;rw[rE hin,hp];rw[hp]at h2;dsimp only at h2 ⊢;rw[vM hg hp];by_cases hw:Region.wanted pre[i] (yielded pre a.tmps)=true
     ·rw[if_pos hw]at h2 ⊢;have up:LetsOut (pR P pre o Q)→LetsOut Q:=fun⟨a,w,q⟩=>⟨a,w,q⟩;rcases h2 with h2|⟨h2,h3⟩
      ·exact .inl (kS (fun x a w hx q=>by cases x<;>first|exact absurd rfl hx|exact q) up (uX K h2))
      ·exact .inr ⟨h2,up h3⟩
     ·rw[if_neg hw]at h2 ⊢;exact K _ _ h2
    ·obtain rfl:i=pre.size:=by omega
     exfalso;apply hr;have hall:=bCb hL hc (fun e he=>by
      obtain⟨_,p,hp,hd⟩:=mem_ready.1 hi;rw[hn]at hp;cases hp;obtain⟨d,hd1,hd2,rfl⟩:=iC.1 he;have:=hd d hd1 hd2;rwa[jR (by have:=hdl _ he;omega)]at this)
     rw[iB];intro k hk;obtain⟨h1,p,hp,_⟩:=mem_ready.1 hk;have hkl:=(bI.1 hp).1;have h2:=hall k hkl;have hkl':k<l.size:=by omega
     simp[Array.getD,hkl']at h1 h2;rw[h1]at h2;cases h2
end
section
variable {P:Program} {G:Md} {N:DR} {rx:RX} {pre:Array Oper} {o:Oper}
def A7(pre:Array Oper):List Oper→Bool
 | []=>true
 |o::l=>(aNy pre o&&tD pre)&&((match o.guard with|some (j,_)=>decide (j<pre.size)|Option.none=>true)&&A7 (pre.push o) l)
def rP(P:Program)(ops:Array Oper)(l:List Oper)(Q:Exit→Act→World→Prop):Exit→Act→World→Prop
 | .normal,a,w=>wpList P ops Q l a w
 |x,a,w=>Q x a w
theorem lK{ops:Array Oper}{Q Q':Exit→Act→World→Prop}(hQ:∀x a w,Q x a w→Q' x a w):∀(fuel:Nat) (l:Array Bool) (a:Act) (w:World),wpAny P .any ops Q fuel l a w→wpAny P .any ops Q' fuel l a w
 |0,l,a,w,h=>⟨h.1,hQ _ _ _ h.2⟩
 |fuel+1,l,a,w,h=>⟨fun hr=>hQ _ _ _ (h.1 hr),fun i hi=>by
  have h2:=h.2 i hi;unfold wpOp at h2 ⊢;have up:LetsOut Q→LetsOut Q':=fun⟨a,w,q⟩=>⟨a,w,hQ _ _ _ q⟩;split
  ·rename_i ho;rw[ho]at h2;exact lK hQ fuel _ a w h2
  ·rename_i o ho;rw[ho]at h2;dsimp only at h2;split
   ·rename_i hw;rw[if_pos hw]at h2;rcases h2 with h2|⟨h2,h3⟩
    ·exact .inl (kS (fun x a w _ q=>hQ x a w q) up (uX (fun a w q=>lK hQ fuel _ a w q) h2))
    ·exact .inr ⟨h2,up h3⟩
   ·rename_i hw;rw[if_neg hw]at h2;exact lK hQ fuel _ _ w h2⟩
theorem yN{pre full:Array Oper}{p:Oper}(hg:∀j b,p.guard=some (j,b)→j<pre.size∧full[j]? = pre[j]?)(ts:Array Value):Region.wanted p (yielded full ts)=Region.wanted p (yielded pre ts):=by
 unfold Region.wanted;cases hq:p.guard with
 |none=>rfl
 |some q=>
  obtain⟨j,b⟩:=q;obtain⟨h1,h2⟩:=hg j b hq;simp only[yielded,h2]
theorem aBc:∀(l:List Oper) (pre:Array Oper),(∀i p,pre[i]? = some p→∀e∈anyPre p,e<i)→A7 pre l=true→∀(Q:Exit→Act→World→Prop) (a:Act) (w:World) (fuel:Nat),
 wpAny P .any pre (rP P (pre++l.toArray) l Q) fuel (Array.replicate pre.size false) a w→wpAny P .any (pre++l.toArray) Q (fuel+l.length) (Array.replicate (pre++l.toArray).size false) a w
 | [],pre,hlt,ht,Q,a,w,fuel,h=>by
   have e:pre++([]:List Oper).toArray=pre:=by simp
   rw[e]at h ⊢;exact lK (fun x a w q=>by cases x<;>exact q) _ _ _ _ h
 |o :: l,pre,hlt,ht,Q,a,w,fuel,h=>by
  simp only[A7,aD]at ht;obtain⟨⟨hL,hg⟩,hgo,ht⟩:=ht;have e:pre++(o::l).toArray=pre.push o++l.toArray:=by apply oE;simp
  have hdl:∀e∈anyPre o,e<pre.size:=by
   have hL:=hL;simp only[aNy,aD,bC,decide_eq_true_eq]at hL;exact hL.1
  have hlt1:∀i p,(pre.push o)[i]? = some p→∀e∈anyPre p,e<i:=by
   intro i p hp e he;rw[eJ]at hp;split at hp
   ·rename_i hi;cases hp;rw[hi];exact hdl e he
   ·exact hlt i p hp e he
  rw[e]at h ⊢;rw[bF,show fuel+(l.length+1)=fuel+1+l.length by omega];refine aBc l (pre.push o) hlt1 ht Q a w (fuel+1) ?_;have e1:(pre.push o).size=pre.size+1:=by simp
  have e2:Array.replicate (pre.size+1) false=(Array.replicate pre.size false).push false:=by
   apply A5
   ·simp
   ·intro k h1 h2;simp[G1]
  rw[e1,e2];refine aXw hlt hL hg _ _ (by simp) ?_ a w (lK ?_ _ _ _ _ h)
  ·intro i p hp hi;exfalso;have:=(bI.1 hp).1;simp[Array.getD,this]at hi
  ·intro x a w q;cases x with
   |normal=>
    simp only[rP,pR]at q ⊢;have hn:(pre.push o)[pre.size]? = some o:=by simp
    unfold wpOp;rw[hn];dsimp only;simp only[wpList]at q;have hw:Region.wanted o (yielded (pre.push o++l.toArray) a.tmps)=Region.wanted o (yielded (pre.push o) a.tmps):=yN (fun j b hj=>by
     rw[hj]at hgo;simp only[decide_eq_true_eq]at hgo;exact⟨by rw[e1];omega,dT (by rw[e1];omega)⟩) _
    rw[hw]at q;split
    ·rename_i hw2;rw[if_pos hw2]at q;have up:LetsOut Q→LetsOut (rP P (pre.push o++l.toArray) l Q):=fun⟨a,w,q⟩=>⟨a,w,q⟩;rcases q with q|⟨q,q3⟩
     ·exact .inl (kS (fun x a w hx q=>by cases x<;>first|exact absurd rfl hx|exact q) up q)
     ·exact .inr ⟨q,up q3⟩
    ·rename_i hw2;rw[if_neg hw2]at q;exact q
   |_=>exact q
theorem aEj(hm:P.follows .mixedOrders=true){id:Nat}{l:List Oper}(hd:tF rx pre=true)(ht:A7 pre l=true){al:List fZ}{al2:List fZ}(hl:bY rx pre (fQ pre)=some al)(ho:bY .off (pre++l.toArray) l=some al2)
 {K:List AV→List AObj→Prop} {env:List AV} {h:List AObj} {X:Ctx} {w:World} {a:Act} {Q:Exit→Act→World→Prop}
 (e:dM P G (some N) al (fun env h=>dM P G Option.none al2 K env h) env h) (g:GH G X w h) (r:EnvOK G.ds X w h env a) (hQ:∀a' w',lR G X w h K a' w'→Q .normal a' w')
 (hP:∀v a' w',lR G X w h (G.pan v) a' w'→Q (.panic [{v:=v,recovered:=false}]) a' w'):(Code.region id (pre++l.toArray) true).wp P Q a w:=by
 have D:=aVr hd;refine wp_region_any hm ?_;rw[show(pre++l.toArray).size=pre.size+l.length by simp];have:=aBc (P:=P) l pre (fun i p hp=>D.lt i p hp) ht Q a {w with drawn:=w.drawn+1} pre.size (yA hd hl e g r ?_)
 ·rw[show(pre++l.toArray).size=pre.size+l.length by simp]at this;exact this
 ·rintro a' w' ⟨env',h',X',k1,k2,k3,k4⟩;exact lI (ops:=pre++l.toArray) (Q:=Q) l al2 ho env' h' X' w' a' k1 k2 k3 (fun a2 w2 ⟨env2,h2,X2,m1,m2,m3,m4⟩=>hQ a2 w2 ⟨env2,h2,X2,m1,m2,m3,k4.trans m4⟩)
   (fun _ v a2 w2 ⟨env2,h2,X2,m1,m2,m3,m4⟩=>hP v a2 w2 ⟨env2,h2,X2,m1,m2,m3,k4.trans m4⟩)
end
def kV:Option TH→Bool
 |some t=>t.k == 1000
 |Option.none=>false
def eR:Option TH→Bool
 |some t=>t.split
 |Option.none=>false
def mJ:Option TH→Nat
 |some t=>t.k
 |Option.none=>0
def oH:List Oper→List Oper×List Oper
 | []=>([],[])
 | [o]=>([],[o])
 |a::b::l=>(a::(oH (b::l)).1,(oH (b::l)).2)
def splitK:Nat→List Oper→List Oper×List Oper
 |0,l=>([],l)
 |_+1,[]=>([],[])
 |k+1,a::l=>(a::(splitK k l).1,(splitK k l).2)
def nP(k:Nat)(l:List Oper):List Oper×List Oper:=
 match k with
 |0=>oH l
 |k+1=>splitK (k+1) l
theorem aCf:∀(l:List Oper),l=(oH l).1++(oH l).2
 | []=>rfl
 | [a]=>rfl
 |a::b::l=>by rw[oH,aC,← aCf (b::l)]
theorem aCg:∀(k:Nat) (l:List Oper),l=(splitK k l).1++(splitK k l).2
 |0,l=>rfl
 |_+1,[]=>rfl
 |k+1,a::l=>by rw[splitK,aC,← aCg k l]
theorem aRa(k:Nat)(l:List Oper):l=(nP k l).1++(nP k l).2:=by
 cases k with
 |zero=>exact aCf l
 |succ k=>exact aCg _ l
def bGj(rx:RX)(k:Nat)(ops:Array Oper):Bool:=tF rx (nP k ops.toList).1.toArray&&A7 (nP k ops.toList).1.toArray (nP k ops.toList).2
def strip(rx:Bool)(th:Nat→Option TH):Code→Option kQ
 | .skip=>some .skip
 | .region id ops true=>match kV (th id)with
   |true=>some (.raw (.region id ops true))
   |false=>match eR (th id)with
    |true=>match bY (kU rx (th id)) (nP (mJ (th id)) ops.toList).1.toArray (fQ (nP (mJ (th id)) ops.toList).1.toArray),bY .off ops (nP (mJ (th id)) ops.toList).2 with
     |some l,some a=>some (.seq (.draw (th id) l) (.region a))
     |_,_=>Option.none
    |false=>match bY (kU rx (th id)) ops (fQ ops)with
     |some l=>some (.draw (th id) l)
     |Option.none=>Option.none
 | .region id ops false=>match kV (th id)with
   |true=>some (.raw (.region id ops false))
   |false=>match bY .off ops ops.toList with
    |some l=>some (.region l)
    |Option.none=>Option.none
 | .seq a b=>match strip rx th a,strip rx th b with
   |some x,some y=>some (.seq x y)
   |_,_=>Option.none
 | .cond c a b=>match strip rx th a,strip rx th b with
   |some x,some y=>some (.cond c x y)
   |_,_=>Option.none
 | .block id c=>match strip rx th c with
   |some x=>some (.block id x)
   |Option.none=>Option.none
 | .loop c=>match strip rx th c with
   |some x=>some (.loop x)
   |Option.none=>Option.none
 | .exit id=>some (.exit id)
 | .ret=>some .ret
 | .rangeFunc a b c d=>some (.raw (.rangeFunc a b c d))
 |_=>Option.none
def iV(rx:Bool)(th:Nat→Option TH):Code→Bool
 | .region id ops true=>match kV (th id)with
   |true=>true
   |false=>match eR (th id)with
    |true=>bGj (kU rx (th id)) (mJ (th id)) ops
    |false=>tF (kU rx (th id)) ops
 | .seq a b| .cond _ a b=>iV rx th a&&iV rx th b
 | .block _ c| .loop c=>iV rx th c
 |_=>true
section
variable {P:Program} {G:Md} {rx:Bool} {th:Nat→Option TH}
theorem aMu{c:Code}{S:Type}(I:S→Act→World→Prop)(μ:S→Nat){Q:Exit→Act→World→Prop}(s0:S){a:Act}{w:World}(h₀:I s0 a w)
 (round:∀s a w,I s a w→c.wp P (Exit.then (fun a' w'=>∃s',I s' a' w'∧μ s'<μ s) Q) a w):(Code.loop c).wp P Q a w:=by
 intro b k cs;have key:∀n s a w,μ s=n→I s a w →
  ∃e a' w',Q e a' w'∧Arrives P (lone (b.at a (.code c::.inLoop c::k)) cs w) b k cs e a' w':=by
  intro n;induction n using Nat.strongRecOn with
  |_ n ih=>
   intro s a w hn hI;obtain⟨e,a₁,w₁,hq,harr⟩:=round s a w hI b (.inLoop c::k) cs;cases e with
   |normal=>
    obtain⟨s',hI₁,hlt⟩:=hq;obtain⟨e₂,a₂,w₂,hq₂,harr₂⟩:=ih (μ s') (hn▸hlt) s' a₁ w₁ rfl hI₁;exact⟨e₂,a₂,w₂,hq₂,.of_steps (Steps.trans harr (.one step_inLoop)) harr₂⟩
   |exit id=>exact⟨_,a₁,w₁,hq,.pass (x:=.inLoop c) rfl (fun _ _=>.inl (by simp)) harr⟩
   |goto l=>exact⟨_,a₁,w₁,hq,.pass (x:=.inLoop c) rfl (fun _ _=>.inl (by simp)) harr⟩
   |ret=>exact⟨_,a₁,w₁,hq,.pass (x:=.inLoop c) rfl (fun _ _=>.inl (by simp)) harr⟩
   |panic ch=>exact⟨_,a₁,w₁,hq,.pass (x:=.inLoop c) rfl (fun _ _=>.inl (by simp)) harr⟩
   |outgrown=>exact⟨_,a₁,w₁,hq,.pass (x:=.inLoop c) rfl (fun _ _=>.inl (by simp)) harr⟩
 obtain⟨e,a',w',hq,harr⟩:=key _ s0 a w rfl h₀;exact⟨e,a',w',hq,.of_steps (.one step_loop) harr⟩
theorem lR.trans{X X1:Ctx}{w w1:World}{h h1:List AObj}{K:List AV→List AObj→Prop}{a':Act}{w':World}(t:Tr X w h X1 w1 h1)(k:lR G X1 w1 h1 K a' w'):lR G X w h K a' w':=by
 obtain⟨env',h',X',k1,k2,k3,k4⟩:=k;exact⟨env',h',X',k1,k2,k3,t.trans k4⟩
theorem tM(hm:P.follows .mixedOrders=true):∀(c:Code) (ac:kQ),iV rx th c=true→strip rx th c=some ac→∀(Q:Exit→List AV→List AObj→Prop) (env:List AV) (h:List AObj),awx P G ac Q env h→AW P G c Q env h
 | .skip,ac,hd,hs,Q,env,h,e=>by
   simp only[strip,aF]at hs;subst hs;intro X w a g r;exact wp_skip ⟨env,h,X,e,g,r,.refl _ _ _⟩
 | .region id ops false,ac,hd,hs,Q,env,h,e=>by
   simp only[strip]at hs;cases hr:kV (th id)with
   |true=>
    rw[hr]at hs;simp only[aF]at hs;subst hs;exact e
   |false=>
   rw[hr]at hs;simp only at hs;cases hl:bY .off ops ops.toList with
   |none=>simp[hl]at hs
   |some al=>
    simp only[hl,aF]at hs;subst hs;intro X w a g r;exact wp_region_list (lI ops.toList al hl env h X w a e g r (fun a' w' k=>k) (fun _ v a' w' ⟨env2,h2,X2,m1,m2,m3,m4⟩=>⟨env2,h2,X2,⟨v,rfl,m1⟩,m2,m3,m4⟩))
 | .region id ops true,ac,hd,hs,Q,env,h,e=>by
   simp only[strip]at hs;simp only[iV]at hd;cases hr:kV (th id)with
   |true=>
    rw[hr]at hs;simp only[aF]at hs;subst hs;exact e
   |false=>
   rw[hr]at hs hd;simp only at hs hd;cases hq:eR (th id)with
   |true=>
    rw[hq]at hs hd;simp only[bGj,aD]at hs hd;have he:=aRa (mJ (th id)) ops.toList;generalize nP (mJ (th id)) ops.toList=q at hs hd he;obtain⟨p,l⟩:=q;have hops:ops=p.toArray++l.toArray:=by
     apply oE;rw[he];simp
    split at hs
    ·rename_i al a' h2 h3;simp only[aF]at hs;subst hs;intro X w a g r;rw[hops];exact aEj hm hd.1 hd.2 h2 (hops▸h3) e g r (fun a' w' k=>k) (fun v a' w' ⟨env2,h2,X2,m1,m2,m3,m4⟩=>⟨env2,h2,X2,⟨v,rfl,m1⟩,m2,m3,m4⟩)
    ·cases hs
   |false=>
   rw[hq]at hs hd;simp only at hs hd;cases hl:bY (kU rx (th id)) ops (fQ ops)with
   |none=>simp[hl]at hs
   |some al=>
    simp only[hl,aF]at hs;subst hs;intro X w a g r;exact bNg hm hd hl e g r (fun a' w' k=>k)
 | .seq x y,ac,hd,hs,Q,env,h,e=>by
   simp only[iV,aD]at hd;simp only[strip]at hs;cases hx:strip rx th x with
   |none=>simp[hx]at hs
   |some ax=>
   cases hy:strip rx th y with
   |none=>simp[hx,hy]at hs
   |some ay=>
    simp only[hx,hy,aF]at hs;subst hs;intro X w a g r;refine wp_seq (wp_mono (tM hm x ax hd.1 hx _ env h e X w a g r) ?_);intro e' a' w' k;cases e' with
    |normal=>
     obtain⟨env',h',X',k1,k2,k3,k4⟩:=k;exact wp_mono (tM hm y ay hd.2 hy _ env' h' k1 X' w' a' k2 k3) (fun e2 a2 w2 k5=>k5.trans k4)
    |_=>exact k
 | .cond c x y,ac,hd,hs,Q,env,h,e=>by
   simp only[iV,aD]at hd;simp only[strip]at hs;cases hx:strip rx th x with
   |none=>simp[hx]at hs
   |some ax=>
   cases hy:strip rx th y with
   |none=>simp[hx,hy]at hs
   |some ay=>
    simp only[hx,hy,aF]at hs;subst hs;intro X w a g r;have rc:=iW g r c;simp only[awx]at e;cases hc:aev G env c with
    |b t=>
     rw[hc]at e rc;have hv:=aIl rc;cases t with
     |true=>exact wp_cond_true hv (tM hm x ax hd.1 hx _ env h (e.1 rfl) X w a g r)
     |false=>exact wp_cond_false hv (tM hm y ay hd.2 hy _ env h (e.2 rfl) X w a g r)
    |_=>rw[hc]at e;exact e.elim
 | .block id c,ac,hd,hs,Q,env,h,e=>by
   simp only[iV]at hd;simp only[strip]at hs;cases hx:strip rx th c with
   |none=>simp[hx]at hs
   |some ax=>
    simp only[hx,aF]at hs;subst hs;intro X w a g r;refine wp_block (wp_mono (tM hm c ax hd hx _ env h e X w a g r) ?_);intro e' a' w' k;cases e' with
    |exit i=>
     simp only[Exit.inBlock];obtain⟨env',h',X',k1,k2,k3,k4⟩:=k;simp only[bKw,C3]at k1;split
     ·rename_i hi;rw[if_pos hi]at k1;exact⟨env',h',X',k1,k2,k3,k4⟩
     ·rename_i hi;rw[if_neg hi]at k1;exact⟨env',h',X',k1,k2,k3,k4⟩
    |_=>exact k
 | .loop c,ac,hd,hs,Q,env,h,e=>by
   simp only[iV]at hd;simp only[strip]at hs;cases hx:strip rx th c with
   |none=>simp[hx]at hs
   |some ax=>
    simp only[hx,aF]at hs;subst hs;intro X w a g r;simp only[awx,Loop]at e;obtain⟨S,I,μ,s0,h0,hround⟩:=e;refine aMu (S:=S×List AV×List AObj×Ctx) (fun s a' w'=>I s.1 s.2.1 s.2.2.1∧GH G s.2.2.2 w' s.2.2.1∧EnvOK G.ds s.2.2.2 w' s.2.2.1 s.2.1 a'∧Tr X w h s.2.2.2 w' s.2.2.1) (fun s=>μ s.1) (s0,env,h,X) ⟨h0,g,r,.refl _ _ _⟩ ?_;rintro⟨s1,env1,h1,X1⟩ a1 w1 ⟨i1,g1,r1,t1⟩;refine wp_mono (tM hm c ax hd hx _ env1 h1 (hround s1 env1 h1 i1) X1 w1 a1 g1 r1) ?_;intro e' a' w' k;cases e' with
    |normal=>
     obtain⟨env',h',X',⟨s',k1,k1'⟩,k2,k3,k4⟩:=k;exact⟨(s',env',h',X'),⟨k1,k2,k3,t1.trans k4⟩,k1'⟩
    |_=>exact k.trans t1
 | .exit id,ac,hd,hs,Q,env,h,e=>by
   simp only[strip,aF]at hs;subst hs;intro X w a g r;exact wp_exit ⟨env,h,X,e,g,r,.refl _ _ _⟩
 | .ret,ac,hd,hs,Q,env,h,e=>by
   simp only[strip,aF]at hs;subst hs;intro X w a g r;exact wp_ret ⟨env,h,X,e,g,r,.refl _ _ _⟩
 | .rangeFunc _ _ _ _,ac,hd,hs,Q,env,h,e=>by
   simp only[strip,aF]at hs;subst hs;exact e
 | .scope _,ac,hd,hs,Q,env,h,e=>by simp[strip]at hs
 | .label _,ac,hd,hs,Q,env,h,e=>by simp[strip]at hs
 | .goto _,ac,hd,hs,Q,env,h,e=>by simp[strip]at hs
 | .refuse _,ac,hd,hs,Q,env,h,e=>by simp[strip]at hs
end
mutual
def dN:AV→AV→List Nat
 | .hs id _ _ _,.own .. => [id]
 | .agg xs,.agg rs=>finIdsL xs rs
 | .tup xs,.tup rs=>finIdsL xs rs
 |_,_=>[]
def finIdsL:List AV→List AV→List Nat
 |x::xs,r::rs=>dN x r++finIdsL xs rs
 |_,_=>[]
end
mutual
def kC(h:List AObj):AV→AV→List Nat
 | .hs _ _ _ _,.own .. => []
 | .e0,.own .. => []
 | .agg xs,.agg rs=>finRchL h xs rs
 | .tup xs,.tup rs=>finRchL h xs rs
 |x,_=>eL dep h x
def finRchL(h:List AObj):List AV→List AV→List Nat
 |x::xs,r::rs=>kC h x r++finRchL h xs rs
 |_,_=>[]
end
mutual
def oZ(h:List AObj):AV→AV→Prop
 | .hs id off n t,.own sz cells m=>t=false∧m=n∧∃cs,h[id]? = some (.arr false sz cs)∧off+n*sz≤cs.length∧cells=(cs.drop off).take (n*sz)∧persL cells=true
 | .e0,.own sz cells m=>cells=[]∧m=0
 | .agg xs,.agg rs=>finOKL h xs rs
 | .tup xs,.tup rs=>finOKL h xs rs
 |x,r=>r=iA dep h x
def finOKL(h:List AObj):List AV→List AV→Prop
 | [],[]=>True
 |x::xs,r::rs=>oZ h x r∧finOKL h xs rs
 |_,_=>False
end
def Fin(h:List AObj)(x r:AV):Prop:=(r=x∧pers x=true)∨(oZ h x r∧(dN x r).Nodup∧∀i∈dN x r,i∉kC h x r)
def FB(X:Ctx)(ids:List Nat)(b:Nat):Prop:=X.F b∨∃id o,id∉ids∧X.ι id=some (b,o)
section
variable {P:Program} {G:Glob} {D:List Deferred} {X:Ctx} {w:World} {h:List AObj}
def aAt(X:Ctx)(ids:List Nat):List Nat:=ids.filterMap fun i=>(X.ι i).map (·.1)
theorem aIm(X:Ctx)(a b:List Nat):aAt X (a++b)=aAt X a++aAt X b:=by simp[aAt]
theorem aAs{X:Ctx}{ids:List Nat}{b:Nat}(hb:b∈aAt X ids):∃id∈ids,∃o,X.ι id=some (b,o):=by
 simp only[aAt,List.mem_filterMap,dH]at hb;obtain⟨id,hi,⟨c,o⟩,hc,rfl⟩:=hb;exact⟨id,hi,o,hc⟩
theorem zP(g:GH G X w h):∀{ids:List Nat},ids.Nodup→(aAt X ids).Nodup
 | [],_=>by simp[aAt]
 |id::ids,hn=>by
  rw[jJ]at hn;have ih:=zP g hn.2;simp only[aAt,mE];cases hb:X.ι id with
  |none=>simp only[Option.map_none];exact ih
  |some bo=>
   obtain⟨b,o⟩:=bo;simp only[hb,dR];rw[jJ];refine⟨fun hm=>?_,ih⟩;obtain⟨id',hi',o',ho'⟩:=aAs (X:=X) (ids:=ids) hm;exact hn.1 (g.inj _ _ _ _ _ hb ho'▸hi')
theorem jO(g:GH G X w h)(ids:List Nat){x:AV}{v:Value}(r:RV X w h x v)(hd:∀i∈ids,i∉eL dep h x):RR (FB X ids) w (iA dep h x) v []:=by
 refine RR.val ((H7 g dep x v r).monoF ?_);rintro b (hb|⟨id,hi,o,ho⟩)
 ·exact .inl hb
 ·exact .inr ⟨id,o,fun hm=>hd id hm hi,ho⟩
mutual
theorem aVb(g:GH G X w h)(ids:List Nat):∀(x r:AV) (v:Value),oZ h x r→RV X w h x v→(∀i∈ids,i∉kC h x r)→RR (FB X ids) w r v (aAt X (dN x r))
 | .hs id off n t,r,v,e,rv,hd=>by
   have gen:oZ h (.hs id off n t) r=(r=iA dep h (.hs id off n t))→dN (.hs id off n t) r=[]→kC h (.hs id off n t) r=eL dep h (.hs id off n t)→RR (FB X ids) w r v (aAt X (dN (.hs id off n t) r)):=by
    intro e1 e2 e3;rw[e1]at e;rw[e2,e];rw[e3]at hd;exact jO g ids rv hd
   cases r with
   |own sz cells m=>
    clear gen;simp only[oZ]at e;obtain⟨rfl,rfl,cs,hid,hle,rfl,hp⟩:=e;simp only[dN,RR];cases rv with
    |dead hr hd' _=>simp[AV.refs]at hr;subst hr;rw[hid]at hd';cases hd'
    |hs0 hid' hf ho=>exact .inr ⟨by simp,rfl,_,rfl⟩
    | @hs _ _ _ _ fz' s' cells' b o cap T N hid' hι hsh hn hcc hN htt hff=>
      rw[hid]at hid';cases hid';have ok:=g.objs _ _ hid;cases ok with
      |absent h0=>rw[h0]at hι;cases hι
      | @arr _ _ _ b' o' cur T' fr h0 hb hf1 hf2 hl h1 hr hc1=>
      rw[h0]at hι;cases hι;obtain⟨hF,rfl⟩:=hf2 rfl;have hNs:N=cur.size:=by simp[World.shape?,hb]at hsh;exact hsh.2.symm
      subst hNs;refine .inl ⟨b,o+off,cur,T',cap,by simp[aAt,h0],rfl,hb,by simp;omega,hcc,hN,hc1,?_⟩
      ·intro j y u hy hu;have hy':=hy;rw[eQ]at hy;split at hy
       ·rw[eI]at hy;exact(hr (off+j) y u hy (by rw[← eM];exact hu)).pers (iL hp j y hy') (fun b hb=>.inl hb) (fun _ _=>rfl)
       ·cases hy
   |_=>exact gen rfl rfl rfl
 | .e0,r,v,e,rv,hd=>by
   have gen:oZ h .e0 r=(r=iA dep h .e0)→dN .e0 r=[]→kC h .e0 r=eL dep h .e0→RR (FB X ids) w r v (aAt X (dN .e0 r)):=by
    intro e1 e2 e3;rw[e1]at e;rw[e2,e];rw[e3]at hd;exact jO g ids rv hd
   cases r with
   |own sz cells m=>
    clear gen;simp only[oZ]at e;obtain⟨rfl,rfl⟩:=e;simp only[dN,RR];cases rv with
    |e0 a=>exact .inr ⟨trivial,trivial,a,rfl⟩
    |dead hr _ _=>simp[AV.refs]at hr
   |_=>exact gen rfl rfl rfl
 | .agg xs,r,v,e,rv,hd=>by
   have gen:oZ h (.agg xs) r=(r=iA dep h (.agg xs))→dN (.agg xs) r=[]→kC h (.agg xs) r=eL dep h (.agg xs)→RR (FB X ids) w r v (aAt X (dN (.agg xs) r)):=by
    intro e1 e2 e3;rw[e1]at e;rw[e2,e];rw[e3]at hd;exact jO g ids rv hd
   cases r with
   |agg rs=>
    clear gen;simp only[oZ]at e;simp only[dN];cases rv with
    | @agg _ vs hl h1 hr=>exact⟨vs,rfl,h1,finL_ok g ids xs rs vs.toList e (by simpa using hl) (fun j a v ha hv=>hr j a v ha (by simpa using hv)) hd⟩
    |dead hr _ _=>simp[AV.refs]at hr
   |_=>exact gen rfl rfl rfl
 | .tup xs,r,v,e,rv,hd=>by
   have gen:oZ h (.tup xs) r=(r=iA dep h (.tup xs))→dN (.tup xs) r=[]→kC h (.tup xs) r=eL dep h (.tup xs)→RR (FB X ids) w r v (aAt X (dN (.tup xs) r)):=by
    intro e1 e2 e3;rw[e1]at e;rw[e2,e];rw[e3]at hd;exact jO g ids rv hd
   cases r with
   |tup rs=>
    clear gen;simp only[oZ]at e;simp only[dN];cases rv with
    | @tup _ vs hl hr=>exact⟨vs,rfl,finL_ok g ids xs rs vs.toList e (by simpa using hl) (fun j a v ha hv=>hr j a v ha (by simpa using hv)) hd⟩
    |dead hr _ _=>simp[AV.refs]at hr
   |_=>exact gen rfl rfl rfl
 | .u,r,v,e,rv,hd=>by
   have e':r=iA dep h (.u):=by cases r<;>exact e
   have e2:dN (.u) r=[]:=by cases r<;>rfl
   have e3:kC h (.u) r=eL dep h (.u):=by cases r<;>rfl
   rw[e2,e'];rw[e3]at hd;exact jO g ids rv hd
 | .b x,r,v,e,rv,hd=>by
   have e':r=iA dep h (.b x):=by cases r<;>exact e
   have e2:dN (.b x) r=[]:=by cases r<;>rfl
   have e3:kC h (.b x) r=eL dep h (.b x):=by cases r<;>rfl
   rw[e2,e'];rw[e3]at hd;exact jO g ids rv hd
 | .i k n,r,v,e,rv,hd=>by
   have e':r=iA dep h (.i k n):=by cases r<;>exact e
   have e2:dN (.i k n) r=[]:=by cases r<;>rfl
   have e3:kC h (.i k n) r=eL dep h (.i k n):=by cases r<;>rfl
   rw[e2,e'];rw[e3]at hd;exact jO g ids rv hd
 | .s l,r,v,e,rv,hd=>by
   have e':r=iA dep h (.s l):=by cases r<;>exact e
   have e2:dN (.s l) r=[]:=by cases r<;>rfl
   have e3:kC h (.s l) r=eL dep h (.s l):=by cases r<;>rfl
   rw[e2,e'];rw[e3]at hd;exact jO g ids rv hd
 | .p v',r,v,e,rv,hd=>by
   have e':r=iA dep h (.p v'):=by cases r<;>exact e
   have e2:dN (.p v') r=[]:=by cases r<;>rfl
   have e3:kC h (.p v') r=eL dep h (.p v'):=by cases r<;>rfl
   rw[e2,e'];rw[e3]at hd;exact jO g ids rv hd
 | .sl cells n,r,v,e,rv,hd=>by
   have e':r=iA dep h (.sl cells n):=by cases r<;>exact e
   have e2:dN (.sl cells n) r=[]:=by cases r<;>rfl
   have e3:kC h (.sl cells n) r=eL dep h (.sl cells n):=by cases r<;>rfl
   rw[e2,e'];rw[e3]at hd;exact jO g ids rv hd
 | .own sz cells n,r,v,e,rv,hd=>by
   have e':r=iA dep h (.own sz cells n):=by cases r<;>exact e
   have e2:dN (.own sz cells n) r=[]:=by cases r<;>rfl
   have e3:kC h (.own sz cells n) r=eL dep h (.own sz cells n):=by cases r<;>rfl
   rw[e2,e'];rw[e3]at hd;exact jO g ids rv hd
 | .ptr id off,r,v,e,rv,hd=>by
   have e':r=iA dep h (.ptr id off):=by cases r<;>exact e
   have e2:dN (.ptr id off) r=[]:=by cases r<;>rfl
   have e3:kC h (.ptr id off) r=eL dep h (.ptr id off):=by cases r<;>rfl
   rw[e2,e'];rw[e3]at hd;exact jO g ids rv hd
 | .box cells off,r,v,e,rv,hd=>by
   have e':r=iA dep h (.box cells off):=by cases r<;>exact e
   have e2:dN (.box cells off) r=[]:=by cases r<;>rfl
   have e3:kC h (.box cells off) r=eL dep h (.box cells off):=by cases r<;>rfl
   rw[e2,e'];rw[e3]at hd;exact jO g ids rv hd
 | .mp id,r,v,e,rv,hd=>by
   have e':r=iA dep h (.mp id):=by cases r<;>exact e
   have e2:dN (.mp id) r=[]:=by cases r<;>rfl
   have e3:kC h (.mp id) r=eL dep h (.mp id):=by cases r<;>rfl
   rw[e2,e'];rw[e3]at hd;exact jO g ids rv hd
 | .mapv ks vs,r,v,e,rv,hd=>by
   have e':r=iA dep h (.mapv ks vs):=by cases r<;>exact e
   have e2:dN (.mapv ks vs) r=[]:=by cases r<;>rfl
   have e3:kC h (.mapv ks vs) r=eL dep h (.mapv ks vs):=by cases r<;>rfl
   rw[e2,e'];rw[e3]at hd;exact jO g ids rv hd
 | .fn f first capt,r,v,e,rv,hd=>by
   have e':r=iA dep h (.fn f first capt):=by cases r<;>exact e
   have e2:dN (.fn f first capt) r=[]:=by cases r<;>rfl
   have e3:kC h (.fn f first capt) r=eL dep h (.fn f first capt):=by cases r<;>rfl
   rw[e2,e'];rw[e3]at hd;exact jO g ids rv hd
theorem finL_ok(g:GH G X w h)(ids:List Nat):∀(xs rs:List AV) (vs:List Value),finOKL h xs rs→xs.length=vs.length→(∀(j:Nat) (a:AV) (v:Value),xs[j]? = some a→vs[j]? = some v→RV X w h a v)→(∀i∈ids,i∉finRchL h xs rs) →
 RRs (FB X ids) w rs vs (aAt X (finIdsL xs rs))
 | [],[],[],e,hl,hr,hd=>by simp[finIdsL,aAt,RRs]
 |x :: xs,r::rs,v::vs,e,hl,hr,hd=>by
  simp only[finOKL]at e;simp only[finRchL]at hd;simp only[finIdsL,aIm];exact⟨_,_,rfl,aVb g ids x r v e.1 (hr 0 x v rfl rfl) (fun i hi hm=>hd i hi (dZ _ hm)),
   finL_ok g ids xs rs vs e.2 (by simpa using hl) (fun j a v ha hv=>hr (j+1) a v (by simpa using ha) (by simpa using hv)) (fun i hi hm=>hd i hi (eK _ hm))⟩
 | [],r::rs,vs,e,hl,hr,hd=>by simp[finOKL]at e
 |x::xs,[],vs,e,hl,hr,hd=>by simp[finOKL]at e
 | [],[],_::_,e,hl,hr,hd=>by simp at hl
 |_::_,_::_,[],e,hl,hr,hd=>by simp at hl
end
mutual
theorem aAc:∀(x r:AV),oZ h x r→∀i∈dN x r,∃sz cs,h[i]? = some (.arr false sz cs)
 | .hs id off n t,r,e,i,hi=>by
   cases r with
   |own sz cells m=>
    simp only[oZ]at e;obtain⟨rfl,rfl,cs,hid,_⟩:=e;simp only[dN,aP]at hi;subst hi;exact⟨_,_,hid⟩
   |_=>simp[dN]at hi
 | .agg xs,r,e,i,hi=>by
   cases r with
   |agg rs=>simp only[oZ]at e;simp only[dN]at hi;exact finL_live xs rs e i hi
   |_=>simp[dN]at hi
 | .tup xs,r,e,i,hi=>by
   cases r with
   |tup rs=>simp only[oZ]at e;simp only[dN]at hi;exact finL_live xs rs e i hi
   |_=>simp[dN]at hi
 | .e0,r,e,i,hi=>by cases r<;>simp[dN]at hi
 | .u,r,e,i,hi=>by cases r<;>simp[dN]at hi
 | .b x,r,e,i,hi=>by cases r<;>simp[dN]at hi
 | .i k n,r,e,i,hi=>by cases r<;>simp[dN]at hi
 | .s l,r,e,i,hi=>by cases r<;>simp[dN]at hi
 | .p v',r,e,i,hi=>by cases r<;>simp[dN]at hi
 | .sl cells n,r,e,i,hi=>by cases r<;>simp[dN]at hi
 | .own sz cells n,r,e,i,hi=>by cases r<;>simp[dN]at hi
 | .ptr id off,r,e,i,hi=>by cases r<;>simp[dN]at hi
 | .box cells off,r,e,i,hi=>by cases r<;>simp[dN]at hi
 | .mp id,r,e,i,hi=>by cases r<;>simp[dN]at hi
 | .mapv ks vs,r,e,i,hi=>by cases r<;>simp[dN]at hi
 | .fn f first capt,r,e,i,hi=>by cases r<;>simp[dN]at hi
theorem finL_live:∀(xs rs:List AV),finOKL h xs rs→∀i∈finIdsL xs rs,∃sz cs,h[i]? = some (.arr false sz cs)
 | [],[],e,i,hi=>by simp[finIdsL]at hi
 |x::xs,r::rs,e,i,hi=>by
  simp only[finOKL]at e;simp only[finIdsL,cQ]at hi;rcases hi with hi|hi
  ·exact aAc x r e.1 i hi
  ·exact finL_live xs rs e.2 i hi
 | [],_::_,e,i,hi=>by simp[finOKL]at e
 |_::_,[],e,i,hi=>by simp[finOKL]at e
end
def aFg(P:Program)(env:List AV)(h:List AObj):ResultVar→Option AV
 | .tmp t=>some (env.getD t .u)
 | .cell a T=>yK P T h (env.getD a .u)
def E1(P:Program)(env:List AV)(h:List AObj):List ResultVar→Option (List AV)
 | []=>some []
 |r::rs=>match aFg P env h r,E1 P env h rs with
  |some x,some l=>some (x::l)
  |_,_=>Option.none
def O1(P:Program)(rs:List ResultVar)(env:List AV)(h:List AObj):Option AV:=
 match E1 P env h rs with
 |some [x]=>some x
 |some l=>some (.tup l)
 |Option.none=>Option.none
def aJt(tmps:Array Value):ResultVar→Go.Sem Value
 | .tmp t=>pure (tmps.getD t undef)
 | .cell b t=>do loadVar t (← asAddr (tmps.getD b undef))
theorem aNj(fn:Func)(tmps:Array Value):results fn tmps=(do
 let vs ← fn.results.mapM (aJt tmps)
 pure (if h:vs.size=1 then vs[0]else .tuple vs)):=rfl
theorem bEl{env:List AV}{a:Act}(g:GH G X w h)(r:EnvOK D X w h env a)(rv:ResultVar){x:AV}(e:aFg P env h rv=some x) :
 ∃v,(aJt a.tmps rv).run P w=.ok v w∧RV X w h x v:=by
 cases rv with
 |tmp t=>
  simp only[aFg,aF]at e;subst e;exact⟨_,rfl,iW g r (.tmp t)⟩
 |cell b T=>
  simp only[aFg]at e;have rb:=iW g r (.tmp b);simp only[aev,Act.eval]at rb;obtain⟨u,hu,ru⟩:=aTv g rb e;refine⟨u,?_,ru⟩;have:∃ad,a.tmps.getD b undef=.pointer (some ad):=by
   unfold yK at e;cases ho:aMh h (env.getD b .u)with
   |none=>rw[ho]at e;cases e
   |some q=>
    obtain⟨cells,off⟩:=q;obtain⟨b',o,cs,T',fr,hv,_⟩:=aXu g rb ho;exact⟨_,hv⟩
  obtain⟨ad,had⟩:=this;simp only[aJt];rw[had]at hu ⊢;simpa[Instr.loadAt,Instr.sureAddr,asAddr]using hu
theorem aMg{env:List AV}{a:Act}(g:GH G X w h)(r:EnvOK D X w h env a):∀(rs:List ResultVar) (l:List AV),E1 P env h rs=some l →
 ∃vs:List Value,(rs.mapM (aJt a.tmps)).run P w=.ok vs w∧l.length=vs.length∧∀(j:Nat) (x:AV) (v:Value),l[j]? = some x→vs[j]? = some v→RV X w h x v
 | [],l,e=>by
   simp only[E1,aF]at e;subst e;exact⟨[],by simp,rfl,by simp⟩
 |rv::rs,l,e=>by
  simp only[E1]at e;cases h1:aFg P env h rv with
  |none=>simp[h1]at e
  |some x=>
  cases h2:E1 P env h rs with
  |none=>simp[h1,h2]at e
  |some l'=>
   simp only[h1,h2,aF]at e;subst e;obtain⟨v,hv,rx⟩:=bEl g r rv h1;obtain⟨vs,hvs,hl,hr⟩:=aMg g r rs l' h2;refine⟨v::vs,?_,by simp[hl],?_⟩
   ·rw[List.mapM_cons,cK,hv,bP,cK,hvs];rfl
   ·intro j y u hy hu;cases j with
    |zero=>simp at hy hu;exact hy▸hu▸rx
    |succ j=>exact hr j y u (by simpa using hy) (by simpa using hu)
theorem aBa{env:List AV}{a:Act}{fn:Func}(g:GH G X w h)(r:EnvOK D X w h env a){x:AV}(e:O1 P fn.results.toList env h=some x):∃v,(results fn a.tmps).run P w=.ok v w∧RV X w h x v:=by
 unfold O1 at e;cases hl:E1 P env h fn.results.toList with
 |none=>simp[hl]at e
 |some l=>
  obtain⟨vs,hvs,hlen,hr⟩:=aMg g r _ l hl;have hrun:(results fn a.tmps).run P w=.ok (if h:vs.toArray.size=1 then vs.toArray[0]else .tuple vs.toArray) w:=by
   rw[aNj,cK,Array.mapM_eq_mapM_toList,Sem.run_map,hvs];rfl
  rw[hrun];rw[hl]at e;clear hl hvs hrun;cases l with
  |nil=>
   cases vs with
   |cons=>simp at hlen
   |nil=>
    simp only[aF]at e;subst e;exact⟨_,rfl,by simpa using .tup (vs := #[]) rfl (by simp)⟩
  |cons y l=>
   cases vs with
   |nil=>simp at hlen
   |cons v vs=>
    cases l with
    |nil=>
     have hvs0:vs=[]:=List.eq_nil_of_length_eq_zero (by simpa using hlen.symm);subst hvs0;simp only[aF]at e;subst e;exact⟨v,by simp,hr 0 y v rfl rfl⟩
    |cons z l=>
     simp only[aF]at e;subst e;refine⟨_,rfl,?_⟩;have:(v::vs).toArray.size≠1:=by simp at hlen ⊢;intro h0;rw[h0]at hlen;simp at hlen
     rw[dif_neg this];exact .tup (by simpa using hlen) (fun j a v ha hv=>hr j a v ha (by simpa using hv))
end
theorem bQs{P:Program}{G:Glob}{f:FuncId}{fn:Func}{c:Code}{args:List AV}{r:AV}(hf:P.funcs[f]? = some fn)(hb:fn.body=some c)(hcal:gU P f=true)(hG:pC G)
 (h:AW P (pl G) c (fun e env h=>(e=.normal∨e=.ret)∧∃x,O1 P fn.results.toList env h=some x∧Fin h x r) (args++List.replicate (fn.ntmps-args.length) .u) []):Ctr P G f args r:=by
 refine⟨hcal,hG,?_⟩;intro F w vs hF hgl hl hr;have g0:GH G (.none F) w []:=⟨fun id ob h=>by simp at h,fun id bo h=>by simp[Ctx.none]at h,fun id id' b o o' h=>by simp[Ctx.none]at h,fun id b o h=>by simp[Ctx.none]at h,hF,hgl⟩;have r0:EnvOK (pl G).ds (.none F) w [] (args++List.replicate (fn.ntmps-args.length) .u) {tmps:=vs++Array.replicate (fn.ntmps-vs.size) undef,defers:=[]}:=by
  refine⟨rfl,by simp[hl],?_⟩;intro j x v hx hv;by_cases hj:j<args.length
  ·rw[aN hj]at hx;rw[dT (by omega)]at hv;exact hr j x v hx hv
  ·rw[aX (by omega),jY]at hx;split at hx
   ·cases hx;exact .u _
   ·cases hx
 refine calls_of_wp hf hb (wp_mono (h (.none F) w _ g0 r0) ?_);rintro e a' w' ⟨env',h',X',hk,g',r',t⟩;obtain⟨he,x,hres,hfin⟩:=aGx hk;obtain⟨v,hrun,rx⟩:=aBa g' r' hres;have hgr:F9 w w':=⟨fun b hb=>t.step.frame b hb (fun id o e=>by simp[Ctx.none]at e),t.step.size,t.step.os,t.step.tape,t.step.output⟩;have hι:∀id b o,X'.ι id=some (b,o)→w.heap.size≤b:=by
  intro id b o hb;rcases t.step.new id b o hb with h|⟨_,_,h⟩
  ·exact h
  ·simp[Ctx.none]at h
 have hXF:∀b,X'.F b→F b∨w.heap.size≤b:=by
  intro b hb;rcases t.step.fnew b hb with h|h|⟨_,_,h⟩
  ·exact .inl h
  ·exact .inr h
  ·simp[Ctx.none]at h
 have hFB:∀(ids:List Nat),(∀b,F b→FB X' ids b)∧(∀b,FB X' ids b→F b∨w.heap.size≤b)∧(∀b,FB X' ids b→b<w'.heap.size):=by
  intro ids;refine⟨fun b hb=>.inl (t.ext.fr b hb),?_,?_⟩
  ·rintro b (hb|⟨id,o,_,ho⟩)
   ·exact hXF b hb
   ·exact .inr (hι _ _ _ ho)
  ·rintro b (hb|⟨id,o,_,ho⟩)
   ·exact g'.fbnd b hb
   ·exact g'.bnd _ _ _ ho
 have hR:∃v' F' bs,Ending.returned v=.returned v'∧F9 w w'∧(∀b,F b→F' b)∧(∀b,F' b→F b∨w.heap.size≤b)∧(∀b,F' b→b<w'.heap.size)∧RR F' w' r v' bs∧bs.Nodup∧∀b∈bs,¬F' b∧w.heap.size≤b:=by
  rcases hfin with⟨rfl,hp⟩|⟨hok,hnd,hdis⟩
  ·exact⟨v,FB X' [],[],rfl,hgr,(hFB []).1,(hFB []).2.1,(hFB []).2.2,RR.val (rx.pers hp (fun b hb=>.inl hb) (fun _ _=>rfl)),fL,by simp⟩
  ·refine⟨v,FB X' (dN x r),aAt X' (dN x r),rfl,hgr,(hFB _).1,(hFB _).2.1,(hFB _).2.2,aVb g' _ x r v hok rx hdis,zP g' hnd,?_⟩;intro b hb;obtain⟨id,hi,o,ho⟩:=aAs hb;refine⟨?_,hι _ _ _ ho⟩;rintro(hF'|⟨id',o',hn,ho'⟩)
   ·obtain⟨sz,cs,hid⟩:=aAc x r hok id hi;have ok:=g'.objs _ _ hid;cases ok with
    |arr h0 h1 h2 h3=>rw[h0]at ho;cases ho;exact(h3 rfl).1 hF'
    |absent h0=>rw[h0]at ho;cases ho
   ·exact hn (g'.inj _ _ _ _ _ ho ho'▸hi)
 rcases he with rfl|rfl
 ·exact⟨r'.defers,v,hrun,hR⟩
 ·exact⟨r'.defers,v,hrun,hR⟩
theorem pY{rx:Bool}{th:Nat→Option TH}{P:Program}(hm:P.follows .mixedOrders=true){G:Glob}{f:FuncId}{fn:Func}{c:Code}{ac:kQ}{args:List AV}{r:AV}(hf:P.funcs[f]? = some fn)(hb:fn.body=some c)(hcal:gU P f=true)(hd:iV rx th c=true)(hs:strip rx th c=some ac)(hG:pC G)
 (h:awx P (pl G) ac (fun e env h=>(e=.normal∨e=.ret)∧∃x,O1 P fn.results.toList env h=some x∧Fin h x r) (args++List.replicate (fn.ntmps-args.length) .u) []):Ctr P G f args r:=
 bQs hf hb hcal hG (tM hm c ac hd hs _ _ _ h)
abbrev pmd(g:Glob)(v:Value):Md:=⟨g,fun v' _ _=>v'=v,[]⟩
theorem bJt{P:Program}{G:Glob}{f:FuncId}{fn:Func}{c:Code}{args:List AV}{v:Value}(hf:P.funcs[f]? = some fn)(hb:fn.body=some c)(hcal:gU P f=true)(hG:pC G)
 (h:AW P (pmd G v) c (fun _ _ _=>False) (args++List.replicate (fn.ntmps-args.length) .u) []):bWw P G f args v:=by
 refine⟨hcal,hG,?_⟩;intro F w vs hF hgl hl hr;have g0:GH G (.none F) w []:=⟨fun id ob h=>by simp at h,fun id bo h=>by simp[Ctx.none]at h,fun id id' b o o' h=>by simp[Ctx.none]at h,fun id b o h=>by simp[Ctx.none]at h,hF,hgl⟩;have r0:EnvOK (pmd G v).ds (.none F) w [] (args++List.replicate (fn.ntmps-args.length) .u) {tmps:=vs++Array.replicate (fn.ntmps-vs.size) undef,defers:=[]}:=by
  refine⟨rfl,by simp[hl],?_⟩;intro j x v hx hv;by_cases hj:j<args.length
  ·rw[aN hj]at hx;rw[dT (by omega)]at hv;exact hr j x v hx hv
  ·rw[aX (by omega),jY]at hx;split at hx
   ·cases hx;exact .u _
   ·cases hx
 refine calls_of_wp hf hb (wp_mono (h (.none F) w _ g0 r0) ?_);rintro e a' w' ⟨env',h',X',hk,g',r',t⟩;cases e with
 |panic ch=>
  obtain⟨v',rfl,rfl⟩:=hk;exact⟨r'.defers,rfl,⟨fun b hb=>t.step.frame b hb (fun id o e=>by simp[Ctx.none]at e),t.step.size,t.step.os,t.step.tape,t.step.output⟩⟩
 |_=>exact hk.elim
theorem aNe{rx:Bool}{th:Nat→Option TH}{P:Program}(hm:P.follows .mixedOrders=true){G:Glob}{f:FuncId}{fn:Func}{c:Code}{ac:kQ}{args:List AV}{v:Value}(hf:P.funcs[f]? = some fn)(hb:fn.body=some c)(hcal:gU P f=true)(hd:iV rx th c=true)(hs:strip rx th c=some ac)(hG:pC G)
 (h:awx P (pmd G v) ac (fun _ _ _=>False) (args++List.replicate (fn.ntmps-args.length) .u) []):bWw P G f args v:=
 bJt hf hb hcal hG (tM hm c ac hd hs _ _ _ h)
section
variable (P:Program) (G:Md) (dr:Option DR)
def fB(op:Op)(d:Option Nat)(os:List fZ)(K:List AV→List AObj→Prop)(env:List AV)(h:List AObj):Prop:=
 oX P G dr op (fun r h'=>dM P G dr os K (iE env d r) h') env h
def oT(x:Option AV)(d:Option Nat)(os:List fZ)(K:List AV→List AObj→Prop)(env:List AV)(h:List AObj):Prop:=
 match x with
 |some v=>dM P G dr os K (iE env d v) h
 |Option.none=>False
def aWi(x:Option (List AObj))(d:Option Nat)(os:List fZ)(K:List AV→List AObj→Prop)(env:List AV):Prop:=
 match x with
 |some h'=>dM P G dr os K (iE env d .u) h'
 |Option.none=>False
def nG(x:Option (AV×List AObj))(d:Option Nat)(os:List fZ)(K:List AV→List AObj→Prop)(env:List AV):Prop:=
 match x with
 |some (v,h')=>dM P G dr os K (iE env d v) h'
 |Option.none=>False
def bOf(fv:AV)(args:List AV)(d:Option Nat)(os:List fZ)(K:List AV→List AObj→Prop)(env:List AV)(h:List AObj):Prop:=
 match fv with
 | .fn f first capt=>D8 P G (fun v h'=>G.pan v env h') dr.isSome f (first++args++capt) h (fun r h'=>dM P G dr os K (iE env d r) h')
 |_=>False
def zN(f:FuncId)(A:List AV)(d:Option Nat)(os:List fZ)(K:List AV→List AObj→Prop)(env:List AV)(h:List AObj):Prop:=
 D8 P G (fun v h'=>G.pan v env h') dr.isSome f A h (fun r h'=>dM P G dr os K (iE env d r) h')
def nE(c:AV)(want:Bool)(op:Op)(d:Option Nat)(os:List fZ)(K:List AV→List AObj→Prop)(env:List AV)(h:List AObj):Prop:=
 sA (Q2 c want) (fB P G dr op d os K env h) (dM P G dr os K (iE env d (.tup [])) h)
def Q6(c:AV)(a b:kQ)(Q:Exit→List AV→List AObj→Prop)(env:List AV)(h:List AObj):Prop:=
 sA c (awx P G a Q env h) (awx P G b Q env h)
end
section
variable {P:Program} {G:Md} {dr:Option DR} {d:Option Nat} {os:List fZ} {K:List AV→List AObj→Prop} {env:List AV} {h:List AObj} {Q:Exit→List AV→List AObj→Prop}
theorem aHc:dM P G dr [] K env h=K env h:=rfl
theorem bFm{op:Op}{K:AV→List AObj→Prop}:aNh P G dr false op K env h=oX P G dr op K env h:=by
 cases op with
 |call c=>obtain⟨ce,as,ts⟩:=c;cases ce<;>rfl
 |_=>rfl
theorem bBc{op:Op}:dM P G dr (⟨d,op,none,false⟩::os) K env h=fB P G dr op d os K env h:=by simp only[dM,aOn,true_and,bFm];rfl
theorem aSw{op:Op}{t:Nat}{want:Bool}:dM P G dr (⟨d,op,some (t,want),false⟩::os) K env h=nE P G dr (env.getD t .u) want op d os K env h:=by simp only[dM,aOn,true_and,bFm];rfl
def ckV(P:Program)(G:Md)(N:DR)(op:Op)(d:Option Nat)(os:List fZ)(K:List AV→List AObj→Prop)(env:List AV)(h:List AObj):Prop:=
 match op with
 | .buildSlice T len ps=>oT P G (some N) (aOx P (aev G env) T len ps) d os K env h
 | .call ⟨.value f,as,ts⟩=>bPp P G N ⟨.value f,as,ts⟩ (fun r h'=>dM P G (some N) os K (iE env d r) h') env h
 |op=>aFb G N op env∧fB P G (some N) op d os K env h
theorem bRl{op:Op}{N:DR}:dM P G (some N) (⟨d,op,none,true⟩::os) K env h=ckV P G N op d os K env h:=by
 cases op with
 |buildSlice T len ps=>
  have e:dM P G (some N) (⟨d,.buildSlice T len ps,none,true⟩::os) K env h=(True∧D4 ((aOx P (aev G env) T len ps).map fun v=>(v,h)) (fun r h'=>dM P G (some N) os K (iE env d r) h')):=rfl;rw[e,ckV,true_and];cases aOx P (aev G env) T len ps<;>rfl
 |call c=>
  obtain⟨ce,as,ts⟩:=c;cases ce with
  |value f=>
   have e:dM P G (some N) (⟨d,.call ⟨.value f,as,ts⟩,none,true⟩::os) K env h=(True∧bPp P G N ⟨.value f,as,ts⟩ (fun r h'=>dM P G (some N) os K (iE env d r) h') env h):=rfl;rw[e,true_and];rfl
  |_=>rfl
 |_=>rfl
def bPj(P:Program)(G:Md)(N:DR)(f:FuncId)(A:List AV)(d:Option Nat)(os:List fZ)(K:List AV→List AObj→Prop)(env:List AV)(h:List AObj):Prop:=
 ∃x h',ACalls P G f A h (fun x1 h1=>x1=x∧h1=h')∧mT N h h'∧dM P G (some N) os K (iE env d x) h'
def cAz(P:Program)(G:Md)(N:DR)(fv:AV)(args:List AV)(d:Option Nat)(os:List fZ)(K:List AV→List AObj→Prop)(env:List AV)(h:List AObj):Prop:=
 match fv with
 | .fn f first capt=>bPj P G N f (first++args++capt) d os K env h
 |_=>False
theorem aUi{fx:Operand}{args:Array Operand}{tys:Array TypeId}{N:DR}:ckV P G N (.call ⟨.value fx,args,tys⟩) d os K env h=cAz P G N (aev G env fx) (args.toList.map (aev G env)) d os K env h:=by
 rw[ckV];simp only[bPp,fV,mR,cAz,bPj];cases aev G env fx<;>simp only[D8,aI,if_false,false_and,exists_false];have q:∀(f:FuncId) (A:List AV) (K:AV→List AObj→Prop),(ACalls P G.g f A h K∨qR P G.g f A h fun _ _=>False)=ACalls P G.g f A h K:=fun f A K=>propext ⟨fun a=>a.elim id qR.none,.inl⟩;simp only[q]
theorem bWc{f:FuncId}{a b args:List AV}{N:DR}:cAz P G N (.fn f a b) args d os K env h=bPj P G N f (a++args++b) d os K env h:=rfl
def asl:Option (AV×List AObj)→Option AV
 |some (.hs _ _ n _,[.arr _ _ cells])=>if 0<n∧persL cells=true then some (.sl cells n)else Option.none
 |_=>Option.none
theorem bEj{i o n sz:Nat}{t fz:Bool}{cells:List AV}:asl (some (.hs i o n t,[.arr fz sz cells]))=if 0<n∧persL cells=true then some (.sl cells n)else Option.none:=rfl
theorem bCm{op:Op}:nE P G dr (.b true) true op d os K env h=fB P G dr op d os K env h:=by simp[nE,Q2,sA]
theorem bCq{op:Op}:nE P G dr (.b false) false op d os K env h=fB P G dr op d os K env h:=by simp[nE,Q2,sA]
theorem bCn{op:Op}:nE P G dr (.b true) false op d os K env h=dM P G dr os K (iE env d (.tup [])) h:=by simp[nE,Q2,sA]
theorem bCp{op:Op}:nE P G dr (.b false) true op d os K env h=dM P G dr os K (iE env d (.tup [])) h:=by simp[nE,Q2,sA]
theorem bCo{op:Op}{want:Bool}:nE P G dr (.tup []) want op d os K env h=dM P G dr os K (iE env d (.tup [])) h:=by simp[nE,Q2,sA]
theorem L5{op:Op}{x want:Bool}(h1:x=want→fB P G dr op d os K env h)(h2:x=(!want)→dM P G dr os K (iE env d (.tup [])) h):nE P G dr (.b x) want op d os K env h:=by
 cases x<;>cases want<;>simp_all[nE,Q2,sA]
theorem bPq:awx P G .skip Q env h=Q .normal env h:=rfl
theorem aZe{ops:List fZ}:awx P G (.region ops) Q env h=dM P G none ops (Q .normal) env h:=rfl
theorem bPs{ops:List fZ}:awx P G (.draw Option.none ops) Q env h=dM P G (some ⟨h.length,[]⟩) ops (Q .normal) env h:=rfl
theorem bIq{N k:Nat}{L:List Nat}{v m s:Bool}{xs zs:List Nat}{ops:List fZ}:awx P G (.draw (some ⟨some N,L,v,m,s,xs,zs,k⟩) ops) Q env h=dM P G (some ⟨N,L⟩) ops (Q .normal) env h:=rfl
theorem bIr{k:Nat}{L:List Nat}{v m s:Bool}{xs zs:List Nat}{ops:List fZ}:awx P G (.draw (some ⟨none,L,v,m,s,xs,zs,k⟩) ops) Q env h=dM P G (some ⟨h.length,L⟩) ops (Q .normal) env h:=rfl
theorem bXq{a b:kQ}:awx P G (.seq a b) Q env h=awx P G a (yP (awx P G b Q) Q) env h:=rfl
theorem bPu{c:Operand}{a b:kQ}:awx P G (.cond c a b) Q env h=Q6 P G (aev G env c) a b Q env h:=rfl
theorem bIs{i:Nat}{c:kQ}:awx P G (.block i c) Q env h=awx P G c (C3 i Q) env h:=rfl
theorem bPr{i:Nat}:awx P G (.exit i) Q env h=Q (.exit i) env h:=rfl
theorem bXr:awx P G .ret Q env h=Q .ret env h:=rfl
theorem bXs{c:Code}:awx P G (.raw c) Q env h=AW P G c Q env h:=rfl
theorem aGe{K:List AV→List AObj→Prop}:yP K Q .normal env h=K env h:=rfl
theorem aQe{K:List AV→List AObj→Prop}{i:Nat}:yP K Q (.exit i) env h=Q (.exit i) env h:=rfl
theorem aZg{K:List AV→List AObj→Prop}:yP K Q .ret env h=Q .ret env h:=rfl
theorem aFe{i:Nat}:C3 i Q .normal env h=Q .normal env h:=rfl
theorem aWz{i:Nat}:C3 i Q .ret env h=Q .ret env h:=rfl
theorem aOt{i j:Nat}:C3 i Q (.exit j) env h=if j=i then Q .normal env h else Q (.exit j) env h:=rfl
theorem bVp{a b:kQ}:Q6 P G (.b true) a b Q env h=awx P G a Q env h:=by simp[Q6,sA]
theorem bVq{a b:kQ}:Q6 P G (.b false) a b Q env h=awx P G b Q env h:=by simp[Q6,sA]
theorem V4{a b:kQ}{x:Bool}(h1:x=true→awx P G a Q env h)(h2:x=false→awx P G b Q env h):Q6 P G (.b x) a b Q env h:=⟨h1,h2⟩
theorem bIp{c:kQ}{S:Type}(I:S→List AV→List AObj→Prop)(μ:S→Nat)(s0:S)(h0:I s0 env h)(round:∀s env h,I s env h→awx P G c (yP (fun e' h'=>∃s',I s' e' h'∧μ s'<μ s) Q) env h):awx P G (.loop c) Q env h:=
 ⟨S,I,μ,s0,h0,round⟩
theorem bQx{x:Operand}:fB P G dr (.move x) d os K env h=dM P G dr os K (iE env d (aev G env x)) h:=rfl
theorem bAk{x:Operand}:fB P G dr (.assign x) d os K env h=dM P G dr os K (iE env d (aev G env x)) h:=rfl
def bWi:AV→AV→AV→Option AV
 | .b t,a,b=>some (if t then a else b)
 |_,_,_=>Option.none
theorem lW{x:Option AV}:D4 (match x with|some v=>some (v,h)|Option.none=>Option.none) (fun r h'=>dM P G dr os K (iE env d r) h')=oT P G dr x d os K env h:=by cases x<;>rfl
theorem bQw{c a b:Operand}:fB P G dr (.pick c a b) d os K env h=oT P G dr (bWi (aev G env c) (aev G env a) (aev G env b)) d os K env h:=by
 simp only[fB,oX,fO,qP,fV,aop];cases aev G env c<;>rfl
def aFl:Bool→Option Nat→Option (List AV)→List AObj→Option (AV×List AObj)
 |true,some sz,some cells,h=>some (.ptr h.length 0,h++[.arr false sz cells])
 |true,Option.none,some cells,h=>some (.ptr h.length 0,h++[.box false cells])
 |false,_,some cells,h=>some (.ptr h.length 0,h++[.box false cells])
 |_,_,Option.none,_=>Option.none
theorem aYa{sz:Nat}{c:List AV}{h:List AObj}:aFl true (some sz) (some c) h=some (.ptr h.length 0,h++[.arr false sz c]):=rfl
theorem aXz{c:List AV}{h:List AObj}:aFl true Option.none (some c) h=some (.ptr h.length 0,h++[.box false c]):=rfl
theorem bEn{q:Option Nat}{c:List AV}{h:List AObj}:aFl false q (some c) h=some (.ptr h.length 0,h++[.box false c]):=rfl
theorem bKm{T:TypeId}:fB P G dr (.alloc T) d os K env h=nG P G dr (aFl dr.isNone (kW P T) (zeroOf P T) h) d os K env:=by
 simp only[fB,oX,fO,qP,fV,aop];cases kW P T<;>cases zeroOf P T<;>cases dr<;>rfl
theorem bYn{T:TypeId}{x:Operand}:fB P G dr (.box T x) d os K env h=nG P G dr (aFl dr.isNone (kW P T) (kO (aev G env x)) h) d os K env:=by
 simp only[fB,oX,fO,qP,fV,aop];cases kW P T<;>cases kO (aev G env x)<;>cases dr<;>rfl
def aYl(pl:Option (List (Nat×Nat)))(z:Option (List AV))(parts:List (Nat×AV)):Option AV:=
 match pl,z with
 |some pl,some z=>(nM (fun i=>pl[i]?) z parts).map .agg
 |_,_=>Option.none
theorem bKj{T:TypeId}{parts:Array (Nat×Operand)}:fB P G dr (.build T parts) d os K env h=oT P G dr (aYl (iX P T) (zeroOf P T) (parts.toList.map fun(i,x)=>(i,aev G env x))) d os K env h:=by
 simp only[fB,oX,fO,qP,fV,aop];cases iX P T with
 |none=>rfl
 |some pl=>
  cases zeroOf P T with
  |none=>rfl
  |some z=>
   simp only[aYl];cases nM (fun i=>pl[i]?) z (parts.toList.map fun(i,x)=>(i,aev G env x))<;>rfl
def jH(h:List AObj)(el:Option TypeId)(len:Nat)(parts:List (Nat×AV)):Option (AV×List AObj):=
 match el with
 |some e=>match zeroOf P e with
  |some z=>if kZ P e=some z.length∧0<z.length∧len*z.length≤65536 then
   (if len=0∧parts=[]then some (.e0,h)else(nM (fun i=>some (i*z.length,z.length)) (List.replicate len z).flatten parts).map fun cells=>(.hs h.length 0 len false,h++[.arr false z.length cells]))else Option.none
  |Option.none=>Option.none
 |Option.none=>Option.none
def aOm(dr:Option DR)(l:List (Nat×Operand))(a b:Option (AV×List AObj)):Option (AV×List AObj):=if(dr.isSome&&aOl l)=true then a else b
theorem cGm{l:List (Nat×Operand)}{a b:Option (AV×List AObj)}:aOm Option.none l a b=b:=rfl
theorem cGn{N:DR}{a b:Option (AV×List AObj)}:aOm (some N) [] a b=b:=rfl
theorem cGl{N:DR}{i:Nat}{t:Tmp}{l:List (Nat×Operand)}{a b:Option (AV×List AObj)}:aOm (some N) ((i,.tmp t)::l) a b=b:=rfl
theorem cAv{N:DR}{i:Nat}{v:Value}{a b:Option (AV×List AObj)}:aOm (some N) [(i,.const v)] a b=a:=rfl
theorem bWk{T:TypeId}{len:Nat}{parts:Array (Nat×Operand)}:aop P G env h (.buildSlice T len parts)=jH (P:=P) h (fS P T) len (parts.toList.map fun(i,x)=>(i,aev G env x)):=by
 simp only[aop,jH];cases fS P T with
 |none=>rfl
 |some e=>
  simp only;cases zeroOf P e with
  |none=>rfl
  |some z=>
   simp only;have hm:(parts.toList=[])↔((parts.toList.map fun(i,x)=>(i,aev G env x))=[]):=by simp
   simp only[hm];split
   ·split
    ·rfl
    ·cases nM (fun i=>some (i*z.length,z.length)) (List.replicate len z).flatten (parts.toList.map fun(i,x)=>(i,aev G env x))<;>rfl
   ·rfl
theorem aHb{x:Option (AV×List AObj)}:D4 x (fun r h'=>dM P G dr os K (iE env d r) h')=nG P G dr x d os K env:=by
 cases x<;>rfl
theorem aCs{T:TypeId}{len:Nat}{parts:Array (Nat×Operand)}:fB P G dr (.buildSlice T len parts) d os K env h=nG P G dr (aOm dr parts.toList ((aZa P T len parts).map fun v=>(v,h)) (jH (P:=P) h (fS P T) len (parts.toList.map fun(i,x)=>(i,aev G env x)))) d os K env:=by
 rw[← bWk];simp only[fB,oX,fO,qP,fV];exact aHb
def mA:Nat→List (Nat×AV)→Option (List AV)
 |_,[]=>some []
 |i,(j,a)::rest=>if j=i then(match kO a with
  |some [c]=>(mA (i+1) rest).map (c::·)
  |_=>Option.none)else Option.none
theorem aFo:∀(parts:List (Nat×AV)) (i:Nat) (cells pre:List AV) (z:AV),mA i parts=some cells→pre.length=i →
 nM (fun i=>some (i*1,1)) (pre++List.replicate cells.length z) parts=some (pre++cells)
 | [],i,cells,pre,z,h,hp=>by
   simp only[mA,aF]at h;subst h;simp[nM]
 |(j,a)::rest,i,cells,pre,z,h,hp=>by
  simp only[mA]at h;split at h;case isFalse=>cases h
  rename_i hj;subst hj;split at h;case h_2=>cases h
  rename_i c hc;cases hr:mA (j+1) rest with
  |none=>simp[hr]at h
  |some cs=>
   simp only[hr,dR,aF]at h;subst h;have ih:=aFo rest (j+1) cs (pre++[c]) z hr (by simp[hp]);simp only[nM,hc,bF,bZ,List.length_append,List.length_replicate,aYn,eF];rw[if_pos ⟨trivial,by omega⟩];have hs:jZ (pre++List.replicate (cs.length+1) z) j [c]=(pre++[c])++List.replicate cs.length z:=by
    unfold jZ;rw[List.take_left' hp,List.length_singleton,List.drop_append,dQ (by omega),hp];have:j+1-j=1:=by omega
    rw[this,aE,fT,aV,bK]
   have e1:(fun i=>some (i*1,1))=(fun i:Nat=>some (i,1)):=by funext i;rw[aYn]
   rw[e1]at ih;rw[hs,ih,cM];rfl
theorem bCw{i:Nat}:mA i []=some []:=rfl
theorem bSl{i:Nat}{rest:List (Nat×AV)}{l:List UInt8}:mA i ((i,.s l)::rest)=(mA (i+1) rest).map (.s l::·):=by simp[mA,kO,AV.one]
theorem bSm{i:Nat}{rest:List (Nat×AV)}{k:IntKind}{n:Int}:mA i ((i,.i k n)::rest)=(mA (i+1) rest).map (.i k n::·):=by simp[mA,kO,AV.one]
theorem bMs{i:Nat}{rest:List (Nat×AV)}{c:List AV}{n:Nat}:mA i ((i,.sl c n)::rest)=(mA (i+1) rest).map (.sl c n::·):=by simp[mA,kO,AV.one]
theorem bMt{i:Nat}{rest:List (Nat×AV)}{id o n:Nat}{t:Bool}:mA i ((i,.hs id o n t)::rest)=(mA (i+1) rest).map (.hs id o n t::·):=by simp[mA,kO,AV.one]
def nH(h:List AObj)(el:Option TypeId)(len:Nat)(parts:List (Nat×AV)):Option (AV×List AObj):=
 match el with
 |some e=>match zeroOf P e,kZ P e,mA 0 parts with
  |some [_],some 1,some cells=>if cells.length=len∧0<len∧len≤65536 then some (.hs h.length 0 len false,h++[.arr false 1 cells])else jH (P:=P) h (some e) len parts
  |_,_,_=>jH (P:=P) h (some e) len parts
 |Option.none=>Option.none
theorem tW{el:Option TypeId}{len:Nat}{parts:List (Nat×AV)}:jH (P:=P) h el len parts=nH (P:=P) h el len parts:=by
 unfold nH;cases el with
 |none=>rfl
 |some e=>
  simp only;split
  ·rename_i z cells hz hs hf;split
   ·rename_i hc;obtain⟨hc1,hc0,hc2⟩:=hc;have:=aFo parts 0 cells [] z hf rfl;simp only[jH,hz,hs,List.length_singleton];rw[if_pos ⟨trivial,by omega,by omega⟩,if_neg (by omega)];have e2:(List.replicate len [z]).flatten=[]++List.replicate cells.length z:=by
     rw[hc1,aE];clear this hc1 hc0 hc2 hf;induction len with
     |zero=>rfl
     |succ n ih=>rw[fT,aJ,ih,fT];rfl
    rw[e2,this];rfl
   ·rfl
  ·rfl
theorem X7{T:TypeId}{len:Nat}{parts:Array (Nat×Operand)}:fB P G dr (.buildSlice T len parts) d os K env h=nG P G dr (aOm dr parts.toList ((aZa P T len parts).map fun v=>(v,h)) (nH (P:=P) h (fS P T) len (parts.toList.map fun(i,x)=>(i,aev G env x)))) d os K env:=by
 rw[aCs,tW]
theorem bWe{T:TypeId}{len:Nat}{parts:Array (Nat×Operand)}:aOx P (aev G env) T len parts=asl (jH (P:=P) [] (fS P T) len (parts.toList.map fun(i,x)=>(i,aev G env x))):=by
 unfold aOx jH;cases fS P T with
 |none=>rfl
 |some e=>
  simp only;cases zeroOf P e with
  |none=>rfl
  |some z=>
   simp only;by_cases h1:kZ P e=some z.length∧0<z.length∧len*z.length≤65536
   ·rw[if_pos h1]
    by_cases h2:0<len
    ·rw[if_pos ⟨h1.1,h1.2.1,h2,h1.2.2⟩,if_neg (fun q=>by omega)];cases nM (fun i=>some (i*z.length,z.length)) (List.replicate len z).flatten (parts.toList.map fun(i,x)=>(i,aev G env x))with
     |none=>rfl
     |some cells=>simp only[dR,asl,aE,h2,true_and]
    ·rw[if_neg (fun q=>h2 q.2.2.1)];split
     ·rfl
     ·cases nM (fun i=>some (i*z.length,z.length)) (List.replicate len z).flatten (parts.toList.map fun(i,x)=>(i,aev G env x))with
      |none=>rfl
      |some cells=>simp only[dR,asl,aE,h2,false_and,if_false]
   ·rw[if_neg h1,if_neg (fun q=>h1 ⟨q.1,q.2.1,q.2.2.2⟩)];rfl
theorem bMd{T:TypeId}{len:Nat}{parts:Array (Nat×Operand)}{N:DR}:ckV P G N (.buildSlice T len parts) d os K env h=oT P G (some N) (asl (nH (P:=P) [] (fS P T) len (parts.toList.map fun(i,x)=>(i,aev G env x)))) d os K env h:=by
 rw[← tW,← bWe];rfl
theorem bQy{T:TypeId}{x:Operand}:fB P G dr (.load T x) d os K env h=oT P G dr (yK P T h (aev G env x)) d os K env h:=by
 simp only[fB,oX,fO,qP,fV,aop];exact lW
theorem bKc{T:TypeId}{x y:Operand}:fB P G dr (.store T x y) d os K env h=aWi P G dr (tO P h T (aev G env x) (aev G env y)) d os K env:=by
 simp only[fB,oX,fO,qP,fV,aop];cases tO P h T (aev G env x) (aev G env y)<;>rfl
def cBg(h:List AObj):AV→Option AV
 | .ptr id off=>match h[id]? with|some (.box ..)|some (.arr ..)|some (.held false _)=>some (.ptr id off)|_=>Option.none
 | .box cells off=>some (.box cells off)
 | .fn f a b=>some (.fn f a b)
 |_=>Option.none
theorem aNp{x:Operand}:fB P G dr (.nilCheck x) d os K env h=oT P G dr (cBg h (aev G env x)) d os K env h:=by
 simp only[fB,oX,fO,qP,fV,aop,cBg];cases aev G env x with
 |ptr id off=>
  simp only;cases h[id]? with
  |none=>rfl
  |some ob=>cases ob with
   |held m q=>cases m<;>rfl
   |_=>rfl
 |_=>rfl
theorem bYo{op:BinOp}{T U:TypeId}{x:Operand}{t:Nat}:fB P G dr (.binOp op T x (.tmp t) U) d os K env h=oT P G dr (bEy P op T (aev G env x) (aev G env (.tmp t))) d os K env h:=by
 simp only[fB,oX,fO,qP,bPh,fV,aop];exact lW
theorem bKl{op:BinOp}{T U:TypeId}{x:Operand}{k:IntKind}{n:Int}:fB P G dr (.binOp op T x (.const (.int k n)) U) d os K env h=oT P G dr (bEy P op T (aev G env x) (.i k n)) d os K env h:=by
 simp only[fB,oX,fO,qP,bPh,fV,aop];exact lW
theorem bKk{op:BinOp}{T U:TypeId}{x:Operand}{b:ByteArray}:fB P G dr (.binOp op T x (.const (.string b)) U) d os K env h=oT P G dr (bEy P op T (aev G env x) (aev G env (.const (.string b)))) d os K env h:=by
 simp only[fB,oX,fO,qP,bPh,fV,aop];exact lW
def bYw(P:Program)(G:Md)(A:Option TypeDesc)(v:AV)(d:Option Nat)(os:List fZ)(K:List AV→List AObj→Prop)(env:List AV)(h:List AObj):Prop:=
 match A with
 |some (.slice _)=>(match v with
  | .e0=>dM P G none os K (iE env d (.b true)) h∧dM P G none os K (iE env d (.b false)) h
  | .sl _ n=>(n=0→dM P G none os K (iE env d (.b true)) h)∧dM P G none os K (iE env d (.b false)) h
  |_=>False)
 |_=>False
theorem bYj{T U:TypeId}{x:Operand}:fB P G none (.binOp .eql T x (.const (.slice none 0 0)) U) d os K env h=bYw P G (P.underlying T) (aev G env x) d os K env h:=by
 simp only[fB,oX,fO,qP,bPh,bGc,bYw];cases P.underlying T with
 |none=>rfl
 |some t=>cases t<;>first|rfl|(cases aev G env x<;>rfl)
theorem bGb{e:TypeId}{cells:List AV}{n:Nat}(h1:n=0→dM P G none os K (iE env d (.b true)) h)(h2:dM P G none os K (iE env d (.b false)) h):bYw P G (some (.slice e)) (.sl cells n) d os K env h:=⟨h1,h2⟩
theorem cFb{op:UnOp}{T:TypeId}{x:Operand}:fB P G dr (.unOp op T x) d os K env h=oT P G dr (aUn op (aev G env x)) d os K env h:=by
 simp only[fB,oX,fO,qP,fV,aop];exact lW
theorem bRa{S T:TypeId}{x:Operand}:fB P G dr (.convert S T x) d os K env h=oT P G dr (aIu P S T (aev G env x)) d os K env h:=by
 simp only[fB,oX,fO,qP,fV,aop];exact lW
theorem aNr{f:FuncId}{a b:Array Operand}:fB P G dr (.makeFunc (.func f) a b) d os K env h=dM P G dr os K (iE env d (.fn f (a.toList.map (aev G env)) (b.toList.map (aev G env)))) h:=rfl
theorem aRu{T:TypeId}:fB P G none (.makeMap T none) d os K env h=dM P G none os K (iE env d (.mp h.length)) (h++[.map false [] []]):=rfl
theorem aNq{N:DR}{T:TypeId}:fB P G (some N) (.makeMap T none) d os K env h=dM P G (some N) os K (iE env d (.mapv [] [])) h:=rfl
theorem aGr{T:TypeId}{l c:Operand}:fB P G dr (.makeSlice T l c) d os K env h=nG P G dr (mQ P h T (aev G env l) (aev G env c)) d os K env:=by
 simp only[fB,oX,fO,qP,fV,aop];cases mQ P h T (aev G env l) (aev G env c)<;>rfl
theorem bKd{T:TypeId}{x:Operand}{l hi m:Option Operand}:fB P G dr (.slice T x l hi m) d os K env h=oT P G dr (rT P h T (aev G env x) (l.map (aev G env)) (hi.map (aev G env)) (m.map (aev G env))) d os K env h:=by
 simp only[fB,oX,fO,qP,fV,aop];exact lW
def zU(h:List AObj)(q:Option (Nat×Option Nat))(x:AV):Option AV:=
 match q with
 |some (fo,some (_+1))=>match x with
  | .ptr id off=>match h[id]? with|some (.box ..)|some (.arr ..)|some (.held false _)=>some (.ptr id (off+fo))|_=>Option.none
  | .box cells off=>some (.box cells (off+fo))
  |_=>Option.none
 |_=>Option.none
def eP(P:Program)(S:TypeId)(f:Nat):Option (Nat×Option Nat):=(lH P S f).map fun q=>(q.1,kZ P q.2)
theorem aGt{S:TypeId}{x:Operand}{f:Nat}:fB P G dr (.fieldAddr S x f) d os K env h=oT P G dr (zU h (eP P S f) (aev G env x)) d os K env h:=by
 simp only[fB,oX,fO,qP,fV,aop,zU,eP];cases lH P S f with
 |none=>rfl
 |some q=>
  obtain⟨fo,ft⟩:=q;simp only[dR];cases kZ P ft with
  |none=>rfl
  |some n=>
   cases n with
   |zero=>rfl
   |succ n=>
    cases aev G env x with
    |ptr id off=>
     simp only;cases h[id]? with
     |none=>rfl
     |some ob=>cases ob with
      |held m q=>cases m<;>rfl
      |_=>rfl
    |_=>rfl
theorem aGs{T:TypeId}{x i:Operand}:fB P G dr (.indexAddr T x i) d os K env h=oT P G dr (jS P h T (aev G env x) (aev G env i)) d os K env h:=by
 simp only[fB,oX,fO,qP,fV,aop];exact lW
theorem bKh{T:TypeId}{x i:Operand}:fB P G dr (.index T x i) d os K env h=oT P G dr (O6 P T (aev G env x) (aev G env i)) d os K env h:=by
 simp only[fB,oX,fO,qP,fV,aop];exact lW
theorem bAj{T:TypeId}{m k:Operand}{ok:Bool}:fB P G dr (.lookup T m k ok) d os K env h=oT P G dr (oV P h T (aev G env m) (aev G env k) ok) d os K env h:=by
 simp only[fB,oX,fO,qP,fV,aop];exact lW
def bOj(P:Program)(h:List AObj)(T:TypeId)(m k x:AV):Option (List AObj):=
 if pers x then gJ P h T m k x else gJ P (freeze (eL dep h x) h) T m k (iA dep h x)
theorem aGq{T:TypeId}{m k x:Operand}:fB P G dr (.mapUpdate T m k x) d os K env h=aWi P G dr (bOj P h T (aev G env m) (aev G env k) (aev G env x)) d os K env:=by
 simp only[fB,oX,fO,qP,fV,bOj];split
 ·cases gJ P h T (aev G env m) (aev G env k) (aev G env x)<;>rfl
 ·cases gJ P (freeze (eL dep h (aev G env x)) h) T (aev G env m) (aev G env k) (iA dep h (aev G env x))<;>rfl
def cBc:AV→Nat→Option AV
 | .tup vs,i=>vs[i]?
 |_,_=>Option.none
theorem aRv{x:Operand}{i:Nat}:fB P G dr (.extract x i) d os K env h=oT P G dr (cBc (aev G env x) i) d os K env h:=by
 simp only[fB,oX,fO,qP,fV,aop,cBc];cases aev G env x with
 |tup vs=>exact lW
 |_=>rfl
theorem bYl{T:TypeId}{x:Operand}:fB P G dr (.call ⟨.builtin .len,#[x],#[T]⟩) d os K env h=oT P G dr ((aYf P h T (aev G env x)).map fun n=>.i .i64 (Int.ofNat n)) d os K env h:=by
 simp only[fB,oX,fO,qP,fV,mR,iK,aQ,aZ];cases aYf P h T (aev G env x)<;>rfl
def aFq(P:Program)(h:List AObj)(T:TypeId)(s x:AV):Option (AV×List AObj):=
 if sH h x then gZ P h T s x else gZ P (freeze (eL dep h x) h) T s (iA dep h x)
theorem bAl{T:TypeId}{s x:Operand}:fB P G dr (.call ⟨.builtin .append,#[s,x],#[T,T]⟩) d os K env h=nG P G dr (aFq P h T (aev G env s) (aev G env x)) d os K env:=by
 simp only[fB,oX,fO,qP,fV,mR,aQ,aZ,if_true,aFq];split
 ·cases gZ P h T (aev G env s) (aev G env x)<;>rfl
 ·cases gZ P (freeze (eL dep h (aev G env x)) h) T (aev G env s) (iA dep h (aev G env x))<;>rfl
def aJd(P:Program)(G:Md)(dr:Option DR)(A:Option TypeDesc)(q:Option (AV×List AObj))(d:Option Nat)(os:List fZ)(K:List AV→List AObj→Prop)(env:List AV):Prop:=
 match A with
 |some (.int _)=>nG P G dr q d os K env
 |_=>False
theorem aPr{k:IntKind}{q:Option (AV×List AObj)}:aJd P G dr (some (.int k)) q d os K env=nG P G dr q d os K env:=rfl
theorem I8{T U:TypeId}(hTU:T≠U){s x:Operand}:fB P G dr (.call ⟨.builtin .append,#[s,x],#[T,U]⟩) d os K env h=aJd P G dr (P.underlying U) (rS P h T (aev G env s) (aev G env x)) d os K env:=by
 simp only[fB,oX,fO,qP,fV,mR,aQ,aZ,if_neg hTU];generalize rS P h T (aev G env s) (aev G env x)=q;cases P.underlying U with
 |none=>rfl
 |some t=>cases t<;>first|rfl|(cases q<;>rfl)
def bWp(P:Program)(h:List AObj)(T:Option TypeDesc)(id off n:Nat)(x:AV):Option (AV×List AObj):=
 match T with
 |some (.slice el)=>match kZ P el,h[id]? with
  |some sz,some (.arr false s cells)=>match N8 h sz x with
   |some (win,m)=>if s=sz∧off+n*sz≤cells.length then some (.i .i64 (min m n:Nat),h.set id (.arr false s (jZ cells off (win.take (min m n*sz)))))else Option.none
   |Option.none=>Option.none
  |_,_=>Option.none
 |_=>Option.none
theorem bNw{T U:TypeId}{h:List AObj}{id off n:Nat}{t:Bool}{x:AV}:iK P h .copy #[T,U] [.hs id off n t,x]=bWp P h (P.underlying T) id off n x:=rfl
theorem bQz{T U:TypeId}{x y:Operand}:fB P G dr (.call ⟨.builtin .copy,#[x,y],#[T,U]⟩) d os K env h=nG P G dr (iK P h .copy #[T,U] [aev G env x,aev G env y]) d os K env:=by
 simp only[fB,oX,fO,qP,fV,mR,aQ,aZ];cases iK P h .copy #[T,U] [aev G env x,aev G env y]<;>rfl
theorem bYe{k:IntKind}{a:Int}:aPe .shr k a 1=some (.i k (a / 2)):=by simp[aPe]
theorem bYm{T:TypeId}{x:Operand}:fB P G dr (.call ⟨.builtin .cap,#[x],#[T]⟩) d os K env h=nG P G dr (iK P h .cap #[T] [aev G env x]) d os K env:=by
 simp only[fB,oX,fO,qP,fV,mR,aQ,aZ];cases iK P h .cap #[T] [aev G env x]<;>rfl
theorem bYk{T U:TypeId}{x y:Operand}:fB P G dr (.call ⟨.builtin .max,#[x,y],#[T,U]⟩) d os K env h=nG P G dr (iK P h .max #[T,U] [aev G env x,aev G env y]) d os K env:=by
 simp only[fB,oX,fO,qP,fV,mR,aQ,aZ];cases iK P h .max #[T,U] [aev G env x,aev G env y]<;>rfl
theorem bRv{t:Array TypeId}{h:List AObj}{k:IntKind}{x y:Int}:iK P h .max t [.i k x,.i k y]=some (.i k (if y>x then y else x),h):=by simp[iK]
theorem bIa{T e:TypeId}{h:List AObj}(hT:P.underlying T=some (.slice e)):iK P h .cap #[T] [.e0]=some (.i .i64 0,h):=by simp[iK,hT]
theorem bEr{T:TypeId}{x:AV}{h:List AObj}:aFq P h T .e0 x=if sH h x then gZ P h T .e0 x else gZ P (freeze (eL dep h x) h) T .e0 (iA dep h x):=rfl
theorem bEq{T:TypeId}{x:AV}{h:List AObj}{id o n:Nat}{t:Bool}:aFq P h T (.hs id o n t) x=if sH h x then gZ P h T (.hs id o n t) x else gZ P (freeze (eL dep h x) h) T (.hs id o n t) (iA dep h x):=rfl
theorem bRb{fx:Operand}{args:Array Operand}{tys:Array TypeId}:fB P G dr (.call ⟨.value fx,args,tys⟩) d os K env h=bOf P G dr (aev G env fx) (args.toList.map (aev G env)) d os K env h:=by
 simp only[fB,oX,fO,qP,fV,mR,bOf];cases aev G env fx<;>rfl
def aRt(P:Program)(G:Md)(T:Option TypeDesc)(x:AV)(h1:List AObj)(d:Option Nat)(os:List fZ)(K:List AV→List AObj→Prop)(env:List AV):Prop:=
 match T,x with
 |some (.map _ _),.mapv ks vs=>dM P G none os K (iE env d (.ptr h1.length 0)) (h1++[.mit none ks vs])
 |some .string,.s l=>dM P G none os K (iE env d (.ptr h1.length 0)) (h1++[.sit l 0])
 |_,_=>False
theorem bKe{T:TypeId}{x:Operand}:fB P G none (.range T x) d os K env h=aRt P G (P.underlying T) (iA dep h (aev G env x)) (freeze (eL dep h (aev G env x)) h) d os K env:=by
 simp only[fB,oX,fO,qP,fV,F6,aI,if_false,aRt];cases P.underlying T with
 |none=>rfl
 |some t=>cases t<;>first|rfl|(cases iA dep h (aev G env x)<;>rfl)
def cFs(P:Program)(G:Md)(x:AV)(d:Option Nat)(os:List fZ)(K:List AV→List AObj→Prop)(env:List AV)(h:List AObj):Prop:=
 match x with
 | .ptr id 0=>match h[id]? with
   |some (.mit _ ks vs)=>(ks=[]→dM P G none os K (iE env d (.tup [.b false])) h)∧∀(j:Nat) (k v:AV),ks[j]? = some k→vs[j]? = some v→dM P G none os K (iE env d (.tup [.b true,k,v])) (h.set id (.mit (some (k,v)) (ks.eraseIdx j) (vs.eraseIdx j)))
   |_=>False
 |_=>False
theorem aRq{l:List UInt8}{h1:List AObj}:aRt P G (some .string) (.s l) h1 d os K env=dM P G none os K (iE env d (.ptr h1.length 0)) (h1++[.sit l 0]):=rfl
def aKg(P:Program)(G:Md)(x:AV)(d:Option Nat)(os:List fZ)(K:List AV→List AObj→Prop)(env:List AV)(h:List AObj):Prop:=
 match x with
 | .ptr id 0=>match h[id]? with
   |some (.sit l pos)=>(l.length≤pos→dM P G none os K (iE env d (.tup [.b false])) h)∧∀(c:UInt8),l[pos]? = some c→(c.toNat<128→dM P G none os K (iE env d (.tup [.b true,.i .i64 pos,.i .i32 c.toNat])) (h.set id (.sit l (pos+1)))) ∧
    ∀(rn k:Nat),128≤c.toNat→128≤rn→rn≤2147483647→1≤k→dM P G none os K (iE env d (.tup [.b true,.i .i64 pos,.i .i32 rn])) (h.set id (.sit l (pos+k)))
   |_=>False
 |_=>False
theorem bKg{x:Operand}:fB P G none (.next x true) d os K env h=aKg P G (aev G env x) d os K env h:=by
 simp only[fB,oX,fO,qP,fV,F6,aI,if_false,aKg];cases aev G env x with
 |ptr id o=>cases o with
  |zero=>simp only;cases h[id]? with
   |none=>rfl
   |some ob=>cases ob<;>rfl
  |succ o=>rfl
 |_=>rfl
theorem aHh{id:Nat}{l:List UInt8}{pos:Nat}(hid:h[id]? = some (.sit l pos))(h0:l.length≤pos→dM P G none os K (iE env d (.tup [.b false])) h)
 (h1:∀(c:UInt8),l[pos]? = some c→c.toNat<128→dM P G none os K (iE env d (.tup [.b true,.i .i64 pos,.i .i32 c.toNat])) (h.set id (.sit l (pos+1))))
 (h2:∀(c:UInt8) (rn k:Nat),l[pos]? = some c→128≤c.toNat→128≤rn→rn≤2147483647→1≤k→dM P G none os K (iE env d (.tup [.b true,.i .i64 pos,.i .i32 rn])) (h.set id (.sit l (pos+k)))):aKg P G (.ptr id 0) d os K env h:=by
 unfold aKg;simp only[hid];exact⟨h0,fun c hc=>⟨h1 c hc,fun rn k=>h2 c rn k hc⟩⟩
theorem cGp{f:FuncId}{a b args:List AV}:bOf P G dr (.fn f a b) args d os K env h=zN P G dr f (a++args++b) d os K env h:=rfl
theorem aWr{f:FuncId}{A:List AV}{r:AV}(s:Ctr P G f (A.map (iA dep h)) r)(k:dM P G dr os K (iE env d (mat r (gM r h A)).1) (mat r (gM r h A)).2):zN P G dr f A d os K env h:=by
 cases dr
 ·exact .inl (ACalls.sem s k)
 ·exact⟨r,s,k⟩
def bJp(h:List AObj):AV→AV
 | .e0=>.e0
 |a=>iA dep h a
theorem bIb{f:FuncId}{A A':List AV}{r:AV}(s:Ctr P G f A' r)(hA:A.map (bJp h)=A')(k:dM P G none os K (iE env d (mat r (gM r h A)).1) (mat r (gM r h A)).2):zN P G none f A d os K env h:=by
 subst hA;refine .inl (ACalls.sem0 s (by simp) (fun j a a' h1 h2=>?_) k);rw[fC,h1]at h2;simp only[dR,aF]at h2;subst h2;cases a<;>first|exact .inr ⟨rfl,rfl⟩|exact .inl rfl
def bYu(G:Md)(x:AV)(env:List AV)(h:List AObj):Prop:=match x with
 | .p (.iface T v)=>G.pan (.iface T v) env h
 |_=>False
theorem bYt{T:TypeId}{v:Value}:bYu G (.p (.iface T v)) env h=G.pan (.iface T v) env h:=rfl
theorem bKf{x:Operand}:fB P G none (.panic x) d os K env h=bYu G (aev G env x) env h:=by
 simp only[fB,oX,fO,qP,fV,bYu];cases aev G.g env x<;>first|rfl|(rename_i v;cases v<;>rfl)
def aYj(P:Program)(T:TypeId)(x:AV):Option AV:=match P.underlying T with
 |Option.none|some (.interface _)=>Option.none
 |some _=>(toV x).map fun v=>.p (.iface T v)
theorem bKi{T:TypeId}{x:Operand}:fB P G dr (.makeInterface T x) d os K env h=oT P G dr (aYj P T (aev G env x)) d os K env h:=by
 simp only[fB,oX,fO,qP,fV,aop,aYj];cases P.underlying T with
 |none=>rfl
 |some t=>cases t<;>cases toV (aev G env x)<;>rfl
theorem bQa{v:AV}:oT P G dr (some v) d os K env h=dM P G dr os K (iE env d v) h:=rfl
theorem bXy{c:Prop}[Decidable c]{v:AV}:oT P G dr (if c then some v else Option.none) d os K env h=(c∧dM P G dr os K (iE env d v) h):=by
 by_cases hc:c<;>simp[hc,oT]
theorem bSg{h':List AObj}:aWi P G dr (some h') d os K env=dM P G dr os K (iE env d .u) h':=rfl
theorem bZj{c:Prop}[Decidable c]{h':List AObj}:aWi P G dr (if c then some h' else Option.none) d os K env=(c∧dM P G dr os K (iE env d .u) h'):=by
 by_cases hc:c<;>simp[hc,aWi]
theorem bIy{v:AV}{h':List AObj}:nG P G dr (some (v,h')) d os K env=dM P G dr os K (iE env d v) h':=rfl
theorem bPz{c:Prop}[Decidable c]{v:AV}{h':List AObj}:nG P G dr (if c then some (v,h')else Option.none) d os K env=(c∧dM P G dr os K (iE env d v) h'):=by
 by_cases hc:c<;>simp[hc,nG]
theorem bAn{n:Nat}{x:AV}:iE env (some n) x=env.set n x:=rfl
theorem bAo{x:AV}:iE env Option.none x=env:=rfl
theorem bSo{G:Glob}{t:Nat}:aev G env (.tmp t)=env.getD t .u:=rfl
theorem bCy{G:Glob}{v:Value}:aev G env (.const v)=aXf v:=rfl
theorem bNa{G:Glob}{f:FuncId}:aev G env (.func f)=.fn f [] []:=rfl
end
attribute [go_sem] bCw bSl bSm bMs bMt
attribute [go_sem ↓] bPq aZe bPs bIq bIr bXq bPu bIs bXs aHc bBc aSw bRl bQx bAk bQw bKm bYn bKj X7 bQy bKc aNp bYo bKl bKk bYj cFb bRa aNr aRu aNq aGr bKd aGt aGs bKh bAj aGq aRv bYl bAl I8 bYm bYk bRb bKe bKg bKf bKi bQz
attribute [go_sem] Int.toNat_one aPr bPr bXr aGe aQe aZg aFe aWz aOt bVp bVq bCm bCq bCn bCp bCo cGp bWc bQa bXy bSg bZj bIy bPz bAn bAo bSo bCy bNa
attribute [go_sem ↓] bMd aUi
attribute [go_sem ↓] bYe
attribute [go_sem] bNw bWp bEj aYa aXz bEn bRv bYt toV bPd bFg aYj dR
attribute [go_sem] cGm cGn cGl cAv aXf aOw aYf jS O6 yK aMh apart tO jZ kO AV.one bEy aPe bXi bEw aEq lA aUn aIu rT N8 sH oV qQ bOj gJ bEr bEq rS gZ mQ aRq bWi zU cBc cBg aYl nH jH nM
attribute [go_sem] kX mZ dF gO aQ aZ dR Int.ofNat_eq_natCast Int.toNat_natCast aYn uY eF Nat.add_zero cD cG bF bZ aE aC List.append_nil aO bS aV bK
attribute [go_sem] eL pers persL flat flatL mat matL gM O1 E1 aFg
inductive bEz where
 |k
 |j
 |v (x:AV)
def xJ(F:Nat→AV):Nat→List bEz→List AV→List AV
 |i,.k::ps,v::vs=>v::xJ F (i+1) ps vs
 |i,.j::ps,_::vs=>F i::xJ F (i+1) ps vs
 |i,.v x::ps,_::vs=>x::xJ F (i+1) ps vs
 |_,_,_=>[]
def iS:List bEz→List AV→List AV→Prop
 | .k::ps,v::vs,w::ws=>w=v∧iS ps vs ws
 | .j::ps,_::vs,_::ws=>iS ps vs ws
 | .v x::ps,_::vs,w::ws=>w=x∧iS ps vs ws
 | [],[],[]=>True
 |_,_,_=>False
theorem aTm:∀(ps:List bEz) (E e:List AV) (i:Nat) (F:Nat→AV),(∀m v,e[m]? = some v→F (i+m)=v)→iS ps E e→xJ F i ps E=e:=by
 intro ps;induction ps with
 |nil=>intro E e i F _ h;cases E<;>cases e<;>simp[iS]at h;simp[xJ]
 |cons p ps ih=>
  intro E e i F hF h;cases E with
  |nil=>cases e<;>cases p<;>simp[iS]at h
  |cons v vs=>
   cases e with
   |nil=>cases p<;>simp[iS]at h
   |cons w ws=>
    have hF':∀m v,ws[m]? = some v→F (i+1+m)=v:=fun m u hm=>by have:=hF (m+1) u (by simpa using hm);rw[← this];congr 1;omega
    cases p with
    |k=>obtain⟨h1,h2⟩:=h;simp only[xJ];rw[ih vs ws _ F hF' h2,h1]
    |j=>simp only[xJ];rw[ih vs ws _ F hF' h];have:=hF 0 w rfl;simpa using this
    |v x=>obtain⟨h1,h2⟩:=h;simp only[xJ];rw[ih vs ws _ F hF' h2,h1]
section
variable {P:Program} {G:Md} {env:List AV} {h:List AObj} {Q:Exit→List AV→List AObj→Prop}
theorem dV{c:kQ}{S:Type}(ps:S→List bEz)(hp:S→List AObj)(I:S→Prop)(μ:S→Nat)(s0:S)(h0:I s0)(hh:h=hp s0)(k0:iS (ps s0) env env)
 (round:∀(s:S) (j:Nat→AV),I s→awx P G c (yP (fun e' h'=>∃s',I s'∧μ s'<μ s∧h'=hp s'∧iS (ps s') env e') Q) (xJ j 0 (ps s) env) (hp s)):awx P G (.loop c) Q env h:=by
 refine bIp (fun s e h'=>I s∧h'=hp s∧iS (ps s) env e) μ s0 ⟨h0,hh,k0⟩ ?_;rintro s e h' ⟨hI,rfl,hf⟩;have he:xJ (fun n=>e.getD n .u) 0 (ps s) env=e:=aTm _ env e 0 _ (fun m v hv=>by simp[List.getD,hv]) hf;have r:=round s (fun n=>e.getD n .u) hI;rw[he]at r;have mono:(fun e2 h2=>∃s',I s'∧μ s'<μ s∧h2=hp s'∧iS (ps s') env e2)=fun e2 h2=>∃s',(I s'∧h2=hp s'∧iS (ps s') env e2)∧μ s'<μ s:=by
  funext e2 h2;exact propext ⟨fun⟨s',a,b,c,d⟩=>⟨s',⟨a,c,d⟩,b⟩,fun⟨s',⟨a,c,d⟩,b⟩=>⟨s',a,b,c,d⟩⟩
 rw[mono]at r;exact r
end
section
variable {P:Program} {G:Md} {env:List AV} {h:List AObj} {Q:Exit→List AV→List AObj→Prop}
theorem lJ{c:kQ}{S:Type}(ps:S→List bEz)(hp:S→List AObj)(I:S→Prop)(μ:S→Nat)(s0:S)(g0:List AObj)(h0:I s0)(hh:h=hp s0++g0)(k0:iS (ps s0) env env)
 (round:∀(s:S) (g:List AObj) (j:Nat→AV),I s→awx P G c (yP (fun e' h'=>∃s' g',I s'∧μ s'<μ s∧h'=hp s'++g'∧iS (ps s') env e') Q) (xJ j 0 (ps s) env) (hp s++g)):awx P G (.loop c) Q env h:=by
 refine dV (S:=S×List AObj) (fun s=>ps s.1) (fun s=>hp s.1++s.2) (fun s=>I s.1) (fun s=>μ s.1) (s0,g0) h0 hh k0 ?_;rintro⟨s,g⟩ j hI;have r:=round s g j hI;have mono:(fun(e2:List AV) (h2:List AObj)=>∃s' g',I s'∧μ s'<μ s∧h2=hp s'++g'∧iS (ps s') env e2)=fun e2 h2=>∃s':S×List AObj,I s'.1∧μ s'.1<μ s∧h2=hp s'.1++s'.2∧iS (ps s'.1) env e2:=by
  funext e2 h2;exact propext ⟨fun⟨s',g',a,b,c,d⟩=>⟨(s',g'),a,b,c,d⟩,fun⟨s',a,b,c,d⟩=>⟨s'.1,s'.2,a,b,c,d⟩⟩
 rw[mono]at r;exact r
end
section
variable {α:Type} {f:α→List AV} {m:Nat}
theorem nZ(hf:∀x,(f x).length=m):∀(l:List α),(l.flatMap f).length=l.length*m
 | []=>by simp
 |x::l=>by rw[List.flatMap_cons,List.length_append,hf,nZ hf l,bF,aIw,pS]
theorem flat_drop(hf:∀x,(f x).length=m):∀(l:List α) (k:Nat),(l.flatMap f).drop (k*m)=(l.drop k).flatMap f
 |l,0=>by simp
 | [],k+1=>by simp
 |x::l,k+1=>by
  rw[List.flatMap_cons,aIw,pS,← mI,List.drop_left' (hf x),flat_drop hf l k,aV]
theorem flat_take(hf:∀x,(f x).length=m):∀(l:List α) (k:Nat),(l.flatMap f).take (k*m)=(l.take k).flatMap f
 |l,0=>by simp
 | [],k+1=>by simp
 |x::l,k+1=>by
  rw[List.flatMap_cons,aIw,pS,List.take_append,hf,Nat.add_sub_cancel_left,flat_take hf l k,aO,List.flatMap_cons,bB (by rw[hf];omega)]
theorem uL(hf:∀x,(f x).length=m)(l:List α)(k:Nat):((l.flatMap f).drop (k*m)).take m=((l[k]?).map f).getD []:=by
 rw[flat_drop hf];have:(l.drop k).flatMap f=((l[k]?).map f).getD []++(l.drop (k+1)).flatMap f:=by
  cases hk:l[k]? with
  |none=>
   have hle:=P0.1 hk;rw[dQ hle,dQ (by omega)];simp
  |some x=>
   obtain⟨hlt,hx⟩:=gH.1 hk;rw[eV hlt,List.flatMap_cons,hx];simp
 rw[this];cases hk:l[k]? with
 |none=>
  have hle:=P0.1 hk;rw[dQ (by omega)];simp
 |some x=>simp[List.take_left' (hf x)]
theorem aAa(hf:∀x,(f x).length=m)(l:List α)(k:Nat){j:Nat}(hj:j<m):(l.flatMap f)[k*m+j]? = (l[k]?).bind fun x=>(f x)[j]? := by
 have h1:(l.flatMap f)[k*m+j]? = ((((l.flatMap f).drop (k*m)).take m))[j]? := by
  rw[List.getElem?_take_of_lt hj,eI]
 rw[h1,uL hf];cases hk:l[k]? with
 |none=>simp
 |some x=>simp
end
end Go.Vo
namespace Go.Vo
section
variable {P:Program} {G:Md} {dr:Option DR} {d:Option Nat} {os:List fZ} {K:List AV→List AObj→Prop} {env:List AV} {h:List AObj} {Q:Exit→List AV→List AObj→Prop}
theorem bGo{op:Op}{x:Bool}(h1:x=true→fB P G dr op d os K env h)(h2:x=false→dM P G dr os K (iE env d (.tup [])) h):nE P G dr (.b x) true op d os K env h:=L5 h1 h2
theorem aUm{op:Op}{x:Bool}(h1:x=false→fB P G dr op d os K env h)(h2:x=true→dM P G dr os K (iE env d (.tup [])) h):nE P G dr (.b x) false op d os K env h:=L5 h1 h2
end
theorem bR{h:List AObj}{x r:AV}(hr:r=x)(hp:pers x=true):Fin h x r:=.inl ⟨hr,hp⟩
attribute [go_sem] true_and and_true if_true if_false aI aF exists_eq_left' reduceCtorEq or_true false_or true_or or_false
attribute [go_sem] xJ iS
theorem wrap64{x:Int}(h1 : -9223372036854775808≤x)(h2:x≤9223372036854775807):IntKind.i64.wrap x=x:=IntWalk.i64_in _ (by omega)
theorem bJk{s:List UInt8}:decide (s=[])=decide (s.length=0):=by cases s<;>simp
attribute [go_sem] wrap64 bJk Int.toNat_zero aA aB
theorem aXx{d:Nat}:yJ Option.none d=some d:=rfl
theorem bEm{k:IntKind}{n:Int}{d:Nat}(h:0≤n):yJ (some (.i k n)) d=some n.toNat:=if_pos h
theorem aMw{m:Nat}:((m:Int)-2).toNat=m-2:=by omega
theorem aMx{m:Nat}:((m:Int)+1).toNat=m+1:=by omega
theorem aGd{m:Nat}(h:2≤m):((m:Int)-2+1).toNat=m-1:=by omega
attribute [go_sem] aXx bEm aMw aMx aGd Option.map_none F6 Option.isSome_some aY aW aS aT aR bA
theorem aTn{l:List (List UInt8)}{k:Nat}(h:k<l.length):(l.map AV.s)[k]? = some (.s (l.getD k [])):=by simp[h]
theorem aDm{q:IntKind}{l:List Int}{k:Nat}(h:k<l.length):(l.map (AV.i q))[k]? = some (.i q (l.getD k 0)):=by simp[h]
attribute [go_sem] aTn aDm
theorem aVa{h:List AObj}{id sz n m:Nat}{cells cs:List AV}(hid:h[id]? = some (.arr false sz cs))(hm:m=n)(hc:cells=cs)(hl:cs.length=n*sz)(hp:persL cs=true):Fin h (.hs id 0 n false) (.own sz cells m):=by
 subst hm hc;refine .inr ⟨⟨rfl,rfl,cells,hid,by omega,?_,hp⟩,by simp[dN],by simp[dN,kC]⟩;rw[bK,bB (by omega)]
theorem aZl{α:Type}{l:List α}{n:Nat}(h:l.length≤n):l.take n=l:=bB h
attribute [go_sem] eD
def rV(h:List AObj)(a:AV):AV:=
 let L:=fun l=>if persL l then l else l.map (iA 8 h)
 match a with
 | .e0=>.sl [] 0
 | .hs id off n _=>match h[id]? with
   |some (.arr _ sz cells)=>if off+n*sz≤cells.length then .sl (L ((cells.drop off).take (n*sz))) n else .u
   |_=>.u
 | .ptr id off=>match h[id]? with
   |some (.box _ cells)=>.box (L cells) off
   |some (.arr _ _ cells)=>.box (L cells) off
   |_=>.u
 | .mp id=>match h[id]? with
   |some (.map _ ks vs)=>.mapv (L ks) (L vs)
   |_=>.u
 | .fn f a b=>.fn f (L a) (L b)
 | .agg cs=>.agg (L cs)
 | .tup vs=>.tup (L vs)
 |_=>.u
theorem gN{h:List AObj}{a:AV}:iA dep h a=if pers a then a else rV h a:=rfl
theorem lU{l:List (List UInt8)}:persL (l.map AV.s)=true:=by
 induction l with
 |nil=>rfl
 |cons x l ih=>simp[persL,pers,ih]
theorem sR{k:IntKind}{l:List Int}:persL (l.map (AV.i k))=true:=by
 induction l with
 |nil=>rfl
 |cons x l ih=>simp[persL,pers,ih]
theorem bJ{P:Program}{G:Md}{dr:Option DR}{d:Option Nat}{os:List fZ}{K:List AV→List AObj→Prop}{env:List AV}{h:List AObj}{f:FuncId}{A A':List AV}{r:AV}(s:Ctr P G f A' r)(hA:A.map (iA dep h)=A')
 (k:dM P G dr os K (iE env d (mat r (gM r h A)).1) (mat r (gM r h A)).2):zN P G dr f A d os K env h:=aWr (hA▸s) k
theorem aZk{α β:Type}{f:α→β}{l:List α}{k:Nat}:(l.map f).take k=(l.take k).map f:=List.map_take.symm
theorem bDc{α β:Type}{f:α→β}{l:List α}{k:Nat}:(l.map f).drop k=(l.drop k).map f:=List.map_drop.symm
attribute [go_sem] gN rV lU sR aZk bDc dS aIx
attribute [go_sem] aZl
theorem bMl{l:List (List UInt8)}:flatL (l.map AV.s)=true:=by
 induction l with
 |nil=>rfl
 |cons x l ih=>simp[flatL,flat,ih]
attribute [go_sem] bV bMl fH List.flatMap_nil List.flatMap_cons freeze AObj.fz
section
variable {P:Program} {G:Glob} {N:DR} {env:List AV}
theorem aWo{T:TypeId}{x:Operand}:aFb G N (.load T x) env=mH N (aev G env x):=by simp[aFb,Op.operands,vG]
theorem C1{T:TypeId}{x:Operand}{f:Nat}:aFb G N (.fieldAddr T x f) env=mH N (aev G env x):=by simp[aFb,Op.operands,vG]
theorem aEz{T:TypeId}{x i:Operand}:aFb G N (.indexAddr T x i) env=(mH N (aev G env x)∧mH N (aev G env i)):=by simp[aFb,Op.operands,vG]
theorem bVt{T:TypeId}{x:Operand}:aFb G N (.call ⟨.builtin .len,#[x],#[T]⟩) env=mH N (aev G env x):=by simp[aFb,Op.operands,Call.operands,vG]
theorem aFa{T:TypeId}{s x:Operand}:aFb G N (.call ⟨.builtin .append,#[s,x],#[T,T]⟩) env=sT N (aev G env s):=by simp[aFb]
variable {P:Program} {d:Option Nat} {os:List fZ} {K:List AV→List AObj→Prop} {h:List AObj}
theorem bSc{T:TypeId}{x:Operand}:ckV P G N (.load T x) d os K env h=(mH N (aev G env x)∧fB P G (some N) (.load T x) d os K env h):=by rw[← aWo (T:=T)];rfl
theorem bMc{T:TypeId}{a x:Operand}:ckV P G N (.store T a x) d os K env h=(sT N (aev G env a)∧fB P G (some N) (.store T a x) d os K env h):=rfl
theorem aHt{T:TypeId}{x:Operand}{f:Nat}:ckV P G N (.fieldAddr T x f) d os K env h=(mH N (aev G env x)∧fB P G (some N) (.fieldAddr T x f) d os K env h):=by rw[← C1 (T:=T) (f:=f)];rfl
theorem bCf{T:TypeId}{s x:Operand}:ckV P G N (.call ⟨.builtin .append,#[s,x],#[T,T]⟩) d os K env h=(sT N (aev G env s)∧fB P G (some N) (.call ⟨.builtin .append,#[s,x],#[T,T]⟩) d os K env h):=by rw[← aFa (T:=T) (x:=x)];rfl
theorem bLd{n id:Nat}:DR.old ⟨n,[]⟩ id=(id<n):=rfl
theorem bLc{n x id:Nat}:DR.old ⟨n,[x]⟩ id=(id<n∧¬id=x):=by simp[DR.old]
theorem bLs{n id:Nat}:DR.mut ⟨n,[]⟩ id=(n≤id):=rfl
theorem bLr{n x id:Nat}:DR.mut ⟨n,[x]⟩ id=(n≤id∨id=x):=by simp[DR.mut]
end
theorem bMi{α:Type}{l m:List α}{n:Nat}:(l++m)[l.length+n]? = m[n]? := by rw[aX (by omega)];congr 1;omega
theorem bCt{α:Type}{l m:List α}:(l++m)[l.length]? = m[0]? := by rw[aX (by omega)];congr 1;omega
theorem bJs{α:Type}{l m:List α}{n:Nat}{a:α}:(l++m).set (l.length+n) a=l++m.set n a:=by rw[uZ _ _ (by omega)];congr 2;omega
theorem aZv{α:Type}{l m:List α}{a:α}:(l++m).set l.length a=l++m.set 0 a:=by rw[uZ _ _ (by omega)];congr 2;omega
attribute [go_sem] bMi bCt bJs aZv cM List.length_append
attribute [go_sem ↓] bSc bMc aHt bCf
attribute [go_sem] mH sT AV.refs bLd bLc bLs bLr
def jU(sz N:Nat)(g:List AObj)(out:AV)(cells:List AV)(n:Nat):Prop:=
 (out=.e0∧cells=[]∧n=0)∨∃i,out=.hs (i+N) 0 n false∧g[i]? = some (.arr false sz cells)∧cells.length=n*sz
theorem jN{sz N:Nat}{g:List AObj}:jU sz N g .e0 [] 0:=.inl ⟨rfl,rfl,rfl⟩
theorem jU.more{sz N:Nat}{g:List AObj}{out:AV}{cells:List AV}{n:Nat}(h:jU sz N g out cells n)(g':List AObj):jU sz N (g++g') out cells n:=by
 rcases h with h|⟨i,h1,h2,h3⟩
 ·exact .inl h
 ·exact .inr ⟨i,h1,by rw[aN (bW h2)];exact h2,h3⟩
section
variable {P:Program} {G:Md} {dr:Option DR} {d:Option Nat} {os:List fZ} {K:List AV→List AObj→Prop} {env:List AV}
theorem aXq{pre g:List AObj}{T e by_:Nat}{z:List AV}{out x:AV}{cells news:List AV}{n m:Nat}(ho:jU z.length pre.length g out cells n)(hT:fS P T=some e)(hz:zeroOf P e=some z)(hs:kZ P e=some z.length)(hb:aBp P e=some by_)
 (hpos:0<z.length) (hp:sH (pre++g) x=true) (hx:N8 (pre++g) z.length x=some (news,m)) (hbd:(n+m)*by_≤140737488355328∧n+m≤140737488355328)
 (k:∀out' g',jU z.length pre.length g' out' (cells++news) (n+m)→(∀(i:Nat) (o:AObj),g[i]? = some o→(∀c:List AV,o ≠ .arr false z.length c)→g'[i]? = some o)→dM P G dr os K (iE env d out') (pre++g')):nG P G dr (aFq P (pre++g) T out x) d os K env:=by
 have hm : news.length=m*z.length:=by
  cases x with
  |e0=>simp only[N8,aF,bL]at hx;obtain⟨rfl,rfl⟩:=hx;simp
  |sl c q=>
   simp only[N8]at hx;split at hx
   ·simp only[aF,bL]at hx;obtain⟨rfl,rfl⟩:=hx;assumption
   ·cases hx
  |hs id off q t=>
   simp only[N8]at hx;split at hx
   ·split at hx
    ·rename_i hc;simp only[aF,bL]at hx;obtain⟨rfl,rfl⟩:=hx;rw[cN,dS];omega
    ·cases hx
   ·cases hx
  |_=>simp[N8]at hx
 have e1:aFq P (pre++g) T out x=gZ P (pre++g) T out x:=by simp[aFq,hp]
 rw[e1];rcases ho with⟨rfl,rfl,rfl⟩|⟨i,rfl,hi,hl⟩
 ·have e2:gZ P (pre++g) T .e0 x=some (.hs (pre++g).length 0 m false,(pre++g)++[.arr false z.length news]):=by
   simp only[gZ,hT,hz,hb,hpos,hs,hx,and_self,if_true,true_and];rw[if_pos (by simpa using hbd)]
  rw[e2];show dM P G dr os K _ _;rw[cM];refine k _ _ (.inr ⟨g.length,?_,by simp,by simpa using hm⟩) (fun i o ho _=>by rw[aN (bW ho)];exact ho);simp[pS]
 ·have hlt:=bW hi;have hg:(pre++g)[i+pre.length]? = some (.arr false z.length cells):=by
   rw[aX (by omega)];simpa using hi
  have e2:gZ P (pre++g) T (.hs (i+pre.length) 0 n false) x=some (.hs (pre++g).length 0 (n+m) false,(pre++g).set (i+pre.length) .dead++[.arr false z.length (cells++news)]):=by
   simp only[gZ,hT,hz,hb,hpos,hs,hx,hg,and_self,if_true,true_and,hl,eF,bV,hbd,aI,if_false,bK]
  rw[e2];show dM P G dr os K _ _;rw[uZ _ _ (by omega),cM,Nat.add_sub_cancel];refine k _ _ (.inr ⟨g.length,?_,by simp,?_⟩) (fun j o hj hn=>?_)
  ·simp[pS]
  ·rw[List.length_append,hl,hm,Nat.add_mul]
  ·have hne:i≠j:=by
    rintro rfl;rw[hi]at hj;cases hj;exact hn _ rfl
   rw[aN (by simpa using bW hj),eA hne];exact hj
theorem fN{h pre g more:List AObj}{T e by_ sz N:Nat}{z:List AV}{out x:AV}{cells news:List AV}{n m:Nat}(ho:jU sz N g out cells n)(hN:pre.length=N)(hh:h=pre++(g++more))(hT:fS P T=some e)(hz:zeroOf P e=some z)(hs:kZ P e=some sz)(hb:aBp P e=some by_)
 (hzl:z.length=sz) (hpos:0<sz) (hp:sH h x=true) (hx:N8 h sz x=some (news,m)) (hbd:(n+m)*by_≤140737488355328∧n+m≤140737488355328)
 (k:∀out' g',jU sz N g' out' (cells++news) (n+m)→(∀(i:Nat) (o:AObj),g[i]? = some o→(∀c:List AV,o ≠ .arr false sz c)→g'[i]? = some o)→dM P G dr os K (iE env d out') (pre++g')):nG P G dr (aFq P h T out x) d os K env:=by
 subst hh hzl hN;exact aXq (ho.more more) hT hz hs hb hpos hp hx hbd (fun out' g' h1 h2=>k out' g' h1 (fun i o hi hn=>h2 i o (by rw[aN (bW hi)];exact hi) hn))
end
theorem aAb{pre g:List AObj}{sz n:Nat}{out:AV}{cells:List AV}(ho:jU sz pre.length g out cells n)(hp:persL cells=true):Fin (pre++g) out (.own sz cells n):=by
 rcases ho with⟨rfl,rfl,rfl⟩|⟨i,rfl,hi,hl⟩
 ·exact .inr ⟨⟨rfl,rfl⟩,by simp[dN],by simp[dN]⟩
 ·exact aVa (by rw[aX (by omega)];simpa using hi) rfl rfl hl hp
end Go.Vo

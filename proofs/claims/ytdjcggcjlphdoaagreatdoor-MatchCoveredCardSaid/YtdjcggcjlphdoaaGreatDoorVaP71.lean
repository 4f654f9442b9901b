/-
  Functions of the chapter, as plain functions of what they are given; no condition.
-/
import Derived.Test.YtdjcggcjlphdoaaGreatDoorTeP73
import Derived.Test.YtdjcggcjlphdoaaGreatDoorTeP72
set_option maxRecDepth 100000
set_option linter.unusedSimpArgs false
set_option linter.unusedVariables false
set_option maxHeartbeats 4000000
namespace Go.Proofs.YtdjcggcjlphdoaaGreatDoor
open Go Go.Vo
open Nat (reduceAdd reduceSub reduceMul reduceLeDiff reduceLT reduceEqDiff)
open Int (reduceNeg)
mutual
def vis:LTerm→Int→List (LTerm×Int)
 | .mk k n x s ks rs,d=>(.mk k n x s ks rs,d)::(visL ks (d+1)++visL rs (d+1))
def visL:List LTerm→Int→List (LTerm×Int)
 | [],_=>[]
 |t::l,d=>vis t d++visL l d
end
theorem oG:∀{l m:List LTerm} {d:Int},visL (l++m) d=visL l d++visL m d
 | [],m,d=>rfl
 |t::l,m,d=>by rw[aC,visL,visL,oG,cM]
theorem vB(t:LTerm)(d:Int):vis t d=(t,d)::visL (t.kids++t.rest) (d+1):=by cases t;rw[vis,oG];rfl
theorem aPv{l:List LTerm}{k:Nat}{d:Int}(h:k<l.length):visL (l.drop k) d=vis (l.getD k default) d++visL (l.drop (k+1)) d:=by
 rw[eV h,visL];simp[List.getD,h]
def A6{α:Type}(φ:LTerm×Int→α→α)(a:α)(l:List (LTerm×Int)):α:=l.foldl (fun a v=>φ v a) a
theorem aGa{α:Type}{φ:LTerm×Int→α→α}{a:α}{l m:List (LTerm×Int)}:A6 φ a (l++m)=A6 φ (A6 φ a l) m:=by simp[A6,List.foldl_append]
theorem bPy:∀(t:LTerm),OkT t→∀(d:Int),∀v∈vis t d,OkT v.1:=
 fW fun t hk hr ht d v hv=>by
  have L:∀(l:List LTerm),(∀x∈l,OkT x∧∀(d:Int),∀v∈vis x d,OkT v.1)→∀v∈visL l (d+1),OkT v.1:=by
   intro l;induction l with
   |nil=>intro _ v hv;simp[visL]at hv
   |cons x l ih=>
    intro h v hv;rw[visL,cQ]at hv;rcases hv with hv|hv
    ·exact(h x (by simp)).2 _ v hv
    ·exact ih (fun y hy=>h y (by simp[hy])) v hv
  rw[vB,dA]at hv;rcases hv with rfl|hv
  ·exact ht
  ·refine L _ (fun x hx=>?_) v hv;rcases cQ.1 hx with hx|hx
   ·exact⟨ht.kid x hx,hk x hx (ht.kid x hx)⟩
   ·exact⟨ht.rst x hx,hr x hx (ht.rst x hx)⟩
theorem T4{t:LTerm}(h:nodeB t=true):t.rest=[]∨∃r,t.rest=[r]∧r.kids=[]∧r.rest=[]:=by
 have h1:=qE t h;have h2:=xH h;rcases hr:t.rest with _|⟨x,_|⟨y,l⟩⟩
 ·exact .inl rfl
 ·rw[hr]at h2;exact .inr ⟨x,rfl,(h2 x (by simp)).2⟩
 ·rw[hr]at h1;simp at h1
theorem wI{r:LTerm}(h1:r.kids=[])(h2:r.rest=[])(d:Int):vis r d=[(r,d)]:=by rw[vB,h1,h2];rfl
theorem aBz{t:LTerm}(h:nodeB t=true)(d:Int):visL t.rest d=t.rest.map fun r=>(r,d):=by
 rcases T4 h with e|⟨r,e,h1,h2⟩
 ·rw[e];rfl
 ·rw[e,visL,wI h1 h2];rfl
theorem eW(t:LTerm):nodesT t=1+t.rest.length+nodesL t.kids:=by cases t;rw[nodesT];rfl
theorem aKs(t:LTerm):highT t=1+max t.rest.length (highL t.kids):=by cases t;rw[highT];rfl
theorem lO:∀(l:List LTerm),l.length≤nodesL l
 | []=>bV _
 |t::l=>by rw[nodesL,bF,eW];have:=lO l;omega
theorem bIw:∀(t:LTerm),wfT nodeB t=true→∀d:Int,(vis t d).length=nodesT t:=
 fW fun t hk _ hw d=>by
  rw[eN]at hw;have L:∀(l:List LTerm),(∀x∈l,∀d:Int,(vis x d).length=nodesT x)→(visL l (d+1)).length=nodesL l:=by
   intro l;induction l with
   |nil=>intro _;rfl
   |cons x l ih=>intro h;rw[visL,nodesL,List.length_append,h x (by simp),ih (fun y hy=>h y (by simp[hy]))]
  rw[vB,oG,eW,bF,List.length_append,L _ (fun x hx=>hk x hx (hw.2 x hx)),aBz hw.1,eD];omega
structure cDl(t:LTerm)(d:Int)(v:LTerm×Int):Prop where
 lo:d≤v.2
 hi:v.2+1≤d+highT t
 len:v.1.kids.length+v.1.rest.length≤nodesT t
theorem bIx:∀(t:LTerm),wfT nodeB t=true→∀d:Int,∀v∈vis t d,cDl t d v:=
 fW fun t hk _ hw d v hv=>by
  rw[eN]at hw;rw[vB,oG,dA,cQ,aBz hw.1,dX]at hv;have hn:=eW t;have hh:=aKs t;have hl:=lO t.kids;rcases hv with rfl|hv|⟨r,hr,rfl⟩
  ·exact⟨Int.le_refl _,by dsimp only;omega,by dsimp only;omega⟩
  ·have L:∀(l:List LTerm),(∀x∈l,∀d:Int,∀v∈vis x d,cDl x d v)→v∈visL l (d+1)→d+1≤v.2∧v.2≤d+highL l∧v.1.kids.length+v.1.rest.length≤nodesL l:=by
    intro l;induction l with
    |nil=>intro _ h;simp[visL]at h
    |cons x l ih=>
     intro h hv;rw[highL,nodesL];rw[visL,cQ]at hv;rcases hv with hv|hv
     ·have b:=h x (by simp) _ v hv;have b1:=b.lo;have b2:=b.hi;have b3:=b.len;exact⟨b1,by omega,by omega⟩
     ·have b:=ih (fun y hy=>h y (by simp[hy])) hv;omega
   have b:=L _ (fun x hx=>hk x hx (hw.2 x hx)) hv;exact⟨by omega,by omega,by omega⟩
  ·have e:t.rest.length=1∧r.kids=[]∧r.rest=[]:=by
    rcases T4 hw.1 with e|⟨r',e,h1,h2⟩
    ·rw[e]at hr;cases hr
    ·rw[e]at hr;obtain rfl:=aP.1 hr;rw[e];exact⟨rfl,h1,h2⟩
   refine⟨by dsimp only;omega,by dsimp only;omega,?_⟩;dsimp only;rw[e.2.1,e.2.2];simp
def cHy(a:Int)(l:List (LTerm×Int)):Prop:=(0≤a∧a+l.length≤1000000)∧∀v∈l,0≤v.2∧v.2≤1000∧v.1.kids.length+v.1.rest.length≤1000000
theorem aPu{t:LTerm}(h:kY nodeB t=true):cHy 0 (vis t 1++[]):=by
 rw[List.append_nil];simp only[kY,aD,decide_eq_true_eq]at h;refine⟨⟨Int.le_refl _,by rw[bIw t h.1.1];omega⟩,fun v hv=>?_⟩;have b:=bIx t h.1.1 1 v hv;have b1:=b.lo;have b2:=b.hi;have b3:=b.len;exact⟨by omega,by omega,by omega⟩
def findS(m:List (Str×Str))(x:Str):Option Str:=(m.find? fun p=>decide (x=p.1)).map (·.2)
theorem zI{m:List (Str×Str)}{p:Str×Str}{x:Str}:findS (m++[p]) x=match findS m x with|some y=>some y|none=>if x=p.1 then some p.2 else none:=by
 unfold findS;rw[List.find?_append];cases h:m.find? fun p=>decide (x=p.1)with
 |some q=>rfl
 |none=>
  simp only[Option.none_or,zX,List.find?_nil,Option.map_none];by_cases hx:x=p.1<;>simp[hx]
def aZr(r:List (Str×Str)×Str)(x:Str×Str):List (Str×Str)×Str:=
 match findS r.1 x.1 with
 |some old=>if old≠x.2∧(r.2=[]∨x.1<r.2)then(r.1,x.1)else r
 |none=>(r.1++[x],r.2)
def cDg(l:List (Str×Str)):Prop:=∀a∈l,∀b∈l,a.1=b.1→a.2=b.2
structure bXl(l:List (Str×Str))(r:List (Str×Str)×Str):Prop where
 has:∀x∈l,∃y,findS r.1 x.1=some y
 of:∀x y,findS r.1 x=some y→(x,y)∈l
 ok:r.2=[]↔∀x∈l,findS r.1 x.1=some x.2
theorem aZq{l:List (Str×Str)}{r:List (Str×Str)×Str}{x:Str×Str}(h:bXl l r)(hx:x.1 ≠ []):bXl (l++[x]) (aZr r x):=by
 unfold aZr;cases hf:findS r.1 x.1 with
 |some old=>
  simp only;have hm:(∀y∈l++[x],∃z,findS r.1 y.1=some z)∧∀y z,findS r.1 y=some z→(y,z)∈l++[x]:=by
   refine⟨fun y hy=>?_,fun y z hz=>dZ _ (h.of y z hz)⟩;rcases cQ.1 hy with hy|hy
   ·exact h.has y hy
   ·rw[aP]at hy;subst hy;exact⟨_,hf⟩
  split
  ·rename_i hc;refine⟨hm.1,hm.2,⟨fun e=>absurd e hx,fun e=>?_⟩⟩;have:=e x (by simp);rw[hf]at this;exact absurd (fJ this) hc.1
  ·rename_i hc;refine⟨hm.1,hm.2,⟨fun e y hy=>?_,fun e=>h.ok.2 fun y hy=>e y (dZ _ hy)⟩⟩;rcases cQ.1 hy with hy|hy
   ·exact h.ok.1 e y hy
   ·rw[aP]at hy;subst hy;rw[hf];by_cases ho:old=y.2
    ·rw[ho]
    ·exact absurd ⟨ho,.inl e⟩ hc
 |none=>
  simp only;have hold:∀y∈l,findS (r.1++[x]) y.1=findS r.1 y.1:=fun y hy=>by
   obtain⟨z,hz⟩:=h.has y hy;rw[zI,hz]
  have hnew:findS (r.1++[x]) x.1=some x.2:=by rw[zI,hf];simp
  refine⟨fun y hy=>?_,fun y z hz=>?_,⟨fun e y hy=>?_,fun e=>h.ok.2 fun y hy=>?_⟩⟩
  ·rcases cQ.1 hy with hy|hy
   ·rw[hold y hy];exact h.has y hy
   ·rw[aP]at hy;subst hy;exact⟨_,hnew⟩
  ·rw[zI]at hz;cases hy:findS r.1 y with
   |some q=>rw[hy]at hz;cases hz;exact dZ _ (h.of _ _ hy)
   |none=>
    rw[hy]at hz;simp only at hz;split at hz
    ·rename_i e;cases hz;rw[e];simp
    ·cases hz
  ·rcases cQ.1 hy with hy|hy
   ·rw[hold y hy];exact h.ok.1 e y hy
   ·rw[aP]at hy;subst hy;exact hnew
  ·rw[← hold y hy];exact e y (dZ _ hy)
theorem aQz:∀(m l:List (Str×Str)) (r:List (Str×Str)×Str),bXl l r→(∀x∈m,x.1 ≠ [])→bXl (l++m) (m.foldl aZr r)
 | [],l,r,h,_=>by simpa using h
 |x::m,l,r,h,hn=>by
  have:=aQz m (l++[x]) (aZr r x) (aZq h (hn x (by simp))) (fun y hy=>hn y (by simp[hy]));simpa using this
theorem bJl{l:List (Str×Str)}(hn:∀x∈l,x.1 ≠ []):(l.foldl aZr ([],[])).2=[]↔cDg l:=by
 have h:=aQz l [] ([],[]) ⟨by simp,by simp[findS],by simp⟩ hn;rw[aE]at h;rw[h.ok];constructor
 ·intro e a ha b hb hab;have h1:=e a ha;have h2:=e b hb;rw[hab,h2]at h1;exact(fJ h1).symm
 ·intro e x hx;obtain⟨y,hy⟩:=h.has x hx;have q:y=x.2:=e (x.1,y) (h.of _ _ hy) x hx rfl;rw[hy,q]
def bEp{α:Type}[DecidableEq α](out:List α)(v:α):List α:=if v∈out then out else out++[v]
theorem aBd{α:Type}[DecidableEq α]:∀(m out:List α),out.Nodup→(m.foldl bEp out).Nodup∧∀x,x∈m.foldl bEp out↔x∈out∨x∈m
 | [],out,h=>⟨h,by simp⟩
 |v :: m,out,h=>by
  rw[nN];have h1:(bEp out v).Nodup∧∀x,x∈bEp out v↔x∈out∨x=v:=by
   unfold bEp;split
   ·rename_i hv;exact⟨h,fun x=>⟨.inl,fun e=>e.elim id fun e=>e▸hv⟩⟩
   ·rename_i hv;refine⟨?_,by simp⟩;rw[kE];exact⟨h,by simp,fun a ha b hb=>by rw[aP]at hb;subst hb;rintro rfl;exact hv ha⟩
  have h2:=aBd m _ h1.1;refine⟨h2.1,fun x=>?_⟩;rw[h2.2,h1.2,dA,or_assoc]
def bPf(l:List LTerm):Bool:=aIs l.length fun i=>aIs i fun j => !decide ((l.getD i default).text=(l.getD j default).text)
theorem bLb{l:List LTerm}:bPf l=true↔(l.map LTerm.text).Nodup:=by
 unfold bPf;rw[mY,List.nodup_iff_pairwise_ne,eS];constructor
 ·intro h i j hi hj hij;simp only[eD]at hi hj;have:=h j hj;rw[mY]at this;have:=this i hij;simp only[eG,decide_eq_false_iff_not,List.getD,hi,hj,bO,fG]at this;simpa using fun e=>this e.symm
 ·intro h j hj;rw[mY];intro i hij;have hi:i<l.length:=by omega
  have:=h i j (by simpa using hi) (by simpa using hj) hij;simp only[List.getElem_map]at this;simp only[eG,decide_eq_false_iff_not,List.getD,hi,hj,bO,fG];exact fun e=>this e.symm
def J6(t:LTerm):Str×Str:=(t.text,t.sort)
theorem aTb{l:List LTerm}(hp:∀a∈l,∀b∈l,J6 a=J6 b→a=b):bPf (l.foldl bEp [])=true↔cDg (l.map J6):=by
 obtain⟨hnd,hm⟩:=aBd l [] fL;have hm:∀x,x∈l.foldl bEp []↔x∈l:=fun x=>by rw[hm];simp
 rw[bLb];generalize l.foldl bEp []=L at *
 constructor
 ·intro h a ha b hb hab
  obtain⟨x,hx,rfl⟩:=dX.1 ha;obtain⟨y,hy,rfl⟩:=dX.1 hb;have hx':=(hm x).2 hx;have hy':=(hm y).2 hy;by_cases e:x=y
  ·rw[e]
  ·exfalso;have hinj:∀(L:List LTerm),(L.map LTerm.text).Nodup→∀x∈L,∀y∈L,x.text=y.text→x=y:=by
    intro L;induction L with
    |nil=>intro _ x hx;cases hx
    |cons z L ih=>
     intro hn x hx y hy he;rw[aQ,jJ]at hn;rcases dA.1 hx with ex|hx2<;>rcases dA.1 hy with ey|hy2
     ·rw[ex,ey]
     ·exact absurd (dX.2 ⟨y,hy2,by rw[← he,ex]⟩) hn.1
     ·exact absurd (dX.2 ⟨x,hx2,by rw[he,ey]⟩) hn.1
     ·exact ih hn.2 x hx2 y hy2 he
   exact e (hinj L h x hx' y hy' hab)
 ·intro h;have:∀(L:List LTerm),L.Nodup→(∀x∈L,x∈l)→(L.map LTerm.text).Nodup:=by
   intro L;induction L with
   |nil=>intro _ _;exact fL
   |cons z L ih=>
    intro hn hl;rw[jJ]at hn;rw[aQ,jJ];refine⟨fun hz=>?_,ih hn.2 fun x hx=>hl x (by simp[hx])⟩;obtain⟨y,hy,he⟩:=dX.1 hz;have hzl:=hl z (by simp);have hyl:=hl y (by simp[hy]);have hs:=h (J6 y) (dX.2 ⟨y,hyl,rfl⟩) (J6 z) (dX.2 ⟨z,hzl,rfl⟩) he;have:=hp y hyl z hzl (Prod.ext he hs);exact hn.1 (this▸hy)
  exact this L hnd fun x hx=>(hm x).1 hx
def aOd(s:dK)(v:LTerm×Int)(b:Bool):Bool:=if v.1.kind=5 then b||(kN s v.1.text).2.1 else b
def bGm(k:LTerm):Bool:=isKey k||(decide (k.kind=6) && !decide (k.text=[95]))
def mO(l:List LTerm)(n:Nat):Bool:=aIs n fun j=>bGm (l.getD (2*j) default)
def Y9(t:LTerm):Bool := !(decide (t.kind=6)&&decide (t.text=[36]))&&(!decide (t.kind=8)||mO t.kids ((t.kids.length+1) / 2))
def bAu(v:LTerm×Int)(b:Bool):Bool:=b&&Y9 v.1
def isV(t:LTerm):Bool:=decide (t.kind=6) && !decide (t.text=[95])
def aGf(v:LTerm×Int)(r:List (Str×Str)×Str):List (Str×Str)×Str:=if isV v.1=true then aZr r (J6 v.1)else r
theorem aKu(s:dK):∀(l:List (LTerm×Int)) (b:Bool),A6 (aOd s) b l=(b||l.any fun v=>decide (v.1.kind=5)&&(kN s v.1.text).2.1)
 | [],b=>by simp[A6]
 |v::l,b=>by
  show A6 (aOd s) (aOd s v b) l=_;rw[aKu s l,fD,aOd];by_cases h:v.1.kind=5<;>simp[h,mF]
theorem aKa:∀(l:List (LTerm×Int)) (b:Bool),A6 bAu b l=(b&&l.all fun v=>Y9 v.1)
 | [],b=>by simp[A6]
 |v::l,b=>by
  show A6 bAu (bAu v b) l=_;rw[aKa l,oC,bAu,uT]
def G4(t:LTerm):List LTerm:=((vis t 1).map (·.1)).filter isV
theorem aJl:∀(l:List (LTerm×Int)) (r:List (Str×Str)×Str),A6 aGf r l=(((l.map (·.1)).filter isV).map J6).foldl aZr r
 | [],r=>rfl
 |v::l,r=>by
  show A6 aGf (aGf v r) l=_;rw[aJl l,aGf,aQ,bD];split<;>simp
mutual
def Q1(s:dK):LTerm→Bool
 | .mk k n x so ks rs=>(decide (k=5)&&(s.ops.find? fun o=>decide (o.name=x)).isNone)||hasFRL s ks
def hasFRL(s:dK):List LTerm→Bool
 | []=>false
 |t::l=>Q1 s t||hasFRL s l
end
theorem U2(s:dK):∀l,hasFRL s l=l.any (Q1 s)
 | []=>rfl
 |t::l=>by rw[hasFRL,U2 s l];rfl
theorem bCl(s:dK)(t:LTerm):Q1 s t=((decide (t.kind=5)&&(s.ops.find? fun o=>decide (o.name=t.text)).isNone)||t.kids.any (Q1 s)):=by
 cases t;rw[Q1,U2];rfl
def bMa(m:Bool)(i:Nat)(k:LTerm):Bool := !(m&&decide (i % 2=0) && !isKey k&&(!decide (k.kind=6) || !isName k.text))
mutual
def xQ:LTerm→Bool
 | .mk k n x so ks rs=>keysRL (decide (k=8)) 0 ks
def keysRL(m:Bool)(i:Nat):List LTerm→Bool
 | []=>true
 |t::l=>(xQ t&&bMa m i t)&&keysRL m (i+1) l
end
theorem aDv(m:Bool):∀(l:List LTerm) (i:Nat),keysRL m i l=aIs l.length fun j=>xQ (l.getD j default)&&bMa m (i+j) (l.getD j default)
 | [],i=>rfl
 |t :: l,i=>by
  rw[keysRL,aDv m l];rw[gA,aD,mY,mY];constructor
  ·rintro⟨h1,h2⟩ j hj;cases j with
   |zero=>exact h1
   |succ j=>
    have:=h2 j (by simpa using hj);rw[show i+(j+1)=i+1+j by omega];exact this
  ·intro h;refine⟨h 0 (by simp),fun j hj=>?_⟩;have:=h (j+1) (by simpa using hj);rw[show i+(j+1)=i+1+j by omega]at this;exact this
theorem aKr(t:LTerm):xQ t=aIs t.kids.length fun j=>xQ (t.kids.getD j default)&&bMa (decide (t.kind=8)) j (t.kids.getD j default):=by
 cases t;rw[xQ,aDv];simp only[eF];rfl
theorem wE{f:LTerm→Bool}(t:LTerm)(d:Int):((vis t d).any fun v=>f v.1)=(f t||((t.kids++t.rest).any fun k=>(vis k (d+1)).any fun v=>f v.1)):=by
 have L:∀(l:List LTerm) (d:Int),((visL l d).any fun v=>f v.1)=l.any fun k=>(vis k d).any fun v=>f v.1:=by
  intro l;induction l with
  |nil=>intro d;rfl
  |cons x l ih=>intro d;rw[visL,List.any_append,ih,fD]
 rw[vB,fD,L]
theorem bOs{f:LTerm→Bool}(t:LTerm)(d:Int):((vis t d).all fun v=>f v.1)=(f t&&((t.kids++t.rest).all fun k=>(vis k (d+1)).all fun v=>f v.1)):=by
 have L:∀(l:List LTerm) (d:Int),((visL l d).all fun v=>f v.1)=l.all fun k=>(vis k d).all fun v=>f v.1:=by
  intro l;induction l with
  |nil=>intro d;rfl
  |cons x l ih=>intro d;rw[visL,List.all_append,ih,oC]
 rw[vB,oC,L]
theorem sN{t r:LTerm}(h:nodeB t=true)(hr:r∈t.rest):r.kind=6∧isName r.text=true∧r.kids=[]∧r.rest=[]:=by
 have h2:=xH h r hr;refine⟨?_,?_,h2.2.1,h2.2.2⟩;all_goals
  have z0:∀{a b c d},gQ t a b c d false=true→t.rest=[]:=by
   intro a b c d h;simp only[gQ,aD,cB,decide_eq_true_eq,aI,false_or]at h;exact h.2
  have r0:∀{s},nK t s=true→r.kind=6∧isName r.text=true:=by
   intro s h;simp only[nK,aD,cB,decide_eq_true_eq]at h;have hl:0<t.rest.length:=aFs hr;rcases h with h|h
   ·omega
   ·obtain⟨⟨⟨⟨h1,hk⟩,hn⟩,_⟩,_⟩:=h;have hx:∃x,t.rest=[x]:=aFt.1 h1;obtain⟨x,hx⟩:=hx;rw[hx]at hr hk hn;rw[aP]at hr;subst hr;exact⟨hk,hn⟩
  have hh:=h
  unfold nodeB at hh
  repeat' split at hh
  all_goals try simp only[aD]at hh
  all_goals first
   |exact absurd hr (by rw[z0 hh.2];simp)
   |exact(r0 hh.1).1
   |exact(r0 hh.1).2
   |exact(r0 hh.1.1).1
   |exact(r0 hh.1.1).2
   |cases hh
theorem aOq{s:dK}{x:Str}:(kN s x).2.1=(s.ops.find? fun o=>decide (o.name=x)).isNone:=by
 unfold kN aPm;cases s.ops.find? fun o=>decide (o.name=x)with
 |some o=>rfl
 |none=>
  simp only;cases aDz s x with
  |some o=>rfl
  |none=>
   simp only;cases zO x<;>rfl
theorem aUk(s:dK):∀t:LTerm,wfT nodeB t=true→∀d:Int,((vis t d).any fun v=>decide (v.1.kind=5)&&(kN s v.1.text).2.1)=Q1 s t:=
 fW (Q:=fun t=>wfT nodeB t=true→∀d:Int,((vis t d).any fun v=>decide (v.1.kind=5)&&(kN s v.1.text).2.1)=Q1 s t) fun t hk hr hw d=>by
  have hw':=eN.1 hw;rw[wE (f:=fun x=>decide (x.kind=5)&&(kN s x.text).2.1),bCl,List.any_append,aOq];have e1:(t.kids.any fun k=>(vis k (d+1)).any fun v=>decide (v.1.kind=5)&&(kN s v.1.text).2.1)=t.kids.any (Q1 s):=by
   rw[gA,pK,pK];exact⟨fun⟨k,hm,h⟩=>⟨k,hm,by rw[← hk k hm (hw'.2 k hm) (d+1)];exact h⟩,fun⟨k,hm,h⟩=>⟨k,hm,by rw[hk k hm (hw'.2 k hm) (d+1)];exact h⟩⟩
  have e2:(t.rest.any fun k=>(vis k (d+1)).any fun v=>decide (v.1.kind=5)&&(kN s v.1.text).2.1)=false:=by
   rw[gV];intro r hm;obtain⟨h6,_,h1,h2⟩:=sN hw'.1 hm;rw[wI h1 h2];simp[h6]
  rw[e1,e2,aK]
def dol(t:LTerm)(d:Int):Bool:=(vis t d).any fun v=>decide (v.1.kind=6)&&decide (v.1.text=[36])
theorem aVq:isName [36]=false:=by decide +kernel
theorem bIz:isName [95]=false:=by decide +kernel
theorem bHc{t:LTerm}{d:Int}(h:dol t d=false):¬(t.kind=6∧t.text=[36]):=by
 unfold dol at h;rw[wE (f:=fun x=>decide (x.kind=6)&&decide (x.text=[36])),jV]at h;intro q;have:=h.1;simp[q.1,q.2]at this
theorem aJf{k:LTerm}(h:nodeB k=true)(h6:k.kind=6)(hd:¬k.text=[36]):isName k.text = !decide (k.text=[95]):=by
 by_cases h5:k.text=[95]
 ·rw[h5,bIz];simp
 ·have:xE k.text=false:=by simp[xE,h5,hd]
  have hh:nodeB k=(if xE k.text=true then decide (k.sort=bXj)&&gQ k false true true false false else isName k.text&&isName k.sort&&gQ k false true true false false):=by simp only[nodeB,h6,Int.reduceEq,if_false,if_true]
  rw[hh,this,if_neg (by simp)]at h;simp only[aD]at h;rw[h.1.1];simp[h5]
theorem aUf:∀t:LTerm,wfT nodeB t=true→∀d:Int,((vis t d).all fun v=>Y9 v.1)=(!dol t d&&xQ t):=
 fW (Q := fun t=>wfT nodeB t=true→∀d:Int,((vis t d).all fun v=>Y9 v.1)=(!dol t d&&xQ t)) fun t hk hr hw d=>by
  have hw':=eN.1 hw;have ek:(t.kids.all fun k=>(vis k (d+1)).all fun v=>Y9 v.1)=(t.kids.all fun k => !dol k (d+1)&&xQ k):=by
   rw[gA,bC,bC];exact⟨fun h k hm=>by rw[← hk k hm (hw'.2 k hm) (d+1)];exact h k hm,fun h k hm=>by rw[hk k hm (hw'.2 k hm) (d+1)];exact h k hm⟩
  have er:(t.rest.all fun k=>(vis k (d+1)).all fun v=>Y9 v.1)=true:=by
   rw[bC];intro r hm;obtain⟨h6,hn,h1,h2⟩:=sN hw'.1 hm;rw[wI h1 h2];have:¬r.text=[36]:=fun e=>by rw[e,aVq]at hn;cases hn
   simp[Y9,h6,this]
  have dr:(t.rest.any fun k=>(vis k (d+1)).any fun v=>decide (v.1.kind=6)&&decide (v.1.text=[36]))=false:=by
   rw[gV];intro r hm;obtain⟨h6,hn,h1,h2⟩:=sN hw'.1 hm;rw[wI h1 h2];have:¬r.text=[36]:=fun e=>by rw[e,aVq]at hn;cases hn
   simp[this]
  have ed:dol t d=((decide (t.kind=6)&&decide (t.text=[36]))||t.kids.any fun k=>dol k (d+1)):=by
   unfold dol;rw[wE (f:=fun x=>decide (x.kind=6)&&decide (x.text=[36])),List.any_append,dr,aK]
  rw[bOs,List.all_append,ek,er,bA,ed,aKr];rw[gA];simp only[Y9,aD,eG,jV,cB,bC,gV,mY];constructor
  ·rintro⟨⟨h1,h2⟩,h3⟩
   refine⟨⟨h1,fun k hm=>by simpa using(h3 k hm).1⟩,fun j hj=>?_⟩;have hm:=cS (d:=default) hj;refine⟨(h3 _ hm).2,?_⟩;unfold bMa;by_cases h8:t.kind=8
   ·by_cases he:j % 2=0
    ·rcases h2 with h2|h2
     ·simp[h8]at h2
     ·unfold mO at h2;rw[mY]at h2;have q:=h2 (j / 2) (by omega);rw[show 2*(j / 2)=j by omega]at q;have hd:=bHc (h3 _ hm).1;generalize t.kids.getD j default=k at *
      unfold bGm at q;by_cases hkk:isKey k=true
      ·simp[hkk]
      ·simp only[pL]at hkk;rw[hkk,dD,aD,decide_eq_true_eq]at q;have hv:=aJf (eN.1 (hw'.2 _ hm)).1 q.1 (fun e=>hd ⟨q.1,e⟩);rw[hv,q.2];simp[q.1]
    ·simp[he]
   ·simp[h8]
  ·rintro⟨⟨h1,h2⟩,h3⟩;have hall:∀k∈t.kids,dol k (d+1)=false∧xQ k=true:=fun k hm=>by
    obtain⟨j,hj,he⟩:=dJ.1 hm;have:=(h3 j hj).1;rw[show t.kids.getD j default=k by simp[List.getD,hj,he]]at this;exact⟨by simpa using h2 k hm,this⟩
   refine⟨⟨h1,?_⟩,hall⟩;by_cases h8:t.kind=8
   ·right;unfold mO;rw[mY];intro j hj;have hj2:2*j<t.kids.length:=by omega
    have q:=(h3 (2*j) hj2).2;have hm:=cS (d:=default) hj2;have hd:=bHc (hall _ hm).1;generalize t.kids.getD (2*j) default=k at *
    unfold bMa at q;unfold bGm;by_cases hkk:isKey k=true
    ·simp[hkk]
    ·simp only[pL]at hkk;simp only[h8,decide_true,hkk,aB,bA,aR,show 2*j % 2=0 by omega,eG,jV,decide_eq_false_iff_not,R0]at q;have q1:k.kind=6:=by simpa using q.1
     have q2:isName k.text=true:=by simpa using q.2
     have hv:=aJf (eN.1 (hw'.2 _ hm)).1 q1 (fun e=>hd ⟨q1,e⟩);rw[hv]at q2;simp[q1,q2]
   ·left;simp[h8]
structure LTest where
 op:Int
 term:LTerm
 text:Str
 n:Int
structure bWt where
 path:List Int
 test:LTest
instance:Inhabited LTest:=⟨⟨0,default,[],0⟩⟩
instance:Inhabited bWt:=⟨⟨[],default⟩⟩
section
variable {k:Nat} {l:List bWt}
end
abbrev zT:LTerm:=.mk 0 0 [] [] [] []
end Go.Proofs.YtdjcggcjlphdoaaGreatDoor

/-
  Functions of the chapter, as plain functions of what they are given; no condition.
-/
import Derived.Test.YtdjcggcjlphdoaaGreatDoorTeP54
import Derived.Test.YtdjcggcjlphdoaaGreatDoorTeP53
set_option maxRecDepth 100000
set_option linter.unusedSimpArgs false
set_option linter.unusedVariables false
set_option maxHeartbeats 4000000
namespace Go.Proofs.YtdjcggcjlphdoaaGreatDoor
open Go Go.Vo
open Nat (reduceAdd reduceSub reduceMul reduceLeDiff reduceLT reduceEqDiff)
open Int (reduceNeg)
mutual
def vis:LTerm→Int→List (LTerm×Int)
 | .mk k n x s ks rs,d=>(.mk k n x s ks rs,d)::(visL ks (d+1)++visL rs (d+1))
def visL:List LTerm→Int→List (LTerm×Int)
 | [],_=>[]
 |t::l,d=>vis t d++visL l d
end
theorem lP:∀{l m:List LTerm} {d:Int},visL (l++m) d=visL l d++visL m d
 | [],m,d=>rfl
 |t::l,m,d=>by rw[aH,visL,visL,lP,cK]
theorem oN(t:LTerm)(d:Int):vis t d=(t,d)::visL (t.kids++t.rest) (d+1):=by cases t;rw[vis,lP];rfl
theorem zC{l:List LTerm}{k:Nat}{d:Int}(h:k<l.length):visL (l.drop k) d=vis (l.getD k default) d++visL (l.drop (k+1)) d:=by
 rw[dL h,visL];simp[List.getD,h]
def A8{α:Type}(φ:LTerm×Int→α→α)(a:α)(l:List (LTerm×Int)):α:=l.foldl (fun a v=>φ v a) a
theorem aFw{α:Type}{φ:LTerm×Int→α→α}{a:α}{l m:List (LTerm×Int)}:A8 φ a (l++m)=A8 φ (A8 φ a l) m:=by simp[A8,oJ]
theorem bDx:∀(t:LTerm),OkT t→∀(d:Int),∀v∈vis t d,OkT v.1:=
 fG fun t hk hr ht d v hv=>by
  have L:∀(l:List LTerm),(∀x∈l,OkT x∧∀(d:Int),∀v∈vis x d,OkT v.1)→∀v∈visL l (d+1),OkT v.1:=by
   intro l;induction l with
   |nil=>intro _ v hv;simp[visL]at hv
   |cons x l ih=>
    intro h v hv;rw[visL,cJ]at hv;rcases hv with hv|hv
    ·exact(h x (by simp)).2 _ v hv
    ·exact ih (fun y hy=>h y (by simp[hy])) v hv
  rw[oN,dD]at hv;rcases hv with rfl|hv
  ·exact ht
  ·refine L _ (fun x hx=>?_) v hv;rcases cJ.1 hx with hx|hx
   ·exact⟨ht.kid x hx,hk x hx (ht.kid x hx)⟩
   ·exact⟨ht.rst x hx,hr x hx (ht.rst x hx)⟩
theorem T4{t:LTerm}(h:dQ t=true):t.rest=[]∨∃r,t.rest=[r]∧r.kids=[]∧r.rest=[]:=by
 have h1:=qV t h;have h2:=J7 h;rcases hr:t.rest with _|⟨x,_|⟨y,l⟩⟩
 ·exact .inl rfl
 ·rw[hr]at h2;exact .inr ⟨x,rfl,(h2 x (by simp)).2⟩
 ·rw[hr]at h1;simp at h1
theorem wW{r:LTerm}(h1:r.kids=[])(h2:r.rest=[])(d:Int):vis r d=[(r,d)]:=by rw[oN,h1,h2];rfl
theorem aBq{t:LTerm}(h:dQ t=true)(d:Int):visL t.rest d=t.rest.map fun r=>(r,d):=by
 rcases T4 h with e|⟨r,e,h1,h2⟩
 ·rw[e];rfl
 ·rw[e,visL,wW h1 h2];rfl
theorem gA(t:LTerm):nodesT t=1+t.rest.length+nodesL t.kids:=by cases t;rw[nodesT];rfl
theorem aKj(t:LTerm):highT t=1+max t.rest.length (highL t.kids):=by cases t;rw[highT];rfl
theorem mV:∀(l:List LTerm),l.length≤nodesL l
 | []=>bT _
 |t::l=>by rw[nodesL,bB,gA];have:=mV l;omega
theorem bHf:∀(t:LTerm),wfT dQ t=true→∀d:Int,(vis t d).length=nodesT t:=
 fG fun t hk _ hw d=>by
  rw[nF]at hw;have L:∀(l:List LTerm),(∀x∈l,∀d:Int,(vis x d).length=nodesT x)→(visL l (d+1)).length=nodesL l:=by
   intro l;induction l with
   |nil=>intro _;rfl
   |cons x l ih=>intro h;rw[visL,nodesL,List.length_append,h x (by simp),ih (fun y hy=>h y (by simp[hy]))]
  rw[oN,lP,gA,bB,List.length_append,L _ (fun x hx=>hk x hx (hw.2 x hx)),aBq hw.1,cZ];omega
structure cCj(t:LTerm)(d:Int)(v:LTerm×Int):Prop where
 lo:d≤v.2
 hi:v.2+1≤d+highT t
 len:v.1.kids.length+v.1.rest.length≤nodesT t
theorem bHg:∀(t:LTerm),wfT dQ t=true→∀d:Int,∀v∈vis t d,cCj t d v:=
 fG fun t hk _ hw d v hv=>by
  rw[nF]at hw;rw[oN,lP,dD,cJ,aBq hw.1,dP]at hv;have hn:=gA t;have hh:=aKj t;have hl:=mV t.kids;rcases hv with rfl|hv|⟨r,hr,rfl⟩
  ·exact⟨Int.le_refl _,by dsimp only;omega,by dsimp only;omega⟩
  ·have L:∀(l:List LTerm),(∀x∈l,∀d:Int,∀v∈vis x d,cCj x d v)→v∈visL l (d+1)→d+1≤v.2∧v.2≤d+highL l∧v.1.kids.length+v.1.rest.length≤nodesL l:=by
    intro l;induction l with
    |nil=>intro _ h;simp[visL]at h
    |cons x l ih=>
     intro h hv;rw[highL,nodesL];rw[visL,cJ]at hv;rcases hv with hv|hv
     ·have b:=h x (by simp) _ v hv;have b1:=b.lo;have b2:=b.hi;have b3:=b.len;exact⟨b1,by omega,by omega⟩
     ·have b:=ih (fun y hy=>h y (by simp[hy])) hv;omega
   have b:=L _ (fun x hx=>hk x hx (hw.2 x hx)) hv;exact⟨by omega,by omega,by omega⟩
  ·have e:t.rest.length=1∧r.kids=[]∧r.rest=[]:=by
    rcases T4 hw.1 with e|⟨r',e,h1,h2⟩
    ·rw[e]at hr;cases hr
    ·rw[e]at hr;obtain rfl:=bJ.1 hr;rw[e];exact⟨rfl,h1,h2⟩
   refine⟨by dsimp only;omega,by dsimp only;omega,?_⟩;dsimp only;rw[e.2.1,e.2.2];simp
def cGt(a:Int)(l:List (LTerm×Int)):Prop:=(0≤a∧a+l.length≤1000000)∧∀v∈l,0≤v.2∧v.2≤1000∧v.1.kids.length+v.1.rest.length≤1000000
theorem aFx{t:LTerm}(h:iQ dQ t=true):cGt 0 (vis t 1++[]):=by
 rw[List.append_nil];simp only[iQ,aB,decide_eq_true_eq]at h;refine⟨⟨Int.le_refl _,by rw[bHf t h.1.1];omega⟩,fun v hv=>?_⟩;have b:=bHg t h.1.1 1 v hv;have b1:=b.lo;have b2:=b.hi;have b3:=b.len;exact⟨by omega,by omega,by omega⟩
def findS(m:List (Str×Str))(x:Str):Option Str:=(m.find? fun p=>decide (x=p.1)).map (·.2)
theorem zO{m:List (Str×Str)}{p:Str×Str}{x:Str}:findS (m++[p]) x=match findS m x with|some y=>some y|none=>if x=p.1 then some p.2 else none:=by
 unfold findS;rw[List.find?_append];cases h:m.find? fun p=>decide (x=p.1)with
 |some q=>rfl
 |none=>
  simp only[Option.none_or,sM,List.find?_nil,Option.map_none];by_cases hx:x=p.1<;>simp[hx]
def aYf(r:List (Str×Str)×Str)(x:Str×Str):List (Str×Str)×Str:=
 match findS r.1 x.1 with
 |some old=>if old≠x.2∧(r.2=[]∨x.1<r.2)then(r.1,x.1)else r
 |none=>(r.1++[x],r.2)
def cCd(l:List (Str×Str)):Prop:=∀a∈l,∀b∈l,a.1=b.1→a.2=b.2
structure bWb(l:List (Str×Str))(r:List (Str×Str)×Str):Prop where
 has:∀x∈l,∃y,findS r.1 x.1=some y
 of:∀x y,findS r.1 x=some y→(x,y)∈l
 ok:r.2=[]↔∀x∈l,findS r.1 x.1=some x.2
theorem aYe{l:List (Str×Str)}{r:List (Str×Str)×Str}{x:Str×Str}(h:bWb l r)(hx:x.1 ≠ []):bWb (l++[x]) (aYf r x):=by
 unfold aYf;cases hf:findS r.1 x.1 with
 |some old=>
  simp only;have hm:(∀y∈l++[x],∃z,findS r.1 y.1=some z)∧∀y z,findS r.1 y=some z→(y,z)∈l++[x]:=by
   refine⟨fun y hy=>?_,fun y z hz=>dT _ (h.of y z hz)⟩;rcases cJ.1 hy with hy|hy
   ·exact h.has y hy
   ·rw[bJ]at hy;subst hy;exact⟨_,hf⟩
  split
  ·rename_i hc;refine⟨hm.1,hm.2,⟨fun e=>absurd e hx,fun e=>?_⟩⟩;have:=e x (by simp);rw[hf]at this;exact absurd (fB this) hc.1
  ·rename_i hc;refine⟨hm.1,hm.2,⟨fun e y hy=>?_,fun e=>h.ok.2 fun y hy=>e y (dT _ hy)⟩⟩;rcases cJ.1 hy with hy|hy
   ·exact h.ok.1 e y hy
   ·rw[bJ]at hy;subst hy;rw[hf];by_cases ho:old=y.2
    ·rw[ho]
    ·exact absurd ⟨ho,.inl e⟩ hc
 |none=>
  simp only;have hold:∀y∈l,findS (r.1++[x]) y.1=findS r.1 y.1:=fun y hy=>by
   obtain⟨z,hz⟩:=h.has y hy;rw[zO,hz]
  have hnew:findS (r.1++[x]) x.1=some x.2:=by rw[zO,hf];simp
  refine⟨fun y hy=>?_,fun y z hz=>?_,⟨fun e y hy=>?_,fun e=>h.ok.2 fun y hy=>?_⟩⟩
  ·rcases cJ.1 hy with hy|hy
   ·rw[hold y hy];exact h.has y hy
   ·rw[bJ]at hy;subst hy;exact⟨_,hnew⟩
  ·rw[zO]at hz;cases hy:findS r.1 y with
   |some q=>rw[hy]at hz;cases hz;exact dT _ (h.of _ _ hy)
   |none=>
    rw[hy]at hz;simp only at hz;split at hz
    ·rename_i e;cases hz;rw[e];simp
    ·cases hz
  ·rcases cJ.1 hy with hy|hy
   ·rw[hold y hy];exact h.ok.1 e y hy
   ·rw[bJ]at hy;subst hy;exact hnew
  ·rw[← hold y hy];exact e y (dT _ hy)
theorem aQk:∀(m l:List (Str×Str)) (r:List (Str×Str)×Str),bWb l r→(∀x∈m,x.1 ≠ [])→bWb (l++m) (m.foldl aYf r)
 | [],l,r,h,_=>by simpa using h
 |x::m,l,r,h,hn=>by
  have:=aQk m (l++[x]) (aYf r x) (aYe h (hn x (by simp))) (fun y hy=>hn y (by simp[hy]));simpa using this
theorem bHt{l:List (Str×Str)}(hn:∀x∈l,x.1 ≠ []):(l.foldl aYf ([],[])).2=[]↔cCd l:=by
 have h:=aQk l [] ([],[]) ⟨by simp,by simp[findS],by simp⟩ hn;rw[aJ]at h;rw[h.ok];constructor
 ·intro e a ha b hb hab;have h1:=e a ha;have h2:=e b hb;rw[hab,h2]at h1;exact(fB h1).symm
 ·intro e x hx;obtain⟨y,hy⟩:=h.has x hx;have q:y=x.2:=e (x.1,y) (h.of _ _ hy) x hx rfl;rw[hy,q]
def F5{α:Type}[DecidableEq α](out:List α)(v:α):List α:=if v∈out then out else out++[v]
theorem aAx{α:Type}[DecidableEq α]:∀(m out:List α),out.Nodup→(m.foldl F5 out).Nodup∧∀x,x∈m.foldl F5 out↔x∈out∨x∈m
 | [],out,h=>⟨h,by simp⟩
 |v :: m,out,h=>by
  rw[jK];have h1:(F5 out v).Nodup∧∀x,x∈F5 out v↔x∈out∨x=v:=by
   unfold F5;split
   ·rename_i hv;exact⟨h,fun x=>⟨.inl,fun e=>e.elim id fun e=>e▸hv⟩⟩
   ·rename_i hv;refine⟨?_,by simp⟩;rw[lQ];exact⟨h,by simp,fun a ha b hb=>by rw[bJ]at hb;subst hb;rintro rfl;exact hv ha⟩
  have h2:=aAx m _ h1.1;refine⟨h2.1,fun x=>?_⟩;rw[h2.2,h1.2,dD,or_assoc]
def aXj(l:List LTerm):Bool:=Q1 l.length fun i=>Q1 i fun j => !decide ((l.getD i default).text=(l.getD j default).text)
theorem bJi{l:List LTerm}:aXj l=true↔(l.map LTerm.text).Nodup:=by
 unfold aXj;rw[nD,List.nodup_iff_pairwise_ne,eR];constructor
 ·intro h i j hi hj hij;simp only[cZ]at hi hj;have:=h j hj;rw[nD]at this;have:=this i hij;simp only[dB,decide_eq_false_iff_not,List.getD,hi,hj,bQ,eC]at this;simpa using fun e=>this e.symm
 ·intro h j hj;rw[nD];intro i hij;have hi:i<l.length:=by omega
  have:=h i j (by simpa using hi) (by simpa using hj) hij;simp only[List.getElem_map]at this;simp only[dB,decide_eq_false_iff_not,List.getD,hi,hj,bQ,eC];exact fun e=>this e.symm
def I9(t:LTerm):Str×Str:=(t.text,t.sort)
theorem bJj{l:List LTerm}(hp:∀a∈l,∀b∈l,I9 a=I9 b→a=b):aXj (l.foldl F5 [])=true↔cCd (l.map I9):=by
 obtain⟨hnd,hm⟩:=aAx l [] eM;have hm:∀x,x∈l.foldl F5 []↔x∈l:=fun x=>by rw[hm];simp
 rw[bJi];generalize l.foldl F5 []=L at *
 constructor
 ·intro h a ha b hb hab
  obtain⟨x,hx,rfl⟩:=dP.1 ha;obtain⟨y,hy,rfl⟩:=dP.1 hb;have hx':=(hm x).2 hx;have hy':=(hm y).2 hy;by_cases e:x=y
  ·rw[e]
  ·exfalso;have hinj:∀(L:List LTerm),(L.map LTerm.text).Nodup→∀x∈L,∀y∈L,x.text=y.text→x=y:=by
    intro L;induction L with
    |nil=>intro _ x hx;cases hx
    |cons z L ih=>
     intro hn x hx y hy he;rw[aK,kO]at hn;rcases dD.1 hx with ex|hx2<;>rcases dD.1 hy with ey|hy2
     ·rw[ex,ey]
     ·exact absurd (dP.2 ⟨y,hy2,by rw[← he,ex]⟩) hn.1
     ·exact absurd (dP.2 ⟨x,hx2,by rw[he,ey]⟩) hn.1
     ·exact ih hn.2 x hx2 y hy2 he
   exact e (hinj L h x hx' y hy' hab)
 ·intro h;have:∀(L:List LTerm),L.Nodup→(∀x∈L,x∈l)→(L.map LTerm.text).Nodup:=by
   intro L;induction L with
   |nil=>intro _ _;exact eM
   |cons z L ih=>
    intro hn hl;rw[kO]at hn;rw[aK,kO];refine⟨fun hz=>?_,ih hn.2 fun x hx=>hl x (by simp[hx])⟩;obtain⟨y,hy,he⟩:=dP.1 hz;have hzl:=hl z (by simp);have hyl:=hl y (by simp[hy]);have hs:=h (I9 y) (dP.2 ⟨y,hyl,rfl⟩) (I9 z) (dP.2 ⟨z,hzl,rfl⟩) he;have:=hp y hyl z hzl (Prod.ext he hs);exact hn.1 (this▸hy)
  exact this L hnd fun x hx=>(hm x).1 hx
def aNx(s:dF)(v:LTerm×Int)(b:Bool):Bool:=if v.1.kind=5 then b||(called s v.1.text).2.1 else b
def bEw(k:LTerm):Bool:=E1 k||(decide (k.kind=6) && !decide (k.text=[95]))
def mX(l:List LTerm)(n:Nat):Bool:=Q1 n fun j=>bEw (l.getD (2*j) default)
def X7(t:LTerm):Bool := !(decide (t.kind=6)&&decide (t.text=[36]))&&(!decide (t.kind=8)||mX t.kids ((t.kids.length+1) / 2))
def aZj(v:LTerm×Int)(b:Bool):Bool:=b&&X7 v.1
def isV(t:LTerm):Bool:=decide (t.kind=6) && !decide (t.text=[95])
def aGc(v:LTerm×Int)(r:List (Str×Str)×Str):List (Str×Str)×Str:=if isV v.1=true then aYf r (I9 v.1)else r
theorem aKl(s:dF):∀(l:List (LTerm×Int)) (b:Bool),A8 (aNx s) b l=(b||l.any fun v=>decide (v.1.kind=5)&&(called s v.1.text).2.1)
 | [],b=>by simp[A8]
 |v::l,b=>by
  show A8 (aNx s) (aNx s v b) l=_;rw[aKl s l,fC,aNx];by_cases h:v.1.kind=5<;>simp[h,lC]
theorem aJm:∀(l:List (LTerm×Int)) (b:Bool),A8 aZj b l=(b&&l.all fun v=>X7 v.1)
 | [],b=>by simp[A8]
 |v::l,b=>by
  show A8 aZj (aZj v b) l=_;rw[aJm l,fJ,aZj,pL]
def P0(t:LTerm):List LTerm:=((vis t 1).map (·.1)).filter isV
theorem aIv:∀(l:List (LTerm×Int)) (r:List (Str×Str)×Str),A8 aGc r l=(((l.map (·.1)).filter isV).map I9).foldl aYf r
 | [],r=>rfl
 |v::l,r=>by
  show A8 aGc (aGc v r) l=_;rw[aIv l,aGc,aK,aW];split<;>simp
mutual
def qZ(s:dF):LTerm→Bool
 | .mk k n x so ks rs=>(decide (k=5)&&(s.ops.find? fun o=>decide (o.name=x)).isNone)||hasFRL s ks
def hasFRL(s:dF):List LTerm→Bool
 | []=>false
 |t::l=>qZ s t||hasFRL s l
end
theorem U0(s:dF):∀l,hasFRL s l=l.any (qZ s)
 | []=>rfl
 |t::l=>by rw[hasFRL,U0 s l];rfl
theorem aKk(s:dF)(t:LTerm):qZ s t=((decide (t.kind=5)&&(s.ops.find? fun o=>decide (o.name=t.text)).isNone)||t.kids.any (qZ s)):=by
 cases t;rw[qZ,U0];rfl
def bEv(m:Bool)(i:Nat)(k:LTerm):Bool := !(m&&decide (i % 2=0) && !E1 k&&(!decide (k.kind=6) || !eK k.text))
mutual
def qX:LTerm→Bool
 | .mk k n x so ks rs=>keysRL (decide (k=8)) 0 ks
def keysRL(m:Bool)(i:Nat):List LTerm→Bool
 | []=>true
 |t::l=>(qX t&&bEv m i t)&&keysRL m (i+1) l
end
theorem aDt(m:Bool):∀(l:List LTerm) (i:Nat),keysRL m i l=Q1 l.length fun j=>qX (l.getD j default)&&bEv m (i+j) (l.getD j default)
 | [],i=>rfl
 |t :: l,i=>by
  rw[keysRL,aDt m l];rw[dK,aB,nD,nD];constructor
  ·rintro⟨h1,h2⟩ j hj;cases j with
   |zero=>exact h1
   |succ j=>
    have:=h2 j (by simpa using hj);rw[show i+(j+1)=i+1+j by omega];exact this
  ·intro h;refine⟨h 0 (by simp),fun j hj=>?_⟩;have:=h (j+1) (by simpa using hj);rw[show i+(j+1)=i+1+j by omega]at this;exact this
theorem aKh(t:LTerm):qX t=Q1 t.kids.length fun j=>qX (t.kids.getD j default)&&bEv (decide (t.kind=8)) j (t.kids.getD j default):=by
 cases t;rw[qX,aDt];simp only[dU];rfl
theorem aIf{f:LTerm→Bool}(t:LTerm)(d:Int):((vis t d).any fun v=>f v.1)=(f t||((t.kids++t.rest).any fun k=>(vis k (d+1)).any fun v=>f v.1)):=by
 have L:∀(l:List LTerm) (d:Int),((visL l d).any fun v=>f v.1)=l.any fun k=>(vis k d).any fun v=>f v.1:=by
  intro l;induction l with
  |nil=>intro d;rfl
  |cons x l ih=>intro d;rw[visL,List.any_append,ih,fC]
 rw[oN,fC,L]
theorem bMu{f:LTerm→Bool}(t:LTerm)(d:Int):((vis t d).all fun v=>f v.1)=(f t&&((t.kids++t.rest).all fun k=>(vis k (d+1)).all fun v=>f v.1)):=by
 have L:∀(l:List LTerm) (d:Int),((visL l d).all fun v=>f v.1)=l.all fun k=>(vis k d).all fun v=>f v.1:=by
  intro l;induction l with
  |nil=>intro d;rfl
  |cons x l ih=>intro d;rw[visL,List.all_append,ih,fJ]
 rw[oN,fJ,L]
theorem tK{t r:LTerm}(h:dQ t=true)(hr:r∈t.rest):r.kind=6∧eK r.text=true∧r.kids=[]∧r.rest=[]:=by
 have h2:=J7 h r hr;refine⟨?_,?_,h2.2.1,h2.2.2⟩;all_goals
  have z0:∀{a b c d},fX t a b c d false=true→t.rest=[]:=by
   intro a b c d h;simp only[fX,aB,cM,decide_eq_true_eq,aE,false_or]at h;exact h.2
  have r0:∀{s},qA t s=true→r.kind=6∧eK r.text=true:=by
   intro s h;simp only[qA,aB,cM,decide_eq_true_eq]at h;have hl:0<t.rest.length:=aFn hr;rcases h with h|h
   ·omega
   ·obtain⟨⟨⟨⟨h1,hk⟩,hn⟩,_⟩,_⟩:=h;have hx:∃x,t.rest=[x]:=aFo.1 h1;obtain⟨x,hx⟩:=hx;rw[hx]at hr hk hn;rw[bJ]at hr;subst hr;exact⟨hk,hn⟩
  have hh:=h
  unfold dQ at hh
  repeat' split at hh
  all_goals try simp only[aB]at hh
  all_goals first
   |exact absurd hr (by rw[z0 hh.2];simp)
   |exact(r0 hh.1).1
   |exact(r0 hh.1).2
   |exact(r0 hh.1.1).1
   |exact(r0 hh.1.1).2
   |cases hh
theorem aOm{s:dF}{x:Str}:(called s x).2.1=(s.ops.find? fun o=>decide (o.name=x)).isNone:=by
 unfold called X5;cases s.ops.find? fun o=>decide (o.name=x)with
 |some o=>rfl
 |none=>
  simp only;cases K8 s x with
  |some o=>rfl
  |none=>
   simp only;cases uD x<;>rfl
theorem aTm(s:dF):∀t:LTerm,wfT dQ t=true→∀d:Int,((vis t d).any fun v=>decide (v.1.kind=5)&&(called s v.1.text).2.1)=qZ s t:=
 fG (Q:=fun t=>wfT dQ t=true→∀d:Int,((vis t d).any fun v=>decide (v.1.kind=5)&&(called s v.1.text).2.1)=qZ s t) fun t hk hr hw d=>by
  have hw':=nF.1 hw;rw[aIf (f:=fun x=>decide (x.kind=5)&&(called s x.text).2.1),aKk,List.any_append,aOm];have e1:(t.kids.any fun k=>(vis k (d+1)).any fun v=>decide (v.1.kind=5)&&(called s v.1.text).2.1)=t.kids.any (qZ s):=by
   rw[dK,pY,pY];exact⟨fun⟨k,hm,h⟩=>⟨k,hm,by rw[← hk k hm (hw'.2 k hm) (d+1)];exact h⟩,fun⟨k,hm,h⟩=>⟨k,hm,by rw[hk k hm (hw'.2 k hm) (d+1)];exact h⟩⟩
  have e2:(t.rest.any fun k=>(vis k (d+1)).any fun v=>decide (v.1.kind=5)&&(called s v.1.text).2.1)=false:=by
   rw[oL];intro r hm;obtain⟨h6,_,h1,h2⟩:=tK hw'.1 hm;rw[wW h1 h2];simp[h6]
  rw[e1,e2,aF]
def dol(t:LTerm)(d:Int):Bool:=(vis t d).any fun v=>decide (v.1.kind=6)&&decide (v.1.text=[36])
theorem aUp:eK [36]=false:=by decide +kernel
theorem bHi:eK [95]=false:=by decide +kernel
theorem bFi{t:LTerm}{d:Int}(h:dol t d=false):¬(t.kind=6∧t.text=[36]):=by
 unfold dol at h;rw[aIf (f:=fun x=>decide (x.kind=6)&&decide (x.text=[36])),pF]at h;intro q;have:=h.1;simp[q.1,q.2]at this
theorem aIq{k:LTerm}(h:dQ k=true)(h6:k.kind=6)(hd:¬k.text=[36]):eK k.text = !decide (k.text=[95]):=by
 by_cases h5:k.text=[95]
 ·rw[h5,bHi];simp
 ·have:D4 k.text=false:=by simp[D4,h5,hd]
  have hh:dQ k=(if D4 k.text=true then decide (k.sort=bVz)&&fX k false true true false false else eK k.text&&eK k.sort&&fX k false true true false false):=by simp only[dQ,h6,Int.reduceEq,if_false,if_true]
  rw[hh,this,if_neg (by simp)]at h;simp only[aB]at h;rw[h.1.1];simp[h5]
theorem aTg:∀t:LTerm,wfT dQ t=true→∀d:Int,((vis t d).all fun v=>X7 v.1)=(!dol t d&&qX t):=
 fG (Q := fun t=>wfT dQ t=true→∀d:Int,((vis t d).all fun v=>X7 v.1)=(!dol t d&&qX t)) fun t hk hr hw d=>by
  have hw':=nF.1 hw;have ek:(t.kids.all fun k=>(vis k (d+1)).all fun v=>X7 v.1)=(t.kids.all fun k => !dol k (d+1)&&qX k):=by
   rw[dK,bF,bF];exact⟨fun h k hm=>by rw[← hk k hm (hw'.2 k hm) (d+1)];exact h k hm,fun h k hm=>by rw[hk k hm (hw'.2 k hm) (d+1)];exact h k hm⟩
  have er:(t.rest.all fun k=>(vis k (d+1)).all fun v=>X7 v.1)=true:=by
   rw[bF];intro r hm;obtain⟨h6,hn,h1,h2⟩:=tK hw'.1 hm;rw[wW h1 h2];have:¬r.text=[36]:=fun e=>by rw[e,aUp]at hn;cases hn
   simp[X7,h6,this]
  have dr:(t.rest.any fun k=>(vis k (d+1)).any fun v=>decide (v.1.kind=6)&&decide (v.1.text=[36]))=false:=by
   rw[oL];intro r hm;obtain⟨h6,hn,h1,h2⟩:=tK hw'.1 hm;rw[wW h1 h2];have:¬r.text=[36]:=fun e=>by rw[e,aUp]at hn;cases hn
   simp[this]
  have ed:dol t d=((decide (t.kind=6)&&decide (t.text=[36]))||t.kids.any fun k=>dol k (d+1)):=by
   unfold dol;rw[aIf (f:=fun x=>decide (x.kind=6)&&decide (x.text=[36])),List.any_append,dr,aF]
  rw[bMu,List.all_append,ek,er,Bool.and_true,ed,aKh];rw[dK];simp only[X7,aB,dB,pF,cM,bF,oL,nD];constructor
  ·rintro⟨⟨h1,h2⟩,h3⟩
   refine⟨⟨h1,fun k hm=>by simpa using(h3 k hm).1⟩,fun j hj=>?_⟩;have hm:=cC (d:=default) hj;refine⟨(h3 _ hm).2,?_⟩;unfold bEv;by_cases h8:t.kind=8
   ·by_cases he:j % 2=0
    ·rcases h2 with h2|h2
     ·simp[h8]at h2
     ·unfold mX at h2;rw[nD]at h2;have q:=h2 (j / 2) (by omega);rw[show 2*(j / 2)=j by omega]at q;have hd:=bFi (h3 _ hm).1;generalize t.kids.getD j default=k at *
      unfold bEw at q;by_cases hkk:E1 k=true
      ·simp[hkk]
      ·simp only[aBk]at hkk;rw[hkk,cV,aB,decide_eq_true_eq]at q;have hv:=aIq (nF.1 (hw'.2 _ hm)).1 q.1 (fun e=>hd ⟨q.1,e⟩);rw[hv,q.2];simp[q.1]
    ·simp[he]
   ·simp[h8]
  ·rintro⟨⟨h1,h2⟩,h3⟩;have hall:∀k∈t.kids,dol k (d+1)=false∧qX k=true:=fun k hm=>by
    obtain⟨j,hj,he⟩:=dG.1 hm;have:=(h3 j hj).1;rw[show t.kids.getD j default=k by simp[List.getD,hj,he]]at this;exact⟨by simpa using h2 k hm,this⟩
   refine⟨⟨h1,?_⟩,hall⟩;by_cases h8:t.kind=8
   ·right;unfold mX;rw[nD];intro j hj;have hj2:2*j<t.kids.length:=by omega
    have q:=(h3 (2*j) hj2).2;have hm:=cC (d:=default) hj2;have hd:=bFi (hall _ hm).1;generalize t.kids.getD (2*j) default=k at *
    unfold bEv at q;unfold bEw;by_cases hkk:E1 k=true
    ·simp[hkk]
    ·simp only[aBk]at hkk;simp only[h8,decide_true,hkk,Bool.not_false,Bool.and_true,Bool.true_and,show 2*j % 2=0 by omega,dB,pF,decide_eq_false_iff_not,Q4]at q;have q1:k.kind=6:=by simpa using q.1
     have q2:eK k.text=true:=by simpa using q.2
     have hv:=aIq (nF.1 (hw'.2 _ hm)).1 q1 (fun e=>hd ⟨q1,e⟩);rw[hv]at q2;simp[q1,q2]
   ·left;simp[h8]
structure LTest where
 op:Int
 term:LTerm
 text:Str
 n:Int
structure bVl where
 path:List Int
 test:LTest
instance:Inhabited LTest:=⟨⟨0,default,[],0⟩⟩
instance:Inhabited bVl:=⟨⟨[],default⟩⟩
section
variable {k:Nat} {l:List bVl}
end
abbrev zT:LTerm:=.mk 0 0 [] [] [] []
end Go.Proofs.YtdjcggcjlphdoaaGreatDoor

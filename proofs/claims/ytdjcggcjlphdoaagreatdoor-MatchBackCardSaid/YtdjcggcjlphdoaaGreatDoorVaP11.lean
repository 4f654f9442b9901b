/-
  Functions of the chapter, as plain functions of what they are given; no condition.
-/
import Derived.Test.YtdjcggcjlphdoaaGreatDoorTeP13
import Derived.Test.YtdjcggcjlphdoaaGreatDoorTeP12
set_option maxRecDepth 100000
set_option linter.unusedSimpArgs false
set_option linter.unusedVariables false
set_option maxHeartbeats 4000000
namespace Go.Proofs.YtdjcggcjlphdoaaGreatDoor
open Go Go.Vo
open Nat (reduceAdd reduceSub reduceMul reduceLeDiff reduceLT reduceEqDiff)
open Int (reduceNeg)
theorem X4{t:LTerm}(h:nodeB t=true):t.rest=[]∨∃r,t.rest=[r]∧r.kids=[]∧r.rest=[]:=by
 have h1:=kQ t h;have h2:=aEp h;rcases hr:t.rest with _|⟨x,_|⟨y,l⟩⟩
 ·exact .inl rfl
 ·rw[hr]at h2;exact .inr ⟨x,rfl,(h2 x (by simp)).2⟩
 ·rw[hr]at h1;simp at h1
theorem vJ{r:LTerm}(h1:r.kids=[])(h2:r.rest=[])(d:Int):vis r d=[(r,d)]:=by rw[pW,h1,h2];rfl
theorem aCx{t:LTerm}(h:nodeB t=true)(d:Int):visL t.rest d=t.rest.map fun r=>(r,d):=by
 rcases X4 h with e|⟨r,e,h1,h2⟩
 ·rw[e];rfl
 ·rw[e,visL,vJ h1 h2];rfl
theorem iO(t:LTerm):nodesT t=1+t.rest.length+nodesL t.kids:=by cases t;rw[nodesT];rfl
theorem aMu(t:LTerm):highT t=1+max t.rest.length (highL t.kids):=by cases t;rw[highT];rfl
theorem oU:∀(l:List LTerm),l.length≤nodesL l
 | []=>bK _
 |t::l=>by rw[nodesL,aQ,iO];have:=oU l;omega
theorem aHn:∀(t:LTerm),wfT nodeB t=true→∀d:Int,(vis t d).length=nodesT t:=
 fH fun t hk _ hw d=>by
  rw[gS]at hw;have L:∀(l:List LTerm),(∀x∈l,∀d:Int,(vis x d).length=nodesT x)→(visL l (d+1)).length=nodesL l:=by
   intro l;induction l with
   |nil=>intro _;rfl
   |cons x l ih=>intro h;rw[visL,nodesL,List.length_append,h x (by simp),ih (fun y hy=>h y (by simp[hy]))]
  rw[pW,oW,iO,aQ,List.length_append,L _ (fun x hx=>hk x hx (hw.2 x hx)),aCx hw.1,dP];omega
structure cIe(t:LTerm)(d:Int)(v:LTerm×Int):Prop where
 lo:d≤v.2
 hi:v.2+1≤d+highT t
 len:v.1.kids.length+v.1.rest.length≤nodesT t
theorem aSi:∀(t:LTerm),wfT nodeB t=true→∀d:Int,∀v∈vis t d,cIe t d v:=
 fH fun t hk _ hw d v hv=>by
  rw[gS]at hw;rw[pW,oW,cH,bM,aCx hw.1,dS]at hv;have hn:=iO t;have hh:=aMu t;have hl:=oU t.kids;rcases hv with rfl|hv|⟨r,hr,rfl⟩
  ·exact⟨Int.le_refl _,by dsimp only;omega,by dsimp only;omega⟩
  ·have L:∀(l:List LTerm),(∀x∈l,∀d:Int,∀v∈vis x d,cIe x d v)→v∈visL l (d+1)→d+1≤v.2∧v.2≤d+highL l∧v.1.kids.length+v.1.rest.length≤nodesL l:=by
    intro l;induction l with
    |nil=>intro _ h;simp[visL]at h
    |cons x l ih=>
     intro h hv;rw[highL,nodesL];rw[visL,bM]at hv;rcases hv with hv|hv
     ·have b:=h x (by simp) _ v hv;have b1:=b.lo;have b2:=b.hi;have b3:=b.len;exact⟨b1,by omega,by omega⟩
     ·have b:=ih (fun y hy=>h y (by simp[hy])) hv;omega
   have b:=L _ (fun x hx=>hk x hx (hw.2 x hx)) hv;exact⟨by omega,by omega,by omega⟩
  ·have e:t.rest.length=1∧r.kids=[]∧r.rest=[]:=by
    rcases X4 hw.1 with e|⟨r',e,h1,h2⟩
    ·rw[e]at hr;cases hr
    ·rw[e]at hr;obtain rfl:=aV.1 hr;rw[e];exact⟨rfl,h1,h2⟩
   refine⟨by dsimp only;omega,by dsimp only;omega,?_⟩;dsimp only;rw[e.2.1,e.2.2];simp
def cMk(a:Int)(l:List (LTerm×Int)):Prop:=(0≤a∧a+l.length≤1000000)∧∀v∈l,0≤v.2∧v.2≤1000∧v.1.kids.length+v.1.rest.length≤1000000
theorem aSj{t:LTerm}(h:iA nodeB t=true):cMk 0 (vis t 1++[]):=by
 rw[List.append_nil];simp only[iA,aA,decide_eq_true_eq]at h;refine⟨⟨Int.le_refl _,by rw[aHn t h.1.1];omega⟩,fun v hv=>?_⟩;have b:=aSi t h.1.1 1 v hv;have b1:=b.lo;have b2:=b.hi;have b3:=b.len;exact⟨by omega,by omega,by omega⟩
def findS(m:List (Str×Str))(x:Str):Option Str:=(m.find? fun p=>decide (x=p.1)).map (·.2)
theorem C1{m:List (Str×Str)}{p:Str×Str}{x:Str}:findS (m++[p]) x=match findS m x with|some y=>some y|none=>if x=p.1 then some p.2 else none:=by
 unfold findS;rw[List.find?_append];cases h:m.find? fun p=>decide (x=p.1)with
 |some q=>rfl
 |none=>
  simp only[Option.none_or,nY,List.find?_nil,Option.map_none];by_cases hx:x=p.1<;>simp[hx]
def bCk(r:List (Str×Str)×Str)(x:Str×Str):List (Str×Str)×Str:=
 match findS r.1 x.1 with
 |some old=>if old≠x.2∧(r.2=[]∨x.1<r.2)then(r.1,x.1)else r
 |none=>(r.1++[x],r.2)
def cHz(l:List (Str×Str)):Prop:=∀a∈l,∀b∈l,a.1=b.1→a.2=b.2
structure cBv(l:List (Str×Str))(r:List (Str×Str)×Str):Prop where
 has:∀x∈l,∃y,findS r.1 x.1=some y
 of:∀x y,findS r.1 x=some y→(x,y)∈l
 ok:r.2=[]↔∀x∈l,findS r.1 x.1=some x.2
theorem bCi{l:List (Str×Str)}{r:List (Str×Str)×Str}{x:Str×Str}(h:cBv l r)(hx:x.1 ≠ []):cBv (l++[x]) (bCk r x):=by
 unfold bCk;cases hf:findS r.1 x.1 with
 |some old=>
  simp only;have hm:(∀y∈l++[x],∃z,findS r.1 y.1=some z)∧∀y z,findS r.1 y=some z→(y,z)∈l++[x]:=by
   refine⟨fun y hy=>?_,fun y z hz=>dK _ (h.of y z hz)⟩;rcases bM.1 hy with hy|hy
   ·exact h.has y hy
   ·rw[aV]at hy;subst hy;exact⟨_,hf⟩
  split
  ·rename_i hc;refine⟨hm.1,hm.2,⟨fun e=>absurd e hx,fun e=>?_⟩⟩;have:=e x (by simp);rw[hf]at this;exact absurd (fR this) hc.1
  ·rename_i hc;refine⟨hm.1,hm.2,⟨fun e y hy=>?_,fun e=>h.ok.2 fun y hy=>e y (dK _ hy)⟩⟩;rcases bM.1 hy with hy|hy
   ·exact h.ok.1 e y hy
   ·rw[aV]at hy;subst hy;rw[hf];by_cases ho:old=y.2
    ·rw[ho]
    ·exact absurd ⟨ho,.inl e⟩ hc
 |none=>
  simp only;have hold:∀y∈l,findS (r.1++[x]) y.1=findS r.1 y.1:=fun y hy=>by
   obtain⟨z,hz⟩:=h.has y hy;rw[C1,hz]
  have hnew:findS (r.1++[x]) x.1=some x.2:=by rw[C1,hf];simp
  refine⟨fun y hy=>?_,fun y z hz=>?_,⟨fun e y hy=>?_,fun e=>h.ok.2 fun y hy=>?_⟩⟩
  ·rcases bM.1 hy with hy|hy
   ·rw[hold y hy];exact h.has y hy
   ·rw[aV]at hy;subst hy;exact⟨_,hnew⟩
  ·rw[C1]at hz;cases hy:findS r.1 y with
   |some q=>rw[hy]at hz;cases hz;exact dK _ (h.of _ _ hy)
   |none=>
    rw[hy]at hz;simp only at hz;split at hz
    ·rename_i e;cases hz;rw[e];simp
    ·cases hz
  ·rcases bM.1 hy with hy|hy
   ·rw[hold y hy];exact h.ok.1 e y hy
   ·rw[aV]at hy;subst hy;exact hnew
  ·rw[← hold y hy];exact e y (dK _ hy)
theorem aTl:∀(m l:List (Str×Str)) (r:List (Str×Str)×Str),cBv l r→(∀x∈m,x.1 ≠ [])→cBv (l++m) (m.foldl bCk r)
 | [],l,r,h,_=>by simpa using h
 |x::m,l,r,h,hn=>by
  have:=aTl m (l++[x]) (bCk r x) (bCi h (hn x (by simp))) (fun y hy=>hn y (by simp[hy]));simpa using this
theorem bMi{l:List (Str×Str)}(hn:∀x∈l,x.1 ≠ []):(l.foldl bCk ([],[])).2=[]↔cHz l:=by
 have h:=aTl l [] ([],[]) ⟨by simp,by simp[findS],by simp⟩ hn;rw[aJ]at h;rw[h.ok];constructor
 ·intro e a ha b hb hab;have h1:=e a ha;have h2:=e b hb;rw[hab,h2]at h1;exact(fR h1).symm
 ·intro e x hx;obtain⟨y,hy⟩:=h.has x hx;have q:y=x.2:=e (x.1,y) (h.of _ _ hy) x hx rfl;rw[hy,q]
def bHu{α:Type}[DecidableEq α](out:List α)(v:α):List α:=if v∈out then out else out++[v]
theorem aCd{α:Type}[DecidableEq α]:∀(m out:List α),out.Nodup→(m.foldl bHu out).Nodup∧∀x,x∈m.foldl bHu out↔x∈out∨x∈m
 | [],out,h=>⟨h,by simp⟩
 |v :: m,out,h=>by
  rw[nX];have h1:(bHu out v).Nodup∧∀x,x∈bHu out v↔x∈out∨x=v:=by
   unfold bHu;split
   ·rename_i hv;exact⟨h,fun x=>⟨.inl,fun e=>e.elim id fun e=>e▸hv⟩⟩
   ·rename_i hv;refine⟨?_,by simp⟩;rw[mB];exact⟨h,by simp,fun a ha b hb=>by rw[aV]at hb;subst hb;rintro rfl;exact hv ha⟩
  have h2:=aCd m _ h1.1;refine⟨h2.1,fun x=>?_⟩;rw[h2.2,h1.2,cH,or_assoc]
def bSi(l:List LTerm):Bool:=aKe l.length fun i=>aKe i fun j => !decide ((l.getD i default).text=(l.getD j default).text)
theorem bOf{l:List LTerm}:bSi l=true↔(l.map LTerm.text).Nodup:=by
 unfold bSi;rw[nM,List.nodup_iff_pairwise_ne,dQ];constructor
 ·intro h i j hi hj hij;simp only[dP]at hi hj;have:=h j hj;rw[nM]at this;have:=this i hij;simp only[eF,decide_eq_false_iff_not,List.getD,hi,hj,bL,gB]at this;simpa using fun e=>this e.symm
 ·intro h j hj;rw[nM];intro i hij;have hi:i<l.length:=by omega
  have:=h i j (by simpa using hi) (by simpa using hj) hij;simp only[List.getElem_map]at this;simp only[eF,decide_eq_false_iff_not,List.getD,hi,hj,bL,gB];exact fun e=>this e.symm
def N6(t:LTerm):Str×Str:=(t.text,t.sort)
theorem aVk{l:List LTerm}(hp:∀a∈l,∀b∈l,N6 a=N6 b→a=b):bSi (l.foldl bHu [])=true↔cHz (l.map N6):=by
 obtain⟨hnd,hm⟩:=aCd l [] fI;have hm:∀x,x∈l.foldl bHu []↔x∈l:=fun x=>by rw[hm];simp
 rw[bOf];generalize l.foldl bHu []=L at *
 constructor
 ·intro h a ha b hb hab
  obtain⟨x,hx,rfl⟩:=dS.1 ha;obtain⟨y,hy,rfl⟩:=dS.1 hb;have hx':=(hm x).2 hx;have hy':=(hm y).2 hy;by_cases e:x=y
  ·rw[e]
  ·exfalso;have hinj:∀(L:List LTerm),(L.map LTerm.text).Nodup→∀x∈L,∀y∈L,x.text=y.text→x=y:=by
    intro L;induction L with
    |nil=>intro _ x hx;cases hx
    |cons z L ih=>
     intro hn x hx y hy he;rw[aK,kT]at hn;rcases cH.1 hx with ex|hx2<;>rcases cH.1 hy with ey|hy2
     ·rw[ex,ey]
     ·exact absurd (dS.2 ⟨y,hy2,by rw[← he,ex]⟩) hn.1
     ·exact absurd (dS.2 ⟨x,hx2,by rw[he,ey]⟩) hn.1
     ·exact ih hn.2 x hx2 y hy2 he
   exact e (hinj L h x hx' y hy' hab)
 ·intro h;have:∀(L:List LTerm),L.Nodup→(∀x∈L,x∈l)→(L.map LTerm.text).Nodup:=by
   intro L;induction L with
   |nil=>intro _ _;exact fI
   |cons z L ih=>
    intro hn hl;rw[kT]at hn;rw[aK,kT];refine⟨fun hz=>?_,ih hn.2 fun x hx=>hl x (by simp[hx])⟩;obtain⟨y,hy,he⟩:=dS.1 hz;have hzl:=hl z (by simp);have hyl:=hl y (by simp[hy]);have hs:=h (N6 y) (dS.2 ⟨y,hyl,rfl⟩) (N6 z) (dS.2 ⟨z,hzl,rfl⟩) he;have:=hp y hyl z hzl (Prod.ext he hs);exact hn.1 (this▸hy)
  exact this L hnd fun x hx=>(hm x).1 hx
def aQm(s:dX)(v:LTerm×Int)(b:Bool):Bool:=if v.1.kind=5 then b||(lL s v.1.text).2.1 else b
def bJr(k:LTerm):Bool:=isKey k||(decide (k.kind=6) && !decide (k.text=[95]))
def nG(l:List LTerm)(n:Nat):Bool:=aKe n fun j=>bJr (l.getD (2*j) default)
def T0(t:LTerm):Bool := !(decide (t.kind=6)&&decide (t.text=[36]))&&(!decide (t.kind=8)||nG t.kids ((t.kids.length+1) / 2))
def bDs(v:LTerm×Int)(b:Bool):Bool:=b&&T0 v.1
def isV(t:LTerm):Bool:=decide (t.kind=6) && !decide (t.text=[95])
def aHt(v:LTerm×Int)(r:List (Str×Str)×Str):List (Str×Str)×Str:=if isV v.1=true then bCk r (N6 v.1)else r
theorem aMv(s:dX):∀(l:List (LTerm×Int)) (b:Bool),oB (aQm s) b l=(b||l.any fun v=>decide (v.1.kind=5)&&(lL s v.1.text).2.1)
 | [],b=>by simp[oB]
 |v::l,b=>by
  show oB (aQm s) (aQm s v b) l=_;rw[aMv s l,fC,aQm];by_cases h:v.1.kind=5<;>simp[h,Bool.or_assoc]
theorem aAn:∀(l:List (LTerm×Int)) (b:Bool),oB bDs b l=(b&&l.all fun v=>T0 v.1)
 | [],b=>by simp[oB]
 |v::l,b=>by
  show oB bDs (bDs v b) l=_;rw[aAn l,oQ,bDs,wH]
def J6(t:LTerm):List LTerm:=((vis t 1).map (·.1)).filter isV
theorem aLg:∀(l:List (LTerm×Int)) (r:List (Str×Str)×Str),oB aHt r l=(((l.map (·.1)).filter isV).map N6).foldl bCk r
 | [],r=>rfl
 |v::l,r=>by
  show oB aHt (aHt v r) l=_;rw[aLg l,aHt,aK,bB];split<;>simp
mutual
def T6(s:dX):LTerm→Bool
 | .mk k n x so ks rs=>(decide (k=5)&&(s.ops.find? fun o=>decide (o.name=x)).isNone)||hasFRL s ks
def hasFRL(s:dX):List LTerm→Bool
 | []=>false
 |t::l=>T6 s t||hasFRL s l
end
theorem Y1(s:dX):∀l,hasFRL s l=l.any (T6 s)
 | []=>rfl
 |t::l=>by rw[hasFRL,Y1 s l];rfl
theorem bFj(s:dX)(t:LTerm):T6 s t=((decide (t.kind=5)&&(s.ops.find? fun o=>decide (o.name=t.text)).isNone)||t.kids.any (T6 s)):=by
 cases t;rw[T6,Y1];rfl
def bPg(m:Bool)(i:Nat)(k:LTerm):Bool := !(m&&decide (i % 2=0) && !isKey k&&(!decide (k.kind=6) || !eQ k.text))
mutual
def yX:LTerm→Bool
 | .mk k n x so ks rs=>keysRL (decide (k=8)) 0 ks
def keysRL(m:Bool)(i:Nat):List LTerm→Bool
 | []=>true
 |t::l=>(yX t&&bPg m i t)&&keysRL m (i+1) l
end
theorem aFd(m:Bool):∀(l:List LTerm) (i:Nat),keysRL m i l=aKe l.length fun j=>yX (l.getD j default)&&bPg m (i+j) (l.getD j default)
 | [],i=>rfl
 |t :: l,i=>by
  rw[keysRL,aFd m l];rw[fA,aA,nM,nM];constructor
  ·rintro⟨h1,h2⟩ j hj;cases j with
   |zero=>exact h1
   |succ j=>
    have:=h2 j (by simpa using hj);rw[show i+(j+1)=i+1+j by omega];exact this
  ·intro h;refine⟨h 0 (by simp),fun j hj=>?_⟩;have:=h (j+1) (by simpa using hj);rw[show i+(j+1)=i+1+j by omega]at this;exact this
theorem aMs(t:LTerm):yX t=aKe t.kids.length fun j=>yX (t.kids.getD j default)&&bPg (decide (t.kind=8)) j (t.kids.getD j default):=by
 cases t;rw[yX,aFd];simp only[dM];rfl
theorem uY{f:LTerm→Bool}(t:LTerm)(d:Int):((vis t d).any fun v=>f v.1)=(f t||((t.kids++t.rest).any fun k=>(vis k (d+1)).any fun v=>f v.1)):=by
 have L:∀(l:List LTerm) (d:Int),((visL l d).any fun v=>f v.1)=l.any fun k=>(vis k d).any fun v=>f v.1:=by
  intro l;induction l with
  |nil=>intro d;rfl
  |cons x l ih=>intro d;rw[visL,List.any_append,ih,fC]
 rw[pW,fC,L]
theorem bRv{f:LTerm→Bool}(t:LTerm)(d:Int):((vis t d).all fun v=>f v.1)=(f t&&((t.kids++t.rest).all fun k=>(vis k (d+1)).all fun v=>f v.1)):=by
 have L:∀(l:List LTerm) (d:Int),((visL l d).all fun v=>f v.1)=l.all fun k=>(vis k d).all fun v=>f v.1:=by
  intro l;induction l with
  |nil=>intro d;rfl
  |cons x l ih=>intro d;rw[visL,List.all_append,ih,oQ]
 rw[pW,oQ,L]
theorem uC{t r:LTerm}(h:nodeB t=true)(hr:r∈t.rest):r.kind=6∧eQ r.text=true∧r.kids=[]∧r.rest=[]:=by
 have h2:=aEp h r hr;refine⟨?_,?_,h2.2.1,h2.2.2⟩;all_goals
  have z0:∀{a b c d},gK t a b c d false=true→t.rest=[]:=by
   intro a b c d h;simp only[gK,aA,cC,decide_eq_true_eq,aE,false_or]at h;exact h.2
  have r0:∀{s},oH t s=true→r.kind=6∧eQ r.text=true:=by
   intro s h;simp only[oH,aA,cC,decide_eq_true_eq]at h;have hl:0<t.rest.length:=iI hr;rcases h with h|h
   ·omega
   ·obtain⟨⟨⟨⟨h1,hk⟩,hn⟩,_⟩,_⟩:=h;have hx:∃x,t.rest=[x]:=nI.1 h1;obtain⟨x,hx⟩:=hx;rw[hx]at hr hk hn;rw[aV]at hr;subst hr;exact⟨hk,hn⟩
  have hh:=h
  unfold nodeB at hh
  repeat' split at hh
  all_goals try simp only[aA]at hh
  all_goals first
   |exact absurd hr (by rw[z0 hh.2];simp)
   |exact(r0 hh.1).1
   |exact(r0 hh.1).2
   |exact(r0 hh.1.1).1
   |exact(r0 hh.1.1).2
   |cases hh
theorem aRe{s:dX}{x:Str}:(lL s x).2.1=(s.ops.find? fun o=>decide (o.name=x)).isNone:=by
 unfold lL bDz;cases s.ops.find? fun o=>decide (o.name=x)with
 |some o=>rfl
 |none=>
  simp only;cases aJm s x with
  |some o=>rfl
  |none=>
   simp only;cases C5 x<;>rfl
theorem aWt(s:dX):∀t:LTerm,wfT nodeB t=true→∀d:Int,((vis t d).any fun v=>decide (v.1.kind=5)&&(lL s v.1.text).2.1)=T6 s t:=
 fH (Q:=fun t=>wfT nodeB t=true→∀d:Int,((vis t d).any fun v=>decide (v.1.kind=5)&&(lL s v.1.text).2.1)=T6 s t) fun t hk hr hw d=>by
  have hw':=gS.1 hw;rw[uY (f:=fun x=>decide (x.kind=5)&&(lL s x.text).2.1),bFj,List.any_append,aRe];have e1:(t.kids.any fun k=>(vis k (d+1)).any fun v=>decide (v.1.kind=5)&&(lL s v.1.text).2.1)=t.kids.any (T6 s):=by
   rw[fA,gY,gY];exact⟨fun⟨k,hm,h⟩=>⟨k,hm,by rw[← hk k hm (hw'.2 k hm) (d+1)];exact h⟩,fun⟨k,hm,h⟩=>⟨k,hm,by rw[hk k hm (hw'.2 k hm) (d+1)];exact h⟩⟩
  have e2:(t.rest.any fun k=>(vis k (d+1)).any fun v=>decide (v.1.kind=5)&&(lL s v.1.text).2.1)=false:=by
   rw[fQ];intro r hm;obtain⟨h6,_,h1,h2⟩:=uC hw'.1 hm;rw[vJ h1 h2];simp[h6]
  rw[e1,e2,aF]
def dol(t:LTerm)(d:Int):Bool:=(vis t d).any fun v=>decide (v.1.kind=6)&&decide (v.1.text=[36])
theorem aYe:eQ [36]=false:=by decide +kernel
theorem bLw:eQ [95]=false:=by decide +kernel
theorem bKf{t:LTerm}{d:Int}(h:dol t d=false):¬(t.kind=6∧t.text=[36]):=by
 unfold dol at h;rw[uY (f:=fun x=>decide (x.kind=6)&&decide (x.text=[36])),gR]at h;intro q;have:=h.1;simp[q.1,q.2]at this
theorem aKw{k:LTerm}(h:nodeB k=true)(h6:k.kind=6)(hd:¬k.text=[36]):eQ k.text = !decide (k.text=[95]):=by
 by_cases h5:k.text=[95]
 ·rw[h5,bLw];simp
 ·have:yM k.text=false:=by simp[yM,h5,hd]
  have hh:nodeB k=(if yM k.text=true then decide (k.sort=cBt)&&gK k false true true false false else eQ k.text&&eQ k.sort&&gK k false true true false false):=by simp only[nodeB,h6,Int.reduceEq,if_false,if_true]
  rw[hh,this,if_neg (by simp)]at h;simp only[aA]at h;rw[h.1.1];simp[h5]
theorem aWn:∀t:LTerm,wfT nodeB t=true→∀d:Int,((vis t d).all fun v=>T0 v.1)=(!dol t d&&yX t):=
 fH (Q := fun t=>wfT nodeB t=true→∀d:Int,((vis t d).all fun v=>T0 v.1)=(!dol t d&&yX t)) fun t hk hr hw d=>by
  have hw':=gS.1 hw;have ek:(t.kids.all fun k=>(vis k (d+1)).all fun v=>T0 v.1)=(t.kids.all fun k => !dol k (d+1)&&yX k):=by
   rw[fA,bF,bF];exact⟨fun h k hm=>by rw[← hk k hm (hw'.2 k hm) (d+1)];exact h k hm,fun h k hm=>by rw[hk k hm (hw'.2 k hm) (d+1)];exact h k hm⟩
  have er:(t.rest.all fun k=>(vis k (d+1)).all fun v=>T0 v.1)=true:=by
   rw[bF];intro r hm;obtain⟨h6,hn,h1,h2⟩:=uC hw'.1 hm;rw[vJ h1 h2];have:¬r.text=[36]:=fun e=>by rw[e,aYe]at hn;cases hn
   simp[T0,h6,this]
  have dr:(t.rest.any fun k=>(vis k (d+1)).any fun v=>decide (v.1.kind=6)&&decide (v.1.text=[36]))=false:=by
   rw[fQ];intro r hm;obtain⟨h6,hn,h1,h2⟩:=uC hw'.1 hm;rw[vJ h1 h2];have:¬r.text=[36]:=fun e=>by rw[e,aYe]at hn;cases hn
   simp[this]
  have ed:dol t d=((decide (t.kind=6)&&decide (t.text=[36]))||t.kids.any fun k=>dol k (d+1)):=by
   unfold dol;rw[uY (f:=fun x=>decide (x.kind=6)&&decide (x.text=[36])),List.any_append,dr,aF]
  rw[bRv,List.all_append,ek,er,bA,ed,aMs];rw[fA];simp only[T0,aA,eF,gR,cC,bF,fQ,nM];constructor
  ·rintro⟨⟨h1,h2⟩,h3⟩
   refine⟨⟨h1,fun k hm=>by simpa using(h3 k hm).1⟩,fun j hj=>?_⟩;have hm:=cT (d:=default) hj;refine⟨(h3 _ hm).2,?_⟩;unfold bPg;by_cases h8:t.kind=8
   ·by_cases he:j % 2=0
    ·rcases h2 with h2|h2
     ·simp[h8]at h2
     ·unfold nG at h2;rw[nM]at h2;have q:=h2 (j / 2) (by omega);rw[show 2*(j / 2)=j by omega]at q;have hd:=bKf (h3 _ hm).1;generalize t.kids.getD j default=k at *
      unfold bJr at q;by_cases hkk:isKey k=true
      ·simp[hkk]
      ·simp only[xR]at hkk;rw[hkk,cU,aA,decide_eq_true_eq]at q;have hv:=aKw (gS.1 (hw'.2 _ hm)).1 q.1 (fun e=>hd ⟨q.1,e⟩);rw[hv,q.2];simp[q.1]
    ·simp[he]
   ·simp[h8]
  ·rintro⟨⟨h1,h2⟩,h3⟩;have hall:∀k∈t.kids,dol k (d+1)=false∧yX k=true:=fun k hm=>by
    obtain⟨j,hj,he⟩:=dC.1 hm;have:=(h3 j hj).1;rw[show t.kids.getD j default=k by simp[List.getD,hj,he]]at this;exact⟨by simpa using h2 k hm,this⟩
   refine⟨⟨h1,?_⟩,hall⟩;by_cases h8:t.kind=8
   ·right;unfold nG;rw[nM];intro j hj;have hj2:2*j<t.kids.length:=by omega
    have q:=(h3 (2*j) hj2).2;have hm:=cT (d:=default) hj2;have hd:=bKf (hall _ hm).1;generalize t.kids.getD (2*j) default=k at *
    unfold bPg at q;unfold bJr;by_cases hkk:isKey k=true
    ·simp[hkk]
    ·simp only[xR]at hkk;simp only[h8,decide_true,hkk,aS,bA,aI,show 2*j % 2=0 by omega,eF,gR,decide_eq_false_iff_not,Decidable.not_not]at q;have q1:k.kind=6:=by simpa using q.1
     have q2:eQ k.text=true:=by simpa using q.2
     have hv:=aKw (gS.1 (hw'.2 _ hm)).1 q1 (fun e=>hd ⟨q1,e⟩);rw[hv]at q2;simp[q1,q2]
   ·left;simp[h8]
structure LTest where
 op:Int
 term:LTerm
 text:Str
 n:Int
structure cBd where
 path:List Int
 test:LTest
instance:Inhabited LTest:=⟨⟨0,default,[],0⟩⟩
instance:Inhabited cBd:=⟨⟨[],default⟩⟩
section
variable {k:Nat} {l:List cBd}
end
abbrev zT:LTerm:=.mk 0 0 [] [] [] []
end Go.Proofs.YtdjcggcjlphdoaaGreatDoor

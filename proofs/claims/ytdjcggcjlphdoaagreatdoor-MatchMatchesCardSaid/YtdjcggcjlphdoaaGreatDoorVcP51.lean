/-
  Functions of the chapter, as plain functions of what they are given; no condition.
-/
import Derived.Test.YtdjcggcjlphdoaaGreatDoorVaP56
set_option maxRecDepth 100000
set_option linter.unusedSimpArgs false
set_option linter.unusedVariables false
set_option maxHeartbeats 4000000
namespace Go.Proofs.YtdjcggcjlphdoaaGreatDoor
open Go Go.Vo
open Nat (reduceAdd reduceSub reduceMul reduceLeDiff reduceLT reduceEqDiff)
open Int (reduceNeg)
abbrev LPr:=Str×LTerm
abbrev LSub:=List LPr
def prT(p:LPr):List AV:=.s p.1::aM p.2
def avu(u:LSub):AV:=.sl (u.flatMap prT) u.length
def avw(l:List LSub):AV:=.sl (l.map avu) l.length
theorem S2(p:LPr):(prT p).length=7:=by rw[prT,aI];rfl
theorem aRr(p:LPr):persL (prT p)=true:=by rw[prT,persL,D0];rfl
theorem jG{u:LSub}:persL (u.flatMap prT)=true:=lT fun x _=>aRr x
section
variable {k:Nat} {u:LSub}
theorem bEh(h:k<u.length):((u.flatMap prT).drop (k*7)).take 7=prT (u.getD k default):=by
 rw[sD S2];simp[h,List.getD]
theorem bJa(h:k<u.length):(u.flatMap prT)[k*7]? = some (.s (u.getD k default).1):=by
 have:=aKn S2 u k (j:=0) (by omega);simpa[h,List.getD,prT]using this
theorem fQ:(u.flatMap prT).length=u.length*7:=pW S2 u
theorem bIz:(u.flatMap prT).take (k*7)=(u.take k).flatMap prT:=yC S2 u k
theorem aGn:(u.flatMap prT).drop (k*7)=(u.drop k).flatMap prT:=yD S2 u k
end
attribute [go_sem] bEh bJa fQ bIz jG aRr
theorem aJi(u:LSub):pers (avu u)=true:=jG
theorem iW{l:List LSub}:persL (l.map avu)=true:=by
 induction l with
 |nil=>rfl
 |cons u l ih=>rw[aK,persL,aJi,ih];rfl
theorem gS(l:List LSub):pers (avw l)=true:=iW
def mOf(u:LSub)(x:Str):Option LTerm:=(u.find? fun p=>decide (p.1=x)).map (·.2)
def sX(o:Option LTerm):AV:=match o with
 |some t=>.tup [elT t,.b true]
 |none=>.tup [elT zT,.b false]
theorem bAd{u:LSub}{x:Str}{k:Nat}(h:k<u.length)(h1:∀j,j<k→¬(u.getD j default).1=x)(h2:(u.getD k default).1=x):mOf u x=some (u.getD k default).2:=by
 induction u generalizing k with
 |nil=>cases h
 |cons p u ih=>
  rw[mOf,sM];cases k with
  |zero=>rw[zt (by simpa using h2)];rfl
  |succ k=>
   have:=h1 0 (by omega);rw[zf (by simpa using this)];have:=ih (k:=k) (by simpa using h) (fun j hj=>by simpa using h1 (j+1) (by omega)) (by simpa using h2);rw[mOf]at this;rw[eU];exact this
theorem bAe{u:LSub}{x:Str}(h1:∀j,j<u.length→¬(u.getD j default).1=x):mOf u x=none:=by
 induction u with
 |nil=>rfl
 |cons p u ih=>
  rw[mOf,sM];have:=h1 0 (by simp);rw[zf (by simpa using this)];have:=ih (fun j hj=>by simpa using h1 (j+1) (by simpa using hj));rwa[mOf]at this
theorem bFq(u:LSub)(x:Str)(hu:u.length≤1000000000): CT 65 [avu u,.s x] (sX (mOf u x)):=by
 refine cW cI Tryz.func65 g0 ?_
 ·generalize hR:((sX (mOf u x)):AV)=R;simp -implicitDefEqProofs (disch:=omega) only[Tryz.f65,go_sem,List.replicate,simprocAttr,avu];refine cO (fun(q:Nat×List AObj)=>(rp 5 .k (.j::.k::.j::.k::.k::.v (.i .i64 (q.1:Nat))::(rp 10 .j [.k])))) (fun q=>(.box false [.i .i64 0,.i .i64 0,.s [],.s [],.e0,.e0]::q.2)) (fun q=>q.1≤u.length∧∀j,j<q.1→¬(u.getD j default).1=x) (fun q=>u.length-q.1) ((0,[])) ⟨aR _,fun j h=>by omega⟩ rfl (by simp[fO]) ?_;rintro⟨k,g⟩ j ⟨hk,ha⟩;dsimp only at hk ha;by_cases hlt:k<u.length
  ·have hki:(k:Int)<((u.length:Nat):Int):=by omega
   refine zh (zA2 (zt hki) (zA2 @prT.eq_1 @aI)) ?_;(refine zx0 (zA2 (zt hki) (zA2 @prT.eq_1 @aI)) ?_;repeat' first|exact trivial|refine zJ ?_ ?_|refine zH fun hc=>?_)
   ·subst hR;rw[bAd hlt ha hc,sX,elT,aI];exact aV rfl (by simp[pers,persL,avt,eW])
   ·exact⟨(k+1,_),⟨by dsimp only;omega,fun j hj=>(by rcases qJ.1 hj with h1|rfl;exact ha j h1;exact hc)⟩,by dsimp only;omega,rfl,by simp⟩
  ·have hki:¬(k:Int)<((u.length:Nat):Int):=by omega
   refine zh (zf hki) ?_;subst hR;rw[bAe (fun j hj=>ha j (by omega)),sX,elT,aI];exact .inr ⟨by exact⟨⟨rfl,rfl,rfl,rfl,rfl,rfl,trivial⟩,rfl,trivial⟩,eM,fun i hi=>absurd hi (by show ¬i ∈ [];simp)⟩
def gtS(a b:Str):Bool := !(Op.bytesLess a b||decide (a=b))
def aHe(u:LSub)(x:Str):Nat→Nat
 |0=>0
 |k+1=>if gtS (u.getD k default).1 x=true then aHe u x k else k+1
def Y1(u:LSub)(x:Str)(t:LTerm):LSub:=u.take (aHe u x u.length)++(x,t)::u.drop (aHe u x u.length)
def kG(s:dF)(v t:LTerm)(u:LSub):List LSub:=
 if mP s (jU s t) v.sort=true then(if v.text=[95]then [u]else match mOf u v.text with
  |some o=>if o=t then [u]else []
  |none=>[Y1 u v.text t])else []
abbrev MR:=List LSub×Bool
def pH(b:Bool)(l:List LSub):MR:=if 1000<l.length then([],true)else(l,b)
def gZ(s:dF)(p t:LTerm)(u:LSub):List LSub:=if p.kind=6 then kG s p t u else if p=t then [u]else []
def D6(s:dF)(p t:LTerm)(l:List LSub)(b:Bool):MR:=pH b (l.flatMap (gZ s p t))
structure jV where
 u:LSub
 left:List LTerm
instance:Inhabited jV:=⟨⟨[],[]⟩⟩
def T6(l:List LTerm)(i:Nat):List LTerm:=l.take i++l.drop (i+2)
section
variable (A:LTerm→LTerm→List LSub→Bool→MR) (s:dF)
def jH:List LTerm→List LTerm→List LSub→Bool→MR
 |p::ps,t::ts,l,b=>jH ps ts (A p t l b).1 (A p t l b).2
 |_,_,l,b=>(l,b)
def mO(key:LTerm)(w:jV)(k:Nat):List LSub:=
 match (if key.kind=6 then mOf w.u key.text else some key)with
 |none=>kG s key (w.left.getD (2*k) default) w.u
 |some a=>if a=w.left.getD (2*k) default then [w.u]else []
def xQ(key value:LTerm)(w:jV)(k:Nat)(b:Bool):List jV×Bool:=
 ((A value (w.left.getD (2*k+1) default) (mO s key w k) b).1.map fun u=>⟨u,T6 w.left (2*k)⟩,(A value (w.left.getD (2*k+1) default) (mO s key w k) b).2)
def mC(key value:LTerm)(w:jV):Nat→Bool→List jV×Bool
 |0,b=>([],b)
 |k+1,b=>((mC key value w k b).1++(xQ A s key value w k (mC key value w k b).2).1,(xQ A s key value w k (mC key value w k b).2).2)
def lE(key value:LTerm):List jV→Bool→List jV×Bool
 | [],b=>([],b)
 |w::ws,b=>((mC A s key value w (w.left.length / 2) b).1++(lE key value ws (mC A s key value w (w.left.length / 2) b).2).1,(lE key value ws (mC A s key value w (w.left.length / 2) b).2).2)
def nJ(key value:LTerm)(ws:List jV)(b:Bool):List jV×Bool:=
 if 1000<(lE A s key value ws b).1.length then([],true)else lE A s key value ws b
def lX(p:LTerm):Nat→List jV×Bool→List jV×Bool
 |0,r=>r
 |k+1,r=>nJ A s (p.kids.getD (2*k) default) (p.kids.getD (2*k+1) default) (lX p k r).1 (lX p k r).2
def sY(p:LTerm)(w:jV):List LSub:=
 if 0<p.rest.length then kG s (p.rest.getD 0 default) (.mk 8 0 [] [] w.left []) w.u else if w.left.length=0 then [w.u]else []
def lK(p t:LTerm)(l:List LSub)(b:Bool):MR:=
 pH (lX A s p (p.kids.length / 2) (l.map (jV.mk · t.kids),b)).2 ((lX A s p (p.kids.length / 2) (l.map (jV.mk · t.kids),b)).1.flatMap (sY s p))
end
def dX(s:dF):Nat→LTerm→LTerm→List LSub→Bool→MR
 |0,_,_,_,b=>([],b)
 |n + 1,p,t,l,b=>
  if p.kind=5 then(if t.kind=5∧t.text=p.text∧t.kids.length=p.kids.length then jH (dX s n) p.kids t.kids l b else([],b))
  else if p.kind=7 then(if t.kind=7∧p.kids.length≤t.kids.length∧(p.rest.length=0→t.kids.length≤p.kids.length)then
   (if 0<p.rest.length then D6 s (p.rest.getD 0 default) (.mk 7 0 [] [] (t.kids.drop p.kids.length) []) (jH (dX s n) p.kids (t.kids.take p.kids.length) l b).1 (jH (dX s n) p.kids (t.kids.take p.kids.length) l b).2
    else jH (dX s n) p.kids (t.kids.take p.kids.length) l b)else([],b))
  else if p.kind=8 then(if t.kind=8 then lK (dX s n) s p t l b else([],b))
  else D6 s p t l b
end Go.Proofs.YtdjcggcjlphdoaaGreatDoor

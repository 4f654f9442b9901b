/-
  Functions of the chapter, as plain functions of what they are given; no condition.
-/
import Derived.Test.YtdjcggcjlphdoaaGreatDoorVaP15
import Derived.Test.YtdjcggcjlphdoaaGreatDoorSoP13
import Derived.Test.YtdjcggcjlphdoaaGreatDoorSoP12
import Derived.Test.YtdjcggcjlphdoaaGreatDoorVoP21
import Derived.Test.YtdjcggcjlphdoaaGreatDoorTeP12
import Derived.Test.YtdjcggcjlphdoaaGreatDoorTeP13
import Derived.Test.YtdjcggcjlphdoaaGreatDoorVaP14
import Derived.Test.YtdjcggcjlphdoaaGreatDoorVoP20
import Derived.Test.YtdjcggcjlphdoaaGreatDoorVaP13
set_option maxRecDepth 100000
set_option linter.unusedSimpArgs false
set_option linter.unusedVariables false
set_option maxHeartbeats 4000000
namespace Go.Proofs.YtdjcggcjlphdoaaGreatDoor
open Go Go.Vo Go.Shelf Go.RowKit
open Nat (reduceAdd reduceSub reduceMul reduceLeDiff reduceLT reduceEqDiff)
open Int (reduceNeg)
end Go.Proofs.YtdjcggcjlphdoaaGreatDoor
namespace Go.Proofs.YtdjcggcjlphdoaaGreatDoor
open Go Go.Vo
open Nat (reduceAdd reduceSub reduceMul reduceLeDiff reduceLT reduceEqDiff)
open Int (reduceNeg)
def cLu(a:cBd):Nat:=1+a.path.length+a.test.text.length / 40
def cAn:List cBd→Nat
 | []=>0
 |a::l=>cLu a+cAn l
@[simp] theorem cAm:cAn []=0:=rfl
abbrev LPr:=Str×LTerm
abbrev LSub:=List LPr
def prT(p:LPr):List AV:=.s p.1::aP p.2
def avu(u:LSub):AV:=.sl (u.flatMap prT) u.length
def avw(l:List LSub):AV:=.sl (l.map avu) l.length
theorem W4(p:LPr):(prT p).length=7:=by rw[prT,aW];rfl
theorem aUq(p:LPr):persL (prT p)=true:=by rw[prT,persL,wJ];rfl
theorem lZ{u:LSub}:persL (u.flatMap prT)=true:=nA fun x _=>aUq x
section
variable {k:Nat} {u:LSub}
theorem bIz(h:k<u.length):((u.flatMap prT).drop (k*7)).take 7=prT (u.getD k default):=by
 rw[vZ W4];simp[h,List.getD]
theorem bNs(h:k<u.length):(u.flatMap prT)[k*7]? = some (.s (u.getD k default).1):=by
 have:=aMy W4 u k (j:=0) (by omega);simpa[h,List.getD,prT]using this
theorem iB:(u.flatMap prT).length=u.length*7:=sF W4 u
theorem bNr:(u.flatMap prT).take (k*7)=(u.take k).flatMap prT:=O9 W4 u k
theorem bNt:(u.flatMap prT).drop (k*7)=(u.drop k).flatMap prT:=zK W4 u k
end
attribute [go_sem] bIz bNs iB bNr lZ aUq
theorem bJa(u:LSub):pers (avu u)=true:=lZ
theorem M8{l:List LSub}:persL (l.map avu)=true:=by
 induction l with
 |nil=>rfl
 |cons u l ih=>rw[aK,persL,bJa,ih];rfl
theorem uG(l:List LSub):pers (avw l)=true:=M8
def mOf(u:LSub)(x:Str):Option LTerm:=(u.find? fun p=>decide (p.1=x)).map (·.2)
def T3(o:Option LTerm):AV:=match o with
 |some t=>.tup [elT t,.b true]
 |none=>.tup [elT zT,.b false]
theorem bEr{u:LSub}{x:Str}{k:Nat}(h:k<u.length)(h1:∀j,j<k→¬(u.getD j default).1=x)(h2:(u.getD k default).1=x):mOf u x=some (u.getD k default).2:=by
 induction u generalizing k with
 |nil=>cases h
 |cons p u ih=>
  rw[mOf,nY];cases k with
  |zero=>rw[zt (by simpa using h2)];rfl
  |succ k=>
   have:=h1 0 (by omega);rw[zf (by simpa using this)];have:=ih (k:=k) (by simpa using h) (fun j hj=>by simpa using h1 (j+1) (by omega)) (by simpa using h2);rw[mOf]at this;rw[dE];exact this
theorem bEs{u:LSub}{x:Str}(h1:∀j,j<u.length→¬(u.getD j default).1=x):mOf u x=none:=by
 induction u with
 |nil=>rfl
 |cons p u ih=>
  rw[mOf,nY];have:=h1 0 (by simp);rw[zf (by simpa using this)];have:=ih (fun j hj=>by simpa using h1 (j+1) (by simpa using hj));rwa[mOf]at this
end Go.Proofs.YtdjcggcjlphdoaaGreatDoor

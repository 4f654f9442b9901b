/-
  Functions of the chapter, as plain functions of what they are given; no condition.
-/
import Derived.Test.YtdjcggcjlphdoaaGreatDoorVaP75
import Derived.Test.YtdjcggcjlphdoaaGreatDoorSoP73
import Derived.Test.YtdjcggcjlphdoaaGreatDoorSoP72
import Derived.Test.YtdjcggcjlphdoaaGreatDoorVoP81
import Derived.Test.YtdjcggcjlphdoaaGreatDoorTeP72
import Derived.Test.YtdjcggcjlphdoaaGreatDoorTeP73
import Derived.Test.YtdjcggcjlphdoaaGreatDoorVaP74
import Derived.Test.YtdjcggcjlphdoaaGreatDoorVoP80
import Derived.Test.YtdjcggcjlphdoaaGreatDoorVaP73
set_option maxRecDepth 100000
set_option linter.unusedSimpArgs false
set_option linter.unusedVariables false
set_option maxHeartbeats 4000000
namespace Go.Proofs.YtdjcggcjlphdoaaGreatDoor
open Go Go.Vo Go.Shelf Go.RowKit
open Nat (reduceAdd reduceSub reduceMul reduceLeDiff reduceLT reduceEqDiff)
open Int (reduceNeg)
end Go.Proofs.YtdjcggcjlphdoaaGreatDoor
namespace Go.Proofs.YtdjcggcjlphdoaaGreatDoor
open Go Go.Vo
open Nat (reduceAdd reduceSub reduceMul reduceLeDiff reduceLT reduceEqDiff)
open Int (reduceNeg)
end Go.Proofs.YtdjcggcjlphdoaaGreatDoor
namespace Go.Proofs.YtdjcggcjlphdoaaGreatDoor
open Go Go.Vo
open Nat (reduceAdd reduceSub reduceMul reduceLeDiff reduceLT reduceEqDiff)
open Int (reduceNeg)
end Go.Proofs.YtdjcggcjlphdoaaGreatDoor
namespace Go.Proofs.YtdjcggcjlphdoaaGreatDoor
open Go Go.Vo
open Nat (reduceAdd reduceSub reduceMul reduceLeDiff reduceLT reduceEqDiff)
open Int (reduceNeg)
def cHf(a:bWt):Nat:=1+a.path.length+a.test.text.length / 40
def bWg:List bWt→Nat
 | []=>0
 |a::l=>cHf a+bWg l
@[simp] theorem bWf:bWg []=0:=rfl
end Go.Proofs.YtdjcggcjlphdoaaGreatDoor
namespace Go.Proofs.YtdjcggcjlphdoaaGreatDoor
open Go Go.Vo
open Nat (reduceAdd reduceSub reduceMul reduceLeDiff reduceLT reduceEqDiff)
open Int (reduceNeg)
end Go.Proofs.YtdjcggcjlphdoaaGreatDoor
namespace Go.Proofs.YtdjcggcjlphdoaaGreatDoor
open Go Go.Vo
open Nat (reduceAdd reduceSub reduceMul reduceLeDiff reduceLT reduceEqDiff)
open Int (reduceNeg)
end Go.Proofs.YtdjcggcjlphdoaaGreatDoor
namespace Go.Proofs.YtdjcggcjlphdoaaGreatDoor
open Go Go.Vo
open Nat (reduceAdd reduceSub reduceMul reduceLeDiff reduceLT reduceEqDiff)
open Int (reduceNeg)
end Go.Proofs.YtdjcggcjlphdoaaGreatDoor
namespace Go.Proofs.YtdjcggcjlphdoaaGreatDoor
open Go Go.Vo
open Nat (reduceAdd reduceSub reduceMul reduceLeDiff reduceLT reduceEqDiff)
open Int (reduceNeg)
end Go.Proofs.YtdjcggcjlphdoaaGreatDoor
namespace Go.Proofs.YtdjcggcjlphdoaaGreatDoor
open Go Go.Vo
open Nat (reduceAdd reduceSub reduceMul reduceLeDiff reduceLT reduceEqDiff)
open Int (reduceNeg)
abbrev LPr:=Str×LTerm
abbrev LSub:=List LPr
def prT(p:LPr):List AV:=.s p.1::aU p.2
def avu(u:LSub):AV:=.sl (u.flatMap prT) u.length
def avw(l:List LSub):AV:=.sl (l.map avu) l.length
theorem S4(p:LPr):(prT p).length=7:=by rw[prT,aL];rfl
theorem aSd(p:LPr):persL (prT p)=true:=by rw[prT,persL,rW];rfl
theorem nL{u:LSub}:persL (u.flatMap prT)=true:=mK fun x _=>aSd x
section
variable {k:Nat} {u:LSub}
theorem bFu(h:k<u.length):((u.flatMap prT).drop (k*7)).take 7=prT (u.getD k default):=by
 rw[uL S4];simp[h,List.getD]
theorem bKq(h:k<u.length):(u.flatMap prT)[k*7]? = some (.s (u.getD k default).1):=by
 have:=aAa S4 u k (j:=0) (by omega);simpa[h,List.getD,prT]using this
theorem gR:(u.flatMap prT).length=u.length*7:=nZ S4 u
theorem bKp:(u.flatMap prT).take (k*7)=(u.take k).flatMap prT:=flat_take S4 u k
theorem bKr:(u.flatMap prT).drop (k*7)=(u.drop k).flatMap prT:=flat_drop S4 u k
end
attribute [go_sem] bFu bKq gR bKp nL aSd
theorem bFv(u:LSub):pers (avu u)=true:=nL
theorem J1{l:List LSub}:persL (l.map avu)=true:=by
 induction l with
 |nil=>rfl
 |cons u l ih=>rw[aQ,persL,bFv,ih];rfl
theorem sQ(l:List LSub):pers (avw l)=true:=J1
def mOf(u:LSub)(x:Str):Option LTerm:=(u.find? fun p=>decide (p.1=x)).map (·.2)
def P8(o:Option LTerm):AV:=match o with
 |some t=>.tup [elT t,.b true]
 |none=>.tup [elT zT,.b false]
end Go.Proofs.YtdjcggcjlphdoaaGreatDoor
namespace Go.Proofs.YtdjcggcjlphdoaaGreatDoor
open Go Go.Vo
open Nat (reduceAdd reduceSub reduceMul reduceLeDiff reduceLT reduceEqDiff)
open Int (reduceNeg)
def gtS(a b:Str):Bool := !(Op.bytesLess a b||decide (a=b))
def aHn(u:LSub)(x:Str):Nat→Nat
 |0=>0
 |k+1=>if gtS (u.getD k default).1 x=true then aHn u x k else k+1
def T8(u:LSub)(x:Str)(t:LTerm):LSub:=u.take (aHn u x u.length)++(x,t)::u.drop (aHn u x u.length)
def mM(s:dK)(v t:LTerm)(u:LSub):List LSub:=
 if iQ s (kI s t) v.sort=true then(if v.text=[95]then [u]else match mOf u v.text with
  |some o=>if o=t then [u]else []
  |none=>[T8 u v.text t])else []
abbrev MR:=List LSub×Bool
def sW(b:Bool)(l:List LSub):MR:=if 1000<l.length then([],true)else(l,b)
def iJ(s:dK)(p t:LTerm)(u:LSub):List LSub:=if p.kind=6 then mM s p t u else if p=t then [u]else []
def D6(s:dK)(p t:LTerm)(l:List LSub)(b:Bool):MR:=sW b (l.flatMap (iJ s p t))
structure mS where
 u:LSub
 left:List LTerm
instance:Inhabited mS:=⟨⟨[],[]⟩⟩
def aKk(l:List LTerm)(i:Nat):List LTerm:=l.take i++l.drop (i+2)
section
variable (A:LTerm→LTerm→List LSub→Bool→MR) (s:dK)
def jT:List LTerm→List LTerm→List LSub→Bool→MR
 |p::ps,t::ts,l,b=>jT ps ts (A p t l b).1 (A p t l b).2
 |_,_,l,b=>(l,b)
def lE(key:LTerm)(w:mS)(k:Nat):List LSub:=
 match (if key.kind=6 then mOf w.u key.text else some key)with
 |none=>mM s key (w.left.getD (2*k) default) w.u
 |some a=>if a=w.left.getD (2*k) default then [w.u]else []
def tC(key value:LTerm)(w:mS)(k:Nat)(b:Bool):List mS×Bool:=
 ((A value (w.left.getD (2*k+1) default) (lE s key w k) b).1.map fun u=>⟨u,aKk w.left (2*k)⟩,(A value (w.left.getD (2*k+1) default) (lE s key w k) b).2)
def oN(key value:LTerm)(w:mS):Nat→Bool→List mS×Bool
 |0,b=>([],b)
 |k+1,b=>((oN key value w k b).1++(tC A s key value w k (oN key value w k b).2).1,(tC A s key value w k (oN key value w k b).2).2)
def rA(key value:LTerm):List mS→Bool→List mS×Bool
 | [],b=>([],b)
 |w::ws,b=>((oN A s key value w (w.left.length / 2) b).1++(rA key value ws (oN A s key value w (w.left.length / 2) b).2).1,(rA key value ws (oN A s key value w (w.left.length / 2) b).2).2)
def qF(key value:LTerm)(ws:List mS)(b:Bool):List mS×Bool:=
 if 1000<(rA A s key value ws b).1.length then([],true)else rA A s key value ws b
def oY(p:LTerm):Nat→List mS×Bool→List mS×Bool
 |0,r=>r
 |k+1,r=>qF A s (p.kids.getD (2*k) default) (p.kids.getD (2*k+1) default) (oY p k r).1 (oY p k r).2
def B7(p:LTerm)(w:mS):List LSub:=
 if 0<p.rest.length then mM s (p.rest.getD 0 default) (.mk 8 0 [] [] w.left []) w.u else if w.left.length=0 then [w.u]else []
def lQ(p t:LTerm)(l:List LSub)(b:Bool):MR:=
 sW (oY A s p (p.kids.length / 2) (l.map (mS.mk · t.kids),b)).2 ((oY A s p (p.kids.length / 2) (l.map (mS.mk · t.kids),b)).1.flatMap (B7 s p))
end
def fM(s:dK):Nat→LTerm→LTerm→List LSub→Bool→MR
 |0,_,_,_,b=>([],b)
 |n + 1,p,t,l,b=>
  if p.kind=5 then(if t.kind=5∧t.text=p.text∧t.kids.length=p.kids.length then jT (fM s n) p.kids t.kids l b else([],b))
  else if p.kind=7 then(if t.kind=7∧p.kids.length≤t.kids.length∧(p.rest.length=0→t.kids.length≤p.kids.length)then
   (if 0<p.rest.length then D6 s (p.rest.getD 0 default) (.mk 7 0 [] [] (t.kids.drop p.kids.length) []) (jT (fM s n) p.kids (t.kids.take p.kids.length) l b).1 (jT (fM s n) p.kids (t.kids.take p.kids.length) l b).2
    else jT (fM s n) p.kids (t.kids.take p.kids.length) l b)else([],b))
  else if p.kind=8 then(if t.kind=8 then lQ (fM s n) s p t l b else([],b))
  else D6 s p t l b
end Go.Proofs.YtdjcggcjlphdoaaGreatDoor

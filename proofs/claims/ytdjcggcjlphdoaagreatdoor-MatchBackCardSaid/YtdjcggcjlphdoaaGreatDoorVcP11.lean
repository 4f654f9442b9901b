/-
  Functions of the chapter, as plain functions of what they are given; no condition.
-/
import Derived.Test.YtdjcggcjlphdoaaGreatDoorVaP16
set_option maxRecDepth 100000
set_option linter.unusedSimpArgs false
set_option linter.unusedVariables false
set_option maxHeartbeats 4000000
namespace Go.Proofs.YtdjcggcjlphdoaaGreatDoor
open Go Go.Vo
open Nat (reduceAdd reduceSub reduceMul reduceLeDiff reduceLT reduceEqDiff)
open Int (reduceNeg)
def gtS(a b:Str):Bool := !(Op.bytesLess a b||decide (a=b))
def aIx(u:LSub)(x:Str):Nat→Nat
 |0=>0
 |k+1=>if gtS (u.getD k default).1 x=true then aIx u x k else k+1
def X6(u:LSub)(x:Str)(t:LTerm):LSub:=u.take (aIx u x u.length)++(x,t)::u.drop (aIx u x u.length)
def oK(s:dX)(v t:LTerm)(u:LSub):List LSub:=
 if nQ s (qM s t) v.sort=true then(if v.text=[95]then [u]else match mOf u v.text with
  |some o=>if o=t then [u]else []
  |none=>[X6 u v.text t])else []
abbrev MR:=List LSub×Bool
def uM(b:Bool)(l:List LSub):MR:=if 1000<l.length then([],true)else(l,b)
def iT(s:dX)(p t:LTerm)(u:LSub):List LSub:=if p.kind=6 then oK s p t u else if p=t then [u]else []
def G3(s:dX)(p t:LTerm)(l:List LSub)(b:Bool):MR:=uM b (l.flatMap (iT s p t))
structure nJ where
 u:LSub
 left:List LTerm
instance:Inhabited nJ:=⟨⟨[],[]⟩⟩
def aQf(l:List LTerm)(i:Nat):List LTerm:=l.take i++l.drop (i+2)
section
variable (A:LTerm→LTerm→List LSub→Bool→MR) (s:dX)
def kG:List LTerm→List LTerm→List LSub→Bool→MR
 |p::ps,t::ts,l,b=>kG ps ts (A p t l b).1 (A p t l b).2
 |_,_,l,b=>(l,b)
def mG(key:LTerm)(w:nJ)(k:Nat):List LSub:=
 match (if key.kind=6 then mOf w.u key.text else some key)with
 |none=>oK s key (w.left.getD (2*k) default) w.u
 |some a=>if a=w.left.getD (2*k) default then [w.u]else []
def uN(key value:LTerm)(w:nJ)(k:Nat)(b:Bool):List nJ×Bool:=
 ((A value (w.left.getD (2*k+1) default) (mG s key w k) b).1.map fun u=>⟨u,aQf w.left (2*k)⟩,(A value (w.left.getD (2*k+1) default) (mG s key w k) b).2)
def pF(key value:LTerm)(w:nJ):Nat→Bool→List nJ×Bool
 |0,b=>([],b)
 |k+1,b=>((pF key value w k b).1++(uN A s key value w k (pF key value w k b).2).1,(uN A s key value w k (pF key value w k b).2).2)
def rY(key value:LTerm):List nJ→Bool→List nJ×Bool
 | [],b=>([],b)
 |w::ws,b=>((pF A s key value w (w.left.length / 2) b).1++(rY key value ws (pF A s key value w (w.left.length / 2) b).2).1,(rY key value ws (pF A s key value w (w.left.length / 2) b).2).2)
def qZ(key value:LTerm)(ws:List nJ)(b:Bool):List nJ×Bool:=
 if 1000<(rY A s key value ws b).1.length then([],true)else rY A s key value ws b
def pT(p:LTerm):Nat→List nJ×Bool→List nJ×Bool
 |0,r=>r
 |k+1,r=>qZ A s (p.kids.getD (2*k) default) (p.kids.getD (2*k+1) default) (pT p k r).1 (pT p k r).2
def G2(p:LTerm)(w:nJ):List LSub:=
 if 0<p.rest.length then oK s (p.rest.getD 0 default) (.mk 8 0 [] [] w.left []) w.u else if w.left.length=0 then [w.u]else []
def mF(p t:LTerm)(l:List LSub)(b:Bool):MR:=
 uM (pT A s p (p.kids.length / 2) (l.map (nJ.mk · t.kids),b)).2 ((pT A s p (p.kids.length / 2) (l.map (nJ.mk · t.kids),b)).1.flatMap (G2 s p))
end
def fJ(s:dX):Nat→LTerm→LTerm→List LSub→Bool→MR
 |0,_,_,_,b=>([],b)
 |n + 1,p,t,l,b=>
  if p.kind=5 then(if t.kind=5∧t.text=p.text∧t.kids.length=p.kids.length then kG (fJ s n) p.kids t.kids l b else([],b))
  else if p.kind=7 then(if t.kind=7∧p.kids.length≤t.kids.length∧(p.rest.length=0→t.kids.length≤p.kids.length)then
   (if 0<p.rest.length then G3 s (p.rest.getD 0 default) (.mk 7 0 [] [] (t.kids.drop p.kids.length) []) (kG (fJ s n) p.kids (t.kids.take p.kids.length) l b).1 (kG (fJ s n) p.kids (t.kids.take p.kids.length) l b).2
    else kG (fJ s n) p.kids (t.kids.take p.kids.length) l b)else([],b))
  else if p.kind=8 then(if t.kind=8 then mF (fJ s n) s p t l b else([],b))
  else G3 s p t l b
end Go.Proofs.YtdjcggcjlphdoaaGreatDoor

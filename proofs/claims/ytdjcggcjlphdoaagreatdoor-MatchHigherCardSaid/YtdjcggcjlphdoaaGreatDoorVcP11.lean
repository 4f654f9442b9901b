/-
  Functions of the chapter, as plain functions of what they are given; no condition.
-/
import Derived.Test.YtdjcggcjlphdoaaGreatDoorVaP16
set_option maxRecDepth 100000
set_option linter.unusedSimpArgs false
set_option linter.unusedVariables false
set_option maxHeartbeats 4000000
namespace Go.Proofs.YtdjcggcjlphdoaaGreatDoor
open Go Go.Vo
open Nat (reduceAdd reduceSub reduceMul reduceLeDiff reduceLT reduceEqDiff)
open Int (reduceNeg)

abbrev LPr:=Str × LTerm
abbrev LSub:=List LPr
def prT (p:LPr):List AV:=.s p.1::aV p.2
def avu (u:LSub):AV:=.sl (u.flatMap prT) u.length
def avw (l:List LSub):AV:=.sl (l.map avu) l.length
theorem H8 (p:LPr):(prT p).length=7:=by rw [prT,aS]; rfl
theorem aMi (p:LPr):persL (prT p)=true:=by rw [prT,persL,vX]; rfl
theorem mE {u:LSub}:persL (u.flatMap prT)=true:=lK fun x _=>aMi x
section
variable {k:Nat} {u:LSub}
theorem aXy (h:k < u.length):((u.flatMap prT).drop (k * 7)).take 7=prT (u.getD k default):=by
 rw [rY H8]
 simp [h,List.getD]
theorem bBy (h:k < u.length):(u.flatMap prT)[k * 7]? = some (.s (u.getD k default).1):=by
 have:=aFi H8 u k (j:=0) (by omega)
 simpa [h,List.getD,prT] using this
theorem fX:(u.flatMap prT).length=u.length * 7:=pP H8 u
theorem bBx:(u.flatMap prT).take (k * 7)=(u.take k).flatMap prT:=B4 H8 u k
theorem bBz:(u.flatMap prT).drop (k * 7)=(u.drop k).flatMap prT:=uV H8 u k
end
attribute [go_sem] aXy bBy fX bBx mE aMi
theorem aXz (u:LSub):pers (avu u)=true:=mE
theorem zL {l:List LSub}:persL (l.map avu)=true:=by
 induction l with
 | nil=>rfl
 | cons u l ih=>rw [aN,persL,aXz,ih]; rfl
theorem qY (l:List LSub):pers (avw l)=true:=zL
def mOf (u:LSub) (x:Str):Option LTerm:=(u.find? fun p=>decide (p.1=x)).map (·.2)
def F4 (o:Option LTerm):AV:=match o with
 | some t=>.tup [elT t,.b true]
 | none=>.tup [elT zT,.b false]

def gtS (a b:Str):Bool := !(Op.bytesLess a b || decide (a=b))
def aUf (u:LSub) (x:Str):Nat→Nat
 | 0=>0
 | k+1=>if gtS (u.getD k default).1 x=true then aUf u x k else k+1
def aEz (u:LSub) (x:Str) (t:LTerm):LSub:=u.take (aUf u x u.length)++(x,t)::u.drop (aUf u x u.length)
def mP (s:eD) (v t:LTerm) (u:LSub):List LSub:=
 if lZ s (oF s t) v.sort=true then (if v.text=[95] then [u] else match mOf u v.text with
   | some o=>if o=t then [u] else []
   | none=>[aEz u v.text t]) else []
abbrev MR:=List LSub × Bool
def oN (b:Bool) (l:List LSub):MR:=if 1000 < l.length then ([],true) else (l,b)
def iP (s:eD) (p t:LTerm) (u:LSub):List LSub:=if p.kind=6 then mP s p t u else if p=t then [u] else []
def qJ (s:eD) (p t:LTerm) (l:List LSub) (b:Bool):MR:=oN b (l.flatMap (iP s p t))
structure mC where
 u:LSub
 left:List LTerm
instance:Inhabited mC:=⟨⟨[],[]⟩⟩
def bDa (l:List LTerm) (i:Nat):List LTerm:=l.take i++l.drop (i+2)
section
variable (A:LTerm→LTerm→List LSub→Bool→MR) (s:eD)
def iS:List LTerm→List LTerm→List LSub→Bool→MR
 | p::ps,t::ts,l,b=>iS ps ts (A p t l b).1 (A p t l b).2
 | _,_,l,b=>(l,b)
def lV (key:LTerm) (w:mC) (k:Nat):List LSub:=
 match (if key.kind=6 then mOf w.u key.text else some key) with
 | none=>mP s key (w.left.getD (2 * k) default) w.u
 | some a=>if a=w.left.getD (2 * k) default then [w.u] else []
def pJ (key value:LTerm) (w:mC) (k:Nat) (b:Bool):List mC × Bool:=
 ((A value (w.left.getD (2 * k+1) default) (lV s key w k) b).1.map fun u=>⟨u,bDa w.left (2 * k)⟩,(A value (w.left.getD (2 * k+1) default) (lV s key w k) b).2)
def mF (key value:LTerm) (w:mC):Nat→Bool→List mC × Bool
 | 0,b=>([],b)
 | k+1,b=>((mF key value w k b).1++(pJ A s key value w k (mF key value w k b).2).1,(pJ A s key value w k (mF key value w k b).2).2)
def nX (key value:LTerm):List mC→Bool→List mC × Bool
 | [],b=>([],b)
 | w::ws,b=>((mF A s key value w (w.left.length / 2) b).1++(nX key value ws (mF A s key value w (w.left.length / 2) b).2).1,(nX key value ws (mF A s key value w (w.left.length / 2) b).2).2)
def nA (key value:LTerm) (ws:List mC) (b:Bool):List mC × Bool:=
 if 1000 < (nX A s key value ws b).1.length then ([],true) else nX A s key value ws b
def nN (p:LTerm):Nat→List mC × Bool→List mC × Bool
 | 0,r=>r
 | k+1,r=>nA A s (p.kids.getD (2 * k) default) (p.kids.getD (2 * k+1) default) (nN p k r).1 (nN p k r).2
def zX (p:LTerm) (w:mC):List LSub:=
 if 0 < p.rest.length then mP s (p.rest.getD 0 default) (.mk 8 0 [] [] w.left []) w.u else if w.left.length=0 then [w.u] else []
def jT (p t:LTerm) (l:List LSub) (b:Bool):MR:=
 oN (nN A s p (p.kids.length / 2) (l.map (mC.mk · t.kids),b)).2 ((nN A s p (p.kids.length / 2) (l.map (mC.mk · t.kids),b)).1.flatMap (zX s p))
end
def eH (s:eD):Nat→LTerm→LTerm→List LSub→Bool→MR
 | 0,_,_,_,b=>([],b)
 | n + 1,p,t,l,b=>
   if p.kind=5 then (if t.kind=5∧t.text=p.text∧t.kids.length=p.kids.length then iS (eH s n) p.kids t.kids l b else ([],b))
   else if p.kind=7 then (if t.kind=7∧p.kids.length≤t.kids.length∧(p.rest.length=0→t.kids.length≤p.kids.length) then
       (if 0 < p.rest.length then qJ s (p.rest.getD 0 default) (.mk 7 0 [] [] (t.kids.drop p.kids.length) []) (iS (eH s n) p.kids (t.kids.take p.kids.length) l b).1 (iS (eH s n) p.kids (t.kids.take p.kids.length) l b).2
        else iS (eH s n) p.kids (t.kids.take p.kids.length) l b) else ([],b))
   else if p.kind=8 then (if t.kind=8 then jT (eH s n) s p t l b else ([],b))
   else qJ s p t l b

end Go.Proofs.YtdjcggcjlphdoaaGreatDoor

/-
  What functions of the chapter return, as plain functions of what they are given; no condition beyond those that each theorem names.
-/
import Derived.Test.YtifefbhllfdmlaaGreatDoorTeP122
set_option maxRecDepth 100000
set_option linter.unusedSimpArgs false
set_option linter.unusedVariables false
set_option maxHeartbeats 4000000
namespace Go.Proofs.YtifefbhllfdmlaaGreatDoor
open Go Go.Vo
open Nat (reduceAdd reduceSub reduceMul reduceLeDiff reduceLT reduceEqDiff)
open Int (reduceNeg)

def aFt:List Str→Str
 | []=>[]
 | a::l=>a++l.flatMap fun s=>44::32::s
def aYp:List Str→List Str
 | a::b::l=>(a++32::45::62::32::b)::aYp l
 | _=>[]
def aYu (n:Nat) (u:LTerm):Str:=(if 0 < n then [32] else [])++124::32::u.text
def aQc (n:Nat) (r:List LTerm):Str:=r.flatMap (aYu n)
def aAu (b:Bool):Str:=if b=true then [116,114,117,101] else [102,97,108,115,101]
mutual
def gW:LTerm→Str
 | .mk k n x y l r=>
   if k=1 then Lib.itoa n
   else if k=2 then aAu (decide (n=1))
   else if k=3 then 34::(x++[34])
   else if k=4 then 39::x
   else if k=5 then x++40::(aFt (writeL l)++[41])
   else if k=6 then x++(if R3 x=true then [] else 58::y)
   else if k=7 then 91::(aFt (writeL l)++(aQc l.length r++[93]))
   else if k=8 then 123::(aFt (aYp (writeL l))++(aQc l.length r++[125]))
   else []
def writeL:List LTerm→List Str
 | []=>[]
 | t::l=>gW t::writeL l
end
theorem C8:∀ l:List LTerm,writeL l=l.map gW
 | []=>by rw [writeL]; rfl
 | t::l=>by rw [writeL,C8 l]; rfl
theorem nW (t:LTerm):gW t=if t.kind=1 then Lib.itoa t.n
   else if t.kind=2 then aAu (decide (t.n=1))
   else if t.kind=3 then 34::(t.text++[34])
   else if t.kind=4 then 39::t.text
   else if t.kind=5 then t.text++40::(aFt (t.kids.map gW)++[41])
   else if t.kind=6 then t.text++(if R3 t.text=true then [] else 58::t.sort)
   else if t.kind=7 then 91::(aFt (t.kids.map gW)++(aQc t.kids.length t.rest++[93]))
   else if t.kind=8 then 123::(aFt (aYp (t.kids.map gW))++(aQc t.kids.length t.rest++[125]))
   else []:=by
 cases t; rw [gW,C8]; rfl
end Go.Proofs.YtifefbhllfdmlaaGreatDoor

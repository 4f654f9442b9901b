/-
  What functions of the chapter return, as plain functions of what they are given; no condition beyond those that each theorem names.
-/
import Derived.Test.YtnjnjdebgkjfhaaGreatDoorSoP52
import Derived.Test.YtnjnjdebgkjfhaaGreatDoorVoP57
set_option maxRecDepth 100000
set_option linter.unusedSimpArgs false
set_option linter.unusedVariables false
set_option maxHeartbeats 4000000
namespace Go.Proofs.YtnjnjdebgkjfhaaGreatDoor
open Go Go.Vo
open Nat (reduceAdd reduceSub reduceMul reduceLeDiff reduceLT reduceEqDiff)
open Int (reduceNeg)

section
variable {H : Type} {enc : TypeId × Value → H} {X : Ctx} {w : World} {h : List AObj} {sp : Nat → Bool} {hd : Bool}
theorem rdStr : Rd enc Tryz.prog X w h sp hd 9 (fun s : Str => [.s s]) (fun s => s.length ≤ 140737488355328) := rd_string Tryz.underlying9
end
end Go.Proofs.YtnjnjdebgkjfhaaGreatDoor

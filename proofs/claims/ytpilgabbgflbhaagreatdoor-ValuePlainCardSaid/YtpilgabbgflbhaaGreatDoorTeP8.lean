/-
  What functions of the chapter return, as plain functions of what they are given; no condition beyond those that each theorem names.
-/
import Derived.Test.YtpilgabbgflbhaaGreatDoorTeP6
import Derived.Test.YtpilgabbgflbhaaGreatDoorTeP7
set_option maxRecDepth 100000
set_option linter.unusedSimpArgs false
set_option linter.unusedVariables false
set_option maxHeartbeats 4000000
namespace Go.Proofs.YtpilgabbgflbhaaGreatDoor
open Go Go.Vo
open Nat (reduceAdd reduceSub reduceMul reduceLeDiff reduceLT reduceEqDiff)
open Int (reduceNeg)

section
variable {s : LSig} {a b c : LTerm}
end


theorem fewV_small {s : LSig} {l : List LTerm} (h : fewV s l = true) : Small s := by
 simp only [fewV, Bool.and_eq_true] at h
 exact few_small h.1.1
end Go.Proofs.YtpilgabbgflbhaaGreatDoor

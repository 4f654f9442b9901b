/-
  What functions of the chapter return, as plain functions of what they are given; no condition beyond those that each theorem names.
-/
import Derived.Test.YtnjnjdebgkjfhaaGreatDoorVaP6
set_option maxRecDepth 100000
set_option linter.unusedSimpArgs false
set_option linter.unusedVariables false
set_option maxHeartbeats 4000000
namespace Go.Proofs.YtnjnjdebgkjfhaaGreatDoor
open Go Go.Vo
open Nat (reduceAdd reduceSub reduceMul reduceLeDiff reduceLT reduceEqDiff)
open Int (reduceNeg)

theorem okl1 {a : LTerm} (h : OkT a) : ∀ t ∈ [a], OkT t := fun t ht => by rw [List.mem_singleton] at ht; exact ht ▸ h
theorem few1 (a : LTerm) (ha : OkT a) : CT 14 [avt [a]] (.b (fewP 2600 [a])) := ctr327 [a] (by simp) (okl1 ha)
end Go.Proofs.YtnjnjdebgkjfhaaGreatDoor

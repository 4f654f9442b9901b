/-
  What functions of the chapter return, as plain functions of what they are given; no condition beyond those that each theorem names.
-/
import Derived.Test.YtnjnjdebgkjfhaaGreatDoorTeP54
import Derived.Test.YtnjnjdebgkjfhaaGreatDoorSoP54
import Derived.Test.YtnjnjdebgkjfhaaGreatDoorVoP57
set_option maxRecDepth 100000
set_option linter.unusedSimpArgs false
set_option linter.unusedVariables false
set_option maxHeartbeats 4000000
namespace Go.Proofs.YtnjnjdebgkjfhaaGreatDoor
open Go Go.Vo
open Nat (reduceAdd reduceSub reduceMul reduceLeDiff reduceLT reduceEqDiff)
open Int (reduceNeg)

theorem ctr269 (n : Int) (h0 : -9223372036854775808 ≤ n) (h1 : n ≤ 9223372036854775807) : CT 196 [.i .i64 n] (.s (Lib.itoa n)) := by
 refine ⟨by kernel_rfl, g0, ?_⟩
 intro F w vs hF hgl hl hr
 obtain ⟨v0, rfl⟩ := one_of hl
 have e0 := int_ok (hr 0 _ v0 rfl rfl)
 subst e0
 refine (Tryz.strconv_Itoa n h0 h1 w (box_tab (by kernel_rfl) (hgl 2 (.box powCells 0) rfl))).mono ?_
 rintro e w' ⟨rfl, k, os, rfl⟩
 have hgr : Grew w (Sort.grow (w.drewN k) os) := by
   refine ⟨fun b hb => ?_, ?_, rfl, rfl, rfl⟩
   · simp only [Sort.grow, World.drewN]; rw [Array.getElem?_append_left hb]
   · simp only [Sort.grow, World.drewN, Array.size_append]; omega
 exact ⟨_, F, [], rfl, hgr, fun _ h => h, fun _ h => .inl h, fun b hb => Nat.lt_of_lt_of_le (hF b hb) hgr.size, RR.val (.s _), List.nodup_nil, by simp⟩
end Go.Proofs.YtnjnjdebgkjfhaaGreatDoor

/-
  What functions of the chapter return, as plain functions of what they are given; no condition beyond those that each theorem names.
-/
import Derived.Test.YtifefbhllfdmlaaGreatDoorTeP41
import Derived.Test.YtifefbhllfdmlaaGreatDoorVaP44
set_option maxRecDepth 100000
set_option linter.unusedSimpArgs false
set_option linter.unusedVariables false
set_option maxHeartbeats 4000000
namespace Go.Proofs.YtifefbhllfdmlaaGreatDoor
open Go Go.Vo
open Nat (reduceAdd reduceSub reduceMul reduceLeDiff reduceLT reduceEqDiff)
open Int (reduceNeg)

def XOk (x : LTest) : Prop := OkT x.term ∧ x.text.length ≤ 140737488355328
def KOk (a : LAsk) : Prop := XOk a.test ∧ (a.path.length ≤ 140737488355328 ∧ ∀ i ∈ a.path, -9223372036854775808 ≤ i ∧ i ≤ 9223372036854775807)
section
variable {H : Type} {enc : TypeId × Value → H} {X : Ctx} {w : World} {h : List AObj} {sp : Nat → Bool} {hd : Bool}
theorem bDh (hF : ∀ b, b < w.heap.size → X.F b) : Rd enc Tryz.prog X w h sp hd 35 dF XOk := by
 refine (nC Tryz.underlying35 (N := 9) (by kernel_rfl) (eU rfl (sz := 1) (by kernel_rfl) rfl (by decide) (sL Tryz.underlying33) (eU rfl (sz := 6) (by kernel_rfl) rfl (by decide) (aUk hF) (eU rfl (sz := 1) (by kernel_rfl) rfl (by decide) O4
   (eU rfl (sz := 1) (by kernel_rfl) rfl (by decide) (sL Tryz.underlying3) (tS (by decide))))))).map (fun p => LTest.mk p.1 p.2.1 p.2.2.1 p.2.2.2.1) (fun p hq => ⟨⟨hq.2.1, hq.2.2.1⟩, ?_⟩)
 rw [dF]; simp [bC]
theorem bDm (hF : ∀ b, b < w.heap.size → X.F b) : Rd enc Tryz.prog X w h sp hd 37 aR KOk := by
 refine (nC Tryz.underlying37 (N := 10) (by kernel_rfl) (eU rfl (sz := 1) (by kernel_rfl) rfl (by decide) (bDj hF) (eU rfl (sz := 9) (by kernel_rfl) rfl (by decide) (bDh hF) (tS (by decide))))).map (fun p => LAsk.mk p.1 p.2.1) (fun p hq => ⟨⟨hq.2.1, hq.1⟩, ?_⟩)
 rfl
end
end Go.Proofs.YtifefbhllfdmlaaGreatDoor

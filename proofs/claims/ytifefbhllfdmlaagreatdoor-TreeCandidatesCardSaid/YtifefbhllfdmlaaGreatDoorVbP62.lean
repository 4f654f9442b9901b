/-
  What functions of the chapter return, as plain functions of what they are given; no condition beyond those that each theorem names.
-/
import Derived.Test.YtifefbhllfdmlaaGreatDoorTeP66
import Derived.Test.YtifefbhllfdmlaaGreatDoorVaP64
set_option maxRecDepth 100000
set_option linter.unusedSimpArgs false
set_option linter.unusedVariables false
set_option maxHeartbeats 4000000
namespace Go.Proofs.YtifefbhllfdmlaaGreatDoor
open Go Go.Vo
open Nat (reduceAdd reduceSub reduceMul reduceLeDiff reduceLT reduceEqDiff)
open Int (reduceNeg)

def XOk (x : LTest) : Prop := OkT x.term ∧ x.text.length ≤ 140737488355328
def KOk (a : gD) : Prop := XOk a.test ∧ (a.path.length ≤ 140737488355328 ∧ ∀ i ∈ a.path, -9223372036854775808 ≤ i ∧ i ≤ 9223372036854775807)
section
variable {H : Type} {enc : TypeId × Value → H} {X : Ctx} {w : World} {h : List AObj} {sp : Nat → Bool} {hd : Bool}
theorem bDk (hF : ∀ b, b < w.heap.size → X.F b) : Rd enc Tryz.prog X w h sp hd 35 dM XOk := by
 refine (pU Tryz.underlying35 (N := 9) (by kernel_rfl) (fG rfl (sz := 1) (by kernel_rfl) rfl (by decide) (vN Tryz.underlying33) (fG rfl (sz := 6) (by kernel_rfl) rfl (by decide) (aBm hF) (fG rfl (sz := 1) (by kernel_rfl) rfl (by decide) O5
   (fG rfl (sz := 1) (by kernel_rfl) rfl (by decide) (vN Tryz.underlying3) (xQ (by decide))))))).map (fun p => LTest.mk p.1 p.2.1 p.2.2.1 p.2.2.2.1) (fun p hq => ⟨⟨hq.2.1, hq.2.2.1⟩, ?_⟩)
 rw [dM]; simp [bA]
theorem bLh (hF : ∀ b, b < w.heap.size → X.F b) : Rd enc Tryz.prog X w h sp hd 37 aS KOk := by
 refine (pU Tryz.underlying37 (N := 10) (by kernel_rfl) (fG rfl (sz := 1) (by kernel_rfl) rfl (by decide) (bDl hF) (fG rfl (sz := 9) (by kernel_rfl) rfl (by decide) (bDk hF) (xQ (by decide))))).map (fun p => gD.mk p.1 p.2.1) (fun p hq => ⟨⟨hq.2.1, hq.1⟩, ?_⟩)
 rfl
theorem aPp (hF : ∀ b, b < w.heap.size → X.F b) : Rd enc Tryz.prog X w h sp hd 28 (fun l : List LTerm => [avt l]) (fun l => (∀ t ∈ l, OkT t) ∧ l.length * 96 ≤ 140737488351232) :=
 (aIs hF Tryz.underlying28 (sz := 6) (by_ := 96) (by kernel_rfl) (by kernel_rfl) (by decide) oG (aBm hF)).map id (fun l hq => ⟨hq, rfl⟩)
end
theorem aFq {W : World} {mJ : Nat} {v : Value} (h : Value.okWide Tryz.prog W .any mJ 37 v) : ∃ cs, v = .agg cs := by
 unfold Value.okWide at h
 rw [Tryz.underlying37] at h
 obtain ⟨cs, rfl, _⟩ := h
 exact ⟨cs, rfl⟩
theorem bBs {H : Type} {enc : TypeId × Value → H} {W : World} {mJ : Nat} {v : Value} {d : DataW H} {p : List MemPlace} (hval : Value.okWide Tryz.prog W .any mJ 37 v) (h0 : DataW.Trod enc Tryz.prog W 0 (fun _ => true) true 37 v d p) (hw : ∀ n ∈ d.weights Tryz.prog 37, n ≤ reachBytes) :
   ∃ a, KOk a ∧ RV (.none fun b => b < W.heap.size) W [] (.agg (aS a)) v := J3 (aFq hval) h0 hw (bLh (fun _ h => h))
theorem aEr {H : Type} {enc : TypeId × Value → H} {W : World} {mJ : Nat} {v : Value} {d : DataW H} {p : List MemPlace} (hv : Value.okWide Tryz.prog W .any mJ 28 v) (hT : DataW.Trod enc Tryz.prog W 0 (fun _ => true) true 28 v d p) (hw : ∀ n ∈ d.weights Tryz.prog 28, n ≤ reachBytes) :
   ∃ l : List LTerm, (l.length ≤ 1466015503700 ∧ ∀ t ∈ l, OkT t) ∧ RV (.none fun b => b < W.heap.size) W [] (avt l) v := by
 obtain ⟨l, ⟨q1, q2⟩, r⟩ := bBu (aJt Tryz.underlying28 hv) hT hw (aPp (X := .none fun b => b < W.heap.size) (h := []) (fun _ h => h))
 exact ⟨l, ⟨by omega, q1⟩, r⟩
end Go.Proofs.YtifefbhllfdmlaaGreatDoor

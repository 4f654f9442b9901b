/-
  What functions of the chapter return, as plain functions of what they are given; no condition beyond those that each theorem names.
-/
import Derived.Test.YtifefbhllfdmlaaGreatDoorSoP64
import Derived.Test.YtifefbhllfdmlaaGreatDoorTeP62
set_option maxRecDepth 100000
set_option linter.unusedSimpArgs false
set_option linter.unusedVariables false
set_option maxHeartbeats 4000000
namespace Go.Proofs.YtifefbhllfdmlaaGreatDoor
open Go Go.Vo
open Nat (reduceAdd reduceSub reduceMul reduceLeDiff reduceLT reduceEqDiff)
open Int (reduceNeg)

theorem aUe {k : IntKind} {n : Int} (h : (Lit.int k n).wf = true) : k.min ≤ n ∧ n ≤ k.max := by simpa [Lit.wf] using h
section
variable {H : Type} {enc : TypeId × Value → H} {X : Ctx} {w : World} {h : List AObj} {sp : Nat → Bool} {hd : Bool}
theorem bDm {α : Type} {t : TypeId} {e : α → List AV} {Q : α → Prop} : RdN 0 enc Tryz.prog X w h sp hd t e Q := by
 intro fuel hf cs x hx
 obtain rfl : fuel = 0 := by omega
 simp [DataW.trod] at hx
theorem aFj (hF : ∀ b, b < w.heap.size → X.F b) {m : Nat} (r : RdN m enc Tryz.prog X w h sp hd 30 aC OkT) : RdN (m + 1) enc Tryz.prog X w h sp hd 28 (fun l : List LTerm => [avt l]) (fun l => (∀ t ∈ l, OkT t) ∧ l.length * 96 ≤ 140737488355328) :=
 (O4 hF Tryz.underlying28 (sz := 6) (by_ := 96) (by kernel_rfl) (by kernel_rfl) (by decide) oG r).map id (fun l hq => ⟨hq, rfl⟩)
theorem aYc (hF : ∀ b, b < w.heap.size → X.F b) : ∀ m, RdN m enc Tryz.prog X w h sp hd 30 aC OkT := by
 intro m
 induction m using Nat.strongRecOn with
 | ind m ih =>
   cases m with
   | zero => exact bDm
   | succ m =>
     have rk : RdN m enc Tryz.prog X w h sp hd 28 (fun l : List LTerm => [avt l]) (fun l => (∀ t ∈ l, OkT t) ∧ l.length * 96 ≤ 140737488355328) := by
       cases m with
       | zero => exact bDm
       | succ m => exact aFj hF (ih m (by omega))
     refine (aFi Tryz.underlying30 (N := 6) (by kernel_rfl) (nP rfl (sz := 1) (by kernel_rfl) rfl (by decide) (vN Tryz.underlying27).n (nP rfl (sz := 1) (by kernel_rfl) rfl (by decide) (vN Tryz.underlying3).n (nP rfl (sz := 1) (by kernel_rfl) rfl (by decide) O5.n (nP rfl (sz := 1) (by kernel_rfl) rfl (by decide) O5.n
       (nP rfl (sz := 1) (by kernel_rfl) rfl (by decide) rk (nP rfl (sz := 1) (by kernel_rfl) rfl (by decide) rk (aPn (by decide))))))))).map (fun p => LTerm.mk p.1 p.2.1 p.2.2.1 p.2.2.2.1 p.2.2.2.2.1 p.2.2.2.2.2.1) (fun p hq => ⟨?_, ?_⟩)
     · obtain ⟨q1, q2, q3, q4, ⟨q5, q5b⟩, ⟨q6, q6b⟩, _⟩ := hq
       have q2' : -9223372036854775808 ≤ p.2.1 ∧ p.2.1 ≤ 9223372036854775807 := by
         have q := aUe q2
         have e1 : IntKind.min .i64 = -9223372036854775808 := by decide +kernel
         have e2 : IntKind.max .i64 = 9223372036854775807 := by decide +kernel
         rw [e1, e2] at q
         exact q
       exact .mk q3 q4 q2'.1 q2'.2 (by simp only [LTerm.kids]; omega) (by simp only [LTerm.rest]; omega) q5 q6
     · rw [bA]; rfl
theorem aBm (hF : ∀ b, b < w.heap.size → X.F b) : Rd enc Tryz.prog X w h sp hd 30 aC OkT := .of (aYc hF)
theorem bBu {α : Type} {t : TypeId} {e : α → AV} {Q : α → Prop} {v : Value} {d : DataW H} {p : List MemPlace} (hone : v.cells = #[v]) (hT : DataW.Trod enc Tryz.prog w 0 sp hd t v d p) (hw : ∀ n ∈ d.weights Tryz.prog t, n ≤ reachBytes) (R : Rd enc Tryz.prog X w h sp hd t (fun a => [e a]) Q) : ∃ a, Q a ∧ RV X w h (e a) v := by
 obtain ⟨fuel, hx⟩ := hT
 obtain ⟨a, ha, hc⟩ := R fuel _ (d, p) hx hw
 rw [hone] at hc
 exact ⟨a, ha, (hc.2 0 _ v rfl rfl).1⟩
theorem aJt {t e : TypeId} {v : Value} {mJ : Nat} (ht : Tryz.prog.underlying t = some (.slice e)) (hv : Value.okWide Tryz.prog w .any mJ t v) : v.cells = #[v] := by
 unfold Value.okWide at hv
 rw [ht] at hv
 simp only [Cell.okWide, ht] at hv
 cases v with
 | agg cs => simp [Cell.ok, ht] at hv
 | _ => rfl
end
theorem Y6 {W : World} {mJ : Nat} {v : Value} (h : Value.okWide Tryz.prog W .any mJ 30 v) : ∃ cs, v = .agg cs := by
 unfold Value.okWide at h
 rw [Tryz.underlying30] at h
 obtain ⟨cs, rfl, _⟩ := h
 exact ⟨cs, rfl⟩
theorem aOn {H : Type} {enc : TypeId × Value → H} {W : World} {mJ : Nat} {v : Value} {d : DataW H} {p : List MemPlace} (hval : Value.okWide Tryz.prog W .any mJ 30 v) (h0 : DataW.Trod enc Tryz.prog W 0 (fun _ => true) true 30 v d p) (hw : ∀ n ∈ d.weights Tryz.prog 30, n ≤ reachBytes) :
   ∃ t, OkT t ∧ RV (.none fun b => b < W.heap.size) W [] (elT t) v := J3 (Y6 hval) h0 hw (aBm (fun _ h => h))
theorem G2 {W : World} {mJ : Nat} {v : Value} (h : Value.okWide Tryz.prog W .any mJ 31 v) : ∃ cs, v = .agg cs := by
 unfold Value.okWide at h
 rw [Tryz.underlying31] at h
 obtain ⟨cs, rfl, _⟩ := h
 exact ⟨cs, rfl⟩
theorem aEs {H : Type} {enc : TypeId × Value → H} {W : World} {mJ : Nat} {v : Value} {d : DataW H} {p : List MemPlace} (hval : Value.okWide Tryz.prog W .any mJ 31 v) (h0 : DataW.Trod enc Tryz.prog W 0 (fun _ => true) true 31 v d p) (hw : ∀ n ∈ d.weights Tryz.prog 31, n ≤ reachBytes) :
   ∃ t u, (OkT t ∧ OkT u) ∧ RV (.none fun b => b < W.heap.size) W [] (.agg (aC t ++ aC u)) v := by
 obtain ⟨l, ⟨hl, hq⟩, hr⟩ := J3 (X := .none fun b => b < W.heap.size) (h := []) (G2 hval) h0 hw (aPo Tryz.underlying31 (sz := 6) (n := 2) (by kernel_rfl) (by kernel_rfl) oG (aBm (fun _ h => h)))
 match l, hl with
 | [x, y], _ => exact ⟨x, y, ⟨hq x (by simp), hq y (by simp)⟩, by simpa using hr⟩
theorem bDl {H : Type} {enc : TypeId × Value → H} {X : Ctx} {w : World} {h : List AObj} {sp : Nat → Bool} {hd : Bool} (hF : ∀ b, b < w.heap.size → X.F b) : Rd enc Tryz.prog X w h sp hd 32 (fun l : List Int => [avi l]) (fun l => l.length ≤ 140737488355328 ∧ ∀ i ∈ l, -9223372036854775808 ≤ i ∧ i ≤ 9223372036854775807) :=
 (sU hF Tryz.underlying32 (sz := 1) (by_ := 8) (by kernel_rfl) (by kernel_rfl) (by decide) (fun _ => rfl) (vN Tryz.underlying3)).map id (fun l hq => ⟨⟨dT (Nat.le_mul_of_pos_right _ (by decide)) hq.2, fun i hi => by
   have q := aUe (hq.1 i hi)
   have e1 : IntKind.min .i64 = -9223372036854775808 := by decide +kernel
   have e2 : IntKind.max .i64 = 9223372036854775807 := by decide +kernel
   rw [e1, e2] at q
   exact q⟩, by rw [avi, ← H4]; rfl⟩)
end Go.Proofs.YtifefbhllfdmlaaGreatDoor

/-
  What functions of the chapter return, as plain functions of what they are given; no condition beyond those that each theorem names.
-/
import Derived.Test.YtnjnjdebgkjfhaaGreatDoorSoP55
import Derived.Test.YtnjnjdebgkjfhaaGreatDoorTeP52
set_option maxRecDepth 100000
set_option linter.unusedSimpArgs false
set_option linter.unusedVariables false
set_option maxHeartbeats 4000000
namespace Go.Proofs.YtnjnjdebgkjfhaaGreatDoor
open Go Go.Vo
open Nat (reduceAdd reduceSub reduceMul reduceLeDiff reduceLT reduceEqDiff)
open Int (reduceNeg)

theorem wf_int {k : IntKind} {n : Int} (h : (Lit.int k n).wf = true) : k.min ≤ n ∧ n ≤ k.max := by simpa [Lit.wf] using h
section
variable {H : Type} {enc : TypeId × Value → H} {X : Ctx} {w : World} {h : List AObj} {sp : Nat → Bool} {hd : Bool}
theorem rdN_0 {α : Type} {t : TypeId} {e : α → List AV} {Q : α → Prop} : RdN 0 enc Tryz.prog X w h sp hd t e Q := by
 intro fuel hf cs x hx
 obtain rfl : fuel = 0 := by omega
 simp [DataW.trod] at hx
theorem rdTerms_of (hF : ∀ b, b < w.heap.size → X.F b) {m : Nat} (r : RdN m enc Tryz.prog X w h sp hd 30 termCells OkT) : RdN (m + 1) enc Tryz.prog X w h sp hd 28 (fun l : List LTerm => [avt l]) (fun l => (∀ t ∈ l, OkT t) ∧ l.length * 96 ≤ 140737488355328) :=
 (rd_sliceN hF Tryz.underlying28 (sz := 6) (by_ := 96) (by kernel_rfl) (by kernel_rfl) (by decide) term_len r).map id (fun l hq => ⟨hq, rfl⟩)
theorem rdTermN (hF : ∀ b, b < w.heap.size → X.F b) : ∀ m, RdN m enc Tryz.prog X w h sp hd 30 termCells OkT := by
 intro m
 induction m using Nat.strongRecOn with
 | ind m ih =>
   cases m with
   | zero => exact rdN_0
   | succ m =>
     have rk : RdN m enc Tryz.prog X w h sp hd 28 (fun l : List LTerm => [avt l]) (fun l => (∀ t ∈ l, OkT t) ∧ l.length * 96 ≤ 140737488355328) := by
       cases m with
       | zero => exact rdN_0
       | succ m => exact rdTerms_of hF (ih m (by omega))
     refine (rd_structN Tryz.underlying30 (N := 6) (by kernel_rfl) (rdf_consN rfl (sz := 1) (by kernel_rfl) rfl (by decide) (rd_int Tryz.underlying27).n (rdf_consN rfl (sz := 1) (by kernel_rfl) rfl (by decide) (rd_int Tryz.underlying3).n (rdf_consN rfl (sz := 1) (by kernel_rfl) rfl (by decide) rdStr.n (rdf_consN rfl (sz := 1) (by kernel_rfl) rfl (by decide) rdStr.n
       (rdf_consN rfl (sz := 1) (by kernel_rfl) rfl (by decide) rk (rdf_consN rfl (sz := 1) (by kernel_rfl) rfl (by decide) rk (rdf_nilN (by decide))))))))).map (fun p => LTerm.mk p.1 p.2.1 p.2.2.1 p.2.2.2.1 p.2.2.2.2.1 p.2.2.2.2.2.1) (fun p hq => ⟨?_, ?_⟩)
     · obtain ⟨q1, q2, q3, q4, ⟨q5, q5b⟩, ⟨q6, q6b⟩, _⟩ := hq
       have q2' : -9223372036854775808 ≤ p.2.1 ∧ p.2.1 ≤ 9223372036854775807 := by
         have q := wf_int q2
         have e1 : IntKind.min .i64 = -9223372036854775808 := by decide +kernel
         have e2 : IntKind.max .i64 = 9223372036854775807 := by decide +kernel
         rw [e1, e2] at q
         exact q
       exact .mk q3 q4 q2'.1 q2'.2 (by simp only [LTerm.kids]; omega) (by simp only [LTerm.rest]; omega) q5 q6
     · rw [termCells_eq]; rfl
theorem rdTerm (hF : ∀ b, b < w.heap.size → X.F b) : Rd enc Tryz.prog X w h sp hd 30 termCells OkT := .of (rdTermN hF)
end
theorem okWide_terms3 {W : World} {base : Nat} {v : Value} (h : Value.okWide Tryz.prog W .any base 59 v) : ∃ cs, v = .agg cs := by
 unfold Value.okWide at h
 rw [Tryz.underlying59] at h
 obtain ⟨cs, rfl, _⟩ := h
 exact ⟨cs, rfl⟩
theorem terms3_arg {H : Type} {enc : TypeId × Value → H} {W : World} {base : Nat} {v : Value} {d : DataW H} {p : List MemPlace} (hval : Value.okWide Tryz.prog W .any base 59 v) (h0 : DataW.Trod enc Tryz.prog W 0 (fun _ => true) true 59 v d p) (hw : ∀ n ∈ d.weights Tryz.prog 59, n ≤ reachBytes) :
   ∃ t u w, (OkT t ∧ OkT u ∧ OkT w) ∧ RV (.none fun b => b < W.heap.size) W [] (.agg (termCells t ++ (termCells u ++ termCells w))) v := by
 obtain ⟨l, ⟨hl, hq⟩, hr⟩ := arg_agg (X := .none fun b => b < W.heap.size) (h := []) (okWide_terms3 hval) h0 hw (rd_array Tryz.underlying59 (sz := 6) (n := 3) (by kernel_rfl) (by kernel_rfl) term_len (rdTerm (fun _ h => h)))
 match l, hl with
 | [x, y, z], _ => exact ⟨x, y, z, ⟨hq x (by simp), hq y (by simp), hq z (by simp)⟩, by simpa using hr⟩
end Go.Proofs.YtnjnjdebgkjfhaaGreatDoor

/-
  What functions of the chapter return, as plain functions of what they are given; no condition beyond those that each theorem names.
-/
import Derived.Test.YtadileniakikeaaGreatDoorSoAt
set_option maxRecDepth 100000
set_option linter.unusedSimpArgs false
set_option linter.unusedVariables false
namespace Go.Proofs.YtadileniakikeaaGreatDoor
open Go Go.Vo

/-! ## the reference: the same -/
set_option maxHeartbeats 4000000 in
theorem ctr84 (l m : List LOp) (hl : l.length ≤ 140737488355328) (hm : m.length ≤ 140737488355328) (hlo : ∀ o ∈ l, OkO o) (hmo : ∀ o ∈ m, OkO o): Ctr Tryz.prog G0 84 [avo l, avo m] (.b (decide (l = m))) := by
  refine sem_intro (rx := false) mixed Tryz.func84 rfl (by kernel_rfl) (by kernel_rfl) (ac := ?_) ?_ g0 ?_
  rotate_left
  · simp only [strip, stripOps, stripOp, hoist, List.filter_cons, List.filter_nil, List.nil_append, List.cons_append, isFree, anyPre, Region.binds, Bool.not_true, Bool.not_false, Bool.false_eq_true, if_true, if_false, Option.isNone_none, Option.isNone_some, Bool.true_and, Bool.false_and, List.map_nil, List.map_cons, List.isEmpty_nil, List.isEmpty_cons, List.append_nil]
    rfl
  · simp -implicitDefEqProofs (disch := omega) only [Tryz.f84, go_sem, List.replicate, ↓reduceIte, Nat.reduceAdd, Nat.reduceSub, Nat.reduceMul, Nat.reduceLeDiff, Nat.reduceLT, Nat.reduceEqDiff, Int.reduceNeg, Nat.reduceBEq, avo]
    (repeat' (first | refine g_true ?_ ?_ | refine g_false ?_ ?_ | refine cond_intro ?_ ?_ | refine And.intro (by omega) ?_ | (intro hr; have hc := hr; (try simp only [decide_eq_true_eq, decide_eq_false_iff_not, Bool.not_eq_true', Bool.not_eq_false'] at hc); simp -implicitDefEqProofs (disch := omega) only [hr, go_sem, ↓reduceIte, Nat.reduceAdd, Nat.reduceSub, Nat.reduceMul, Nat.reduceLeDiff, Nat.reduceLT, Nat.reduceEqDiff, Int.reduceNeg, Nat.reduceBEq]; (try clear hr))))
    · refine fin_eq ?_ (by rfl)
      have : l ≠ m := fun h => hc (by rw [h])
      rw [decide_eq_false this]
    refine x_loopJ (fun (k : Nat) => [.k, .k, .k, .k, .j, .j, .k, .k, .k, .k, .k, .k, .k, .v (.i .i64 k), .j, .j, .j, .j, .j, .j, .j, .j, .j, .j, .j, .j, .j]) (fun k => []) (fun k => k ≤ l.length ∧ ∀ j, j < k → l.getD j default = m.getD j default) (fun k => l.length - k) (0) ⟨Nat.zero_le _, fun j h => by omega⟩ rfl (by simp [Fits]) ?_
    rintro k j ⟨hk, ha⟩
    have o1 : k < l.length → OkO (l.getD k default) := fun h => hlo _ (mem_getD h)
    have o2 : k < m.length → OkO (m.getD k default) := fun h => hmo _ (mem_getD h)
    simp -implicitDefEqProofs (disch := omega) only [go_sem, ↓reduceIte, Nat.reduceAdd, Nat.reduceSub, Nat.reduceMul, Nat.reduceLeDiff, Nat.reduceLT, Nat.reduceEqDiff, Int.reduceNeg, Nat.reduceBEq]
    (repeat' (first | refine g_true ?_ ?_ | refine g_false ?_ ?_ | refine cond_intro ?_ ?_ | (refine c_ctrE (ctr16 (l.getD k default) (m.getD k default) (o1 (by omega)) (o2 (by omega))) ?_ ?_; (focus (simp -implicitDefEqProofs (disch := omega) only [avs, avb, avi, avo, sigCells, opCells, pairCells, go_sem, ↓reduceIte, Nat.reduceAdd, Nat.reduceSub, Nat.reduceMul, Nat.reduceLeDiff, Nat.reduceLT, Nat.reduceEqDiff, Int.reduceNeg, Nat.reduceBEq]; done)); simp -implicitDefEqProofs (disch := omega) only [go_sem, ↓reduceIte, Nat.reduceAdd, Nat.reduceSub, Nat.reduceMul, Nat.reduceLeDiff, Nat.reduceLT, Nat.reduceEqDiff, Int.reduceNeg, Nat.reduceBEq]) | refine And.intro (by omega) ?_ | (intro hr; have hc := hr; (try simp only [decide_eq_true_eq, decide_eq_false_iff_not, Bool.not_eq_true', Bool.not_eq_false'] at hc); simp -implicitDefEqProofs (disch := omega) only [hr, go_sem, ↓reduceIte, Nat.reduceAdd, Nat.reduceSub, Nat.reduceMul, Nat.reduceLeDiff, Nat.reduceLT, Nat.reduceEqDiff, Int.reduceNeg, Nat.reduceBEq]; (try clear hr))))
    · refine fin_eq ?_ (by rfl)
      have : l ≠ m := fun h => by simp [h] at *
      rw [decide_eq_false this]
    · exact ⟨k + 1, ⟨by omega, below_succ ha (by simpa using hc)⟩, by omega, by simp⟩
    · refine fin_eq ?_ (by rfl)
      have : l = m := eq_getD (d := default) (by omega) (fun j hj => ha j (by omega))
      rw [decide_eq_true this]
theorem same_no {s t : LSig} {α : Type} (f : LSig → α) (h : ¬ f s = f t) : sameB s t = false := by
  rw [← Bool.not_eq_true, same_eq]
  exact fun e => h (by rw [e])
set_option maxHeartbeats 4000000 in
theorem ctr29 (s t : LSig) (hs : OkS s) (ht : OkS t): Ctr Tryz.prog G0 29 [.agg (sigCells s), .agg (sigCells t)] (.b (sameB s t)) := by
  refine sem_intro (rx := false) mixed Tryz.func29 rfl (by kernel_rfl) (by kernel_rfl) (ac := ?_) ?_ g0 ?_
  rotate_left
  · simp only [strip, stripOps, stripOp, hoist, List.filter_cons, List.filter_nil, List.nil_append, List.cons_append, isFree, anyPre, Region.binds, Bool.not_true, Bool.not_false, Bool.false_eq_true, if_true, if_false, Option.isNone_none, Option.isNone_some, Bool.true_and, Bool.false_and, List.map_nil, List.map_cons, List.isEmpty_nil, List.isEmpty_cons, List.append_nil]
    rfl
  · simp -implicitDefEqProofs (disch := omega) only [Tryz.f29, go_sem, List.replicate, ↓reduceIte, Nat.reduceAdd, Nat.reduceSub, Nat.reduceMul, Nat.reduceLeDiff, Nat.reduceLT, Nat.reduceEqDiff, Int.reduceNeg, Nat.reduceBEq]
    have b1 := hs.below
    have b2 := ht.below
    (repeat' (first | refine g_true ?_ ?_ | refine g_false ?_ ?_ | refine cond_intro ?_ ?_ | (refine c_ctrE (ctr67 s.sorts t.sorts hs.sorts ht.sorts) ?_ ?_; (focus (simp -implicitDefEqProofs (disch := omega) only [avs, avb, avi, avo, sigCells, opCells, pairCells, go_sem, ↓reduceIte, Nat.reduceAdd, Nat.reduceSub, Nat.reduceMul, Nat.reduceLeDiff, Nat.reduceLT, Nat.reduceEqDiff, Int.reduceNeg, Nat.reduceBEq]; done)); simp -implicitDefEqProofs (disch := omega) only [go_sem, ↓reduceIte, Nat.reduceAdd, Nat.reduceSub, Nat.reduceMul, Nat.reduceLeDiff, Nat.reduceLT, Nat.reduceEqDiff, Int.reduceNeg, Nat.reduceBEq]) | (refine c_ctrE (ctr67 s.values t.values hs.values ht.values) ?_ ?_; (focus (simp -implicitDefEqProofs (disch := omega) only [avs, avb, avi, avo, sigCells, opCells, pairCells, go_sem, ↓reduceIte, Nat.reduceAdd, Nat.reduceSub, Nat.reduceMul, Nat.reduceLeDiff, Nat.reduceLT, Nat.reduceEqDiff, Int.reduceNeg, Nat.reduceBEq]; done)); simp -implicitDefEqProofs (disch := omega) only [go_sem, ↓reduceIte, Nat.reduceAdd, Nat.reduceSub, Nat.reduceMul, Nat.reduceLeDiff, Nat.reduceLT, Nat.reduceEqDiff, Int.reduceNeg, Nat.reduceBEq]) | (refine c_ctrE (ctr84 s.ops t.ops hs.ops ht.ops hs.opsO ht.opsO) ?_ ?_; (focus (simp -implicitDefEqProofs (disch := omega) only [avs, avb, avi, avo, sigCells, opCells, pairCells, go_sem, ↓reduceIte, Nat.reduceAdd, Nat.reduceSub, Nat.reduceMul, Nat.reduceLeDiff, Nat.reduceLT, Nat.reduceEqDiff, Int.reduceNeg, Nat.reduceBEq]; done)); simp -implicitDefEqProofs (disch := omega) only [go_sem, ↓reduceIte, Nat.reduceAdd, Nat.reduceSub, Nat.reduceMul, Nat.reduceLeDiff, Nat.reduceLT, Nat.reduceEqDiff, Int.reduceNeg, Nat.reduceBEq]) | (refine c_ctrE (ctr84 s.funs t.funs hs.funs ht.funs hs.funsO ht.funsO) ?_ ?_; (focus (simp -implicitDefEqProofs (disch := omega) only [avs, avb, avi, avo, sigCells, opCells, pairCells, go_sem, ↓reduceIte, Nat.reduceAdd, Nat.reduceSub, Nat.reduceMul, Nat.reduceLeDiff, Nat.reduceLT, Nat.reduceEqDiff, Int.reduceNeg, Nat.reduceBEq]; done)); simp -implicitDefEqProofs (disch := omega) only [go_sem, ↓reduceIte, Nat.reduceAdd, Nat.reduceSub, Nat.reduceMul, Nat.reduceLeDiff, Nat.reduceLT, Nat.reduceEqDiff, Int.reduceNeg, Nat.reduceBEq]) | refine And.intro (by omega) ?_ | (intro hr; have hc := hr; (try simp only [decide_eq_true_eq, decide_eq_false_iff_not, Bool.not_eq_true', Bool.not_eq_false'] at hc); simp -implicitDefEqProofs (disch := omega) only [hr, go_sem, ↓reduceIte, Nat.reduceAdd, Nat.reduceSub, Nat.reduceMul, Nat.reduceLeDiff, Nat.reduceLT, Nat.reduceEqDiff, Int.reduceNeg, Nat.reduceBEq]; (try clear hr))))
    all_goals first | (refine fin_eq ?_ (by rfl); first | rw [same_no LSig.sorts hc] | rw [same_no LSig.values hc] | rw [same_no LSig.ops hc] | rw [same_no LSig.funs hc] | rw [same_no (fun s => (s.below.length : Int)) hc]; done) | skip
    refine x_loopJ (fun (k : Nat) => [.k, .k, .k, .k, .j, .j, .k, .k, .k, .k, .k, .k, .k, .k, .k, .k, .k, .k, .k, .k, .k, .k, .k, .k, .k, .k, .k, .k, .k, .k, .k, .k, .k, .k, .k, .k, .k, .k, .k, .k, .k, .k, .k, .k, .k, .k, .k, .k, .v (.i .i64 k), .j, .j, .j, .j, .j, .j, .j, .j, .j, .j, .j, .j, .j, .j]) (fun k => [.box false [.sl (s.sorts.map .s) s.sorts.length, .sl (s.below.flatMap pairCells) s.below.length, .sl (s.ops.flatMap opCells) s.ops.length, .sl (s.funs.flatMap opCells) s.funs.length, .sl (s.values.map .s) s.values.length], .box false (sigCells t)]) (fun k => k ≤ s.below.length ∧ ∀ j, j < k → s.below.getD j ([], []) = t.below.getD j ([], [])) (fun k => s.below.length - k) (0) ⟨Nat.zero_le _, fun j h => by omega⟩ rfl (by simp [Fits]) ?_
    rintro k j ⟨hk, hp⟩
    simp -implicitDefEqProofs (disch := omega) only [pairB, go_sem, ↓reduceIte, Nat.reduceAdd, Nat.reduceSub, Nat.reduceMul, Nat.reduceLeDiff, Nat.reduceLT, Nat.reduceEqDiff, Int.reduceNeg, Nat.reduceBEq]
    (repeat' (first | refine g_true ?_ ?_ | refine g_false ?_ ?_ | refine cond_intro ?_ ?_ | refine And.intro (by omega) ?_ | (intro hr; have hc := hr; (try simp only [decide_eq_true_eq, decide_eq_false_iff_not, Bool.not_eq_true', Bool.not_eq_false'] at hc); simp -implicitDefEqProofs (disch := omega) only [hr, pairB, go_sem, ↓reduceIte, Nat.reduceAdd, Nat.reduceSub, Nat.reduceMul, Nat.reduceLeDiff, Nat.reduceLT, Nat.reduceEqDiff, Int.reduceNeg, Nat.reduceBEq]; (try clear hr))))
    · refine fin_eq ?_ (by rfl)
      rw [same_no LSig.below (fun h => by simp [h] at *)]
    · exact ⟨k + 1, ⟨by omega, below_succ hp (Prod.ext_iff.2 (by simpa using hc))⟩, by omega, by simp⟩
    · have hpe : s.below = t.below := eq_getD (d := ([], [])) (by omega) (fun j hj => hp j (by omega))
      refine fin_eq ?_ (by rfl)
      simp_all [sameB]
end Go.Proofs.YtadileniakikeaaGreatDoor

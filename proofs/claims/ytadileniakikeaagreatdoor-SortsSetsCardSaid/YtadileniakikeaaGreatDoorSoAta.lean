/-
  What functions of the chapter return, as plain functions of what they are given; no condition beyond those that each theorem names.
-/
import Derived.Test.YtadileniakikeaaGreatDoorSoAt
set_option maxRecDepth 100000
set_option linter.unusedSimpArgs false
set_option linter.unusedVariables false
namespace Go.Proofs.YtadileniakikeaaGreatDoor
open Go Go.Vo

/-! ## the reference: sorting -/
theorem gt_str {x y : Str} : (!(Op.bytesLess x y || decide (x = y))) = decide (y < x) := by
  rw [bytesLess_eq]
  rcases Decidable.em (x < y) with h | h
  · have : ¬ y < x := List.lt_asymm h
    simp [h, this]
  · rcases Decidable.em (x = y) with e | e
    · subst e
      have : ¬ x < x := List.lt_irrefl x
      simp [this]
    · have : y < x := by
        have h2 : y ≤ x := List.not_lt.1 h
        rcases List.le_iff_lt_or_eq.1 h2 with h3 | h3
        · exact h3
        · exact absurd h3.symm e
      simp [h, e, this]
def insAt (O : List Str) (s : Str) (a : Nat) : List Str := O.take a ++ s :: O.drop a
theorem insAt_perm {O : List Str} {s : Str} {a : Nat} : (insAt O s a).Perm (s :: O) := by
  unfold insAt
  refine List.perm_middle.trans ?_
  rw [List.take_append_drop]
theorem insAt_sorted {O : List Str} {s : Str} {a : Nat} (ha : a ≤ O.length) (hO : O.Pairwise fun x y => x ≤ y) (h1 : ∀ j, a ≤ j → j < O.length → s < O.getD j []) (h2 : 0 < a → ¬ s < O.getD (a - 1) []) : (insAt O s a).Pairwise fun x y => x ≤ y := by
  have hsplit : (O.take a ++ O.drop a).Pairwise fun x y => x ≤ y := by rw [List.take_append_drop]; exact hO
  rw [List.pairwise_append] at hsplit
  obtain ⟨p1, p2, p3⟩ := hsplit
  have hge : ∀ y ∈ O.drop a, s ≤ y := by
    intro y hy
    obtain ⟨j, hj, rfl⟩ := List.mem_iff_getElem.1 hy
    have hl : j < O.length - a := by simpa using hj
    have := h1 (a + j) (by omega) (by omega)
    rw [getD_el (by omega)] at this
    rw [List.getElem_drop]
    exact List.le_of_lt this
  unfold insAt
  rw [List.pairwise_append]
  refine ⟨p1, List.pairwise_cons.2 ⟨hge, p2⟩, ?_⟩
  intro x hx y hy
  rcases List.mem_cons.1 hy with rfl | hy
  · obtain ⟨j, hj, rfl⟩ := List.mem_iff_getElem.1 hx
    have hl : j < a := by simp at hj; omega
    rw [List.getElem_take]
    have h3 := h2 (by omega)
    rw [getD_el (by omega)] at h3
    have h4 : O[a - 1] ≤ y := List.not_lt.1 h3
    rcases Nat.lt_or_ge j (a - 1) with h | h
    · exact List.le_trans (List.pairwise_iff_getElem.1 hO j (a - 1) (by omega) (by omega) h) h4
    · have : j = a - 1 := by omega
      subst this; exact h4
  · exact p3 x hx y hy
set_option maxHeartbeats 4000000 in
theorem ctr75 (l : List Str) (hl : l.length ≤ 1000000): Ctr Tryz.prog G0 75 [avs l] (.own 1 ((sortS l).map .s) (sortS l).length) := by
  refine sem_intro (rx := true) mixed Tryz.func75 rfl (by kernel_rfl) (by kernel_rfl) (ac := ?_) ?_ g0 ?_
  rotate_left
  · simp only [strip, stripOps, stripOp, hoist, List.filter_cons, List.filter_nil, List.nil_append, List.cons_append, isFree, anyPre, Region.binds, Bool.not_true, Bool.not_false, Bool.false_eq_true, if_true, if_false, Option.isNone_none, Option.isNone_some, Bool.true_and, Bool.false_and, List.map_nil, List.map_cons, List.isEmpty_nil, List.isEmpty_cons, List.append_nil, ckOf, preIs, isMade, isApp, List.getElem?_toArray, List.getElem?_cons_zero, List.getElem?_cons_succ, Bool.or_false, Bool.or_true, Bool.true_or, Bool.false_or, beq_self_eq_true, Option.some_beq_some, Nat.reduceBEq]
    rfl
  · simp -implicitDefEqProofs (disch := omega) only [Tryz.f75, go_sem, List.replicate, ↓reduceIte, Nat.reduceAdd, Nat.reduceSub, Nat.reduceMul, Nat.reduceLeDiff, Nat.reduceLT, Nat.reduceEqDiff, Int.reduceNeg, Nat.reduceBEq, avs]
    refine x_loopJ (fun (t : Nat × List Str × AV × List AObj) => [.k, .k, .k, .v (t.2.2.1), .k, .j, .j, .k, .k, .v (.i .i64 (t.1 : Nat)), .j, .j, .j, .j, .j, .j, .j, .j, .j, .j, .j, .j, .j, .j, .j, .j, .j, .j, .j, .j, .j, .j, .j, .j, .j, .j, .j, .j, .j, .j, .k]) (fun t => t.2.2.2) (fun t => t.1 ≤ l.length ∧ t.2.1.Perm (l.take t.1) ∧ t.2.1.Pairwise (fun x y => x ≤ y) ∧ OutIs 1 0 t.2.2.2 t.2.2.1 (t.2.1.map .s) t.2.1.length) (fun t => l.length - t.1) ((0, [], .e0, [])) ⟨Nat.zero_le _, by simp, List.Pairwise.nil, outIs_e0⟩ rfl (by simp [Fits]) ?_
    rintro ⟨k, O, out, g⟩ j ⟨hk, hP, hS, ho⟩
    dsimp only at hk hP hS ho
    have hlen : O.length = k := by have := hP.length_eq; simp at this; omega
    have hnew : k < l.length → ∀ a, a ≤ O.length → (∀ j, a ≤ j → j < O.length → l.getD k [] < O.getD j []) → (0 < a → ¬ l.getD k [] < O.getD (a - 1) []) → (insAt O (l.getD k []) a).Perm (l.take (k + 1)) ∧ (insAt O (l.getD k []) a).Pairwise (fun x y => x ≤ y) := by
      intro hkl a ha h1 h2
      refine ⟨?_, insAt_sorted ha hS h1 h2⟩
      rw [take_getD (d := []) hkl]
      exact insAt_perm.trans ((List.Perm.cons _ hP).trans (List.perm_append_comm (l₁ := [l.getD k []])))
    have hfin : l.length ≤ k → sortS l = O := fun h => by
      rw [List.take_of_length_le h] at hP
      exact sort_is hP.symm hS
    rcases ho with ⟨rfl, hnil, _⟩ | ⟨i0, rfl, hg, _⟩
    · have hnil : O = [] := by simpa using hnil
      subst hnil
      simp -implicitDefEqProofs (disch := omega) only [go_sem, ↓reduceIte, Nat.reduceAdd, Nat.reduceSub, Nat.reduceMul, Nat.reduceLeDiff, Nat.reduceLT, Nat.reduceEqDiff, Int.reduceNeg, Nat.reduceBEq]
      (repeat' (first | refine g_true ?_ ?_ | refine g_false ?_ ?_ | refine cond_intro ?_ ?_ | refine And.intro (by omega) ?_ | (intro hr; have hc := hr; (try simp only [decide_eq_true_eq, decide_eq_false_iff_not, Bool.not_eq_true', Bool.not_eq_false'] at hc); simp -implicitDefEqProofs (disch := omega) only [hr, go_sem, ↓reduceIte, Nat.reduceAdd, Nat.reduceSub, Nat.reduceMul, Nat.reduceLeDiff, Nat.reduceLT, Nat.reduceEqDiff, Int.reduceNeg, Nat.reduceBEq]; (try clear hr))))
      · refine x_loopJ (fun (a : Nat) => [.k, .k, .k, .k, .k, .k, .v (.i .i64 (a : Nat)), .k, .k, .k, .k, .k, .k, .k, .k, .j, .j, .j, .j, .j, .j, .j, .j, .j, .j, .j, .j, .j, .k, .k, .k, .k, .k, .k, .k, .k, .k, .k, .k, .k, .k]) (fun a => g) (fun a => a = 0) (fun a => a) (0) rfl rfl (by simp [Fits]) ?_
        rintro a j ha
        subst ha
        simp -implicitDefEqProofs (disch := omega) only [go_sem, ↓reduceIte, Nat.reduceAdd, Nat.reduceSub, Nat.reduceMul, Nat.reduceLeDiff, Nat.reduceLT, Nat.reduceEqDiff, Int.reduceNeg, Nat.reduceBEq]
        (repeat' (first | refine g_true ?_ ?_ | refine g_false ?_ ?_ | refine cond_intro ?_ ?_ | refine And.intro (by omega) ?_ | (intro hr; have hc := hr; (try simp only [decide_eq_true_eq, decide_eq_false_iff_not, Bool.not_eq_true', Bool.not_eq_false'] at hc); simp -implicitDefEqProofs (disch := omega) only [hr, go_sem, ↓reduceIte, Nat.reduceAdd, Nat.reduceSub, Nat.reduceMul, Nat.reduceLeDiff, Nat.reduceLT, Nat.reduceEqDiff, Int.reduceNeg, Nat.reduceBEq]; (try clear hr))))
        · exfalso; omega
        · obtain ⟨e1, e2⟩ := hnew (by omega) 0 (Nat.zero_le _) (fun j h1 h2 => by simp at h2) (fun h => by omega)
          exact ⟨(k + 1, [l.getD k []], _, _), ⟨by dsimp only; omega, e1, e2, .inr ⟨g.length + 2, rfl, by simp, by simp⟩⟩, by dsimp only; omega, rfl, rfl, by simp⟩
      · rw [hfin (by omega)]
        exact fin_out (pre := []) outIs_e0 rfl
    · have hi0 := lt_of_some hg
      have hg2 : ∀ m, (g ++ m)[i0]? = some (.arr false 1 (O.map .s)) := fun m => by rw [List.getElem?_append_left hi0]; exact hg
      simp -implicitDefEqProofs (disch := omega) only [hg, go_sem, ↓reduceIte, Nat.reduceAdd, Nat.reduceSub, Nat.reduceMul, Nat.reduceLeDiff, Nat.reduceLT, Nat.reduceEqDiff, Int.reduceNeg, Nat.reduceBEq]
      (repeat' (first | refine g_true ?_ ?_ | refine g_false ?_ ?_ | refine cond_intro ?_ ?_ | refine And.intro (by omega) ?_ | (intro hr; have hc := hr; (try simp only [decide_eq_true_eq, decide_eq_false_iff_not, Bool.not_eq_true', Bool.not_eq_false'] at hc); simp -implicitDefEqProofs (disch := omega) only [hr, hg, go_sem, ↓reduceIte, Nat.reduceAdd, Nat.reduceSub, Nat.reduceMul, Nat.reduceLeDiff, Nat.reduceLT, Nat.reduceEqDiff, Int.reduceNeg, Nat.reduceBEq]; (try clear hr))))
      · refine x_loopJ (fun (a : Nat) => [.k, .k, .k, .k, .k, .k, .v (.i .i64 (a : Nat)), .k, .k, .k, .k, .k, .k, .k, .k, .j, .j, .j, .j, .j, .j, .j, .j, .j, .j, .j, .j, .j, .k, .k, .k, .k, .k, .k, .k, .k, .k, .k, .k, .k, .k]) (fun a => g) (fun a => a ≤ O.length ∧ ∀ j, a ≤ j → j < O.length → l.getD k [] < O.getD j []) (fun a => a) (O.length) ⟨Nat.le_refl _, fun j h1 h2 => by omega⟩ rfl (by simp [Fits]) ?_
        rintro a j ⟨ha, hb⟩
        have f1 : a + (O.length - a) ≤ O.length := by omega
        have f2 : List.take (O.length - a) (List.drop a O) = List.drop a O := List.take_of_length_le (by simp)
        have f3 : (1 + (O.length - a)) * 16 ≤ 140737488355328 ∧ 1 + (O.length - a) ≤ 140737488355328 := by omega
        have f4 : (a + (1 + (O.length - a))) * 16 ≤ 140737488355328 ∧ a + (1 + (O.length - a)) ≤ 140737488355328 := by omega
        have f5 : 1 + (O.length - a) ≤ O.length - a + 1 := by omega
        have f6 : List.take (1 + (O.length - a)) (AV.s (l.getD k []) :: (O.drop a).map .s) = AV.s (l.getD k []) :: (O.drop a).map .s := List.take_of_length_le (by simp; omega)
        have f7 : 0 < 1 + (O.length - a) := by omega
        simp -implicitDefEqProofs (disch := omega) only [hg, gt_str, hg2, f1, f2, f3, f4, f5, f6, f7, ha, go_sem, ↓reduceIte, Nat.reduceAdd, Nat.reduceSub, Nat.reduceMul, Nat.reduceLeDiff, Nat.reduceLT, Nat.reduceEqDiff, Int.reduceNeg, Nat.reduceBEq]
        (repeat' (first | refine g_true ?_ ?_ | refine g_false ?_ ?_ | refine cond_intro ?_ ?_ | refine And.intro (by omega) ?_ | (intro hr; have hc := hr; (try simp only [decide_eq_true_eq, decide_eq_false_iff_not, Bool.not_eq_true', Bool.not_eq_false'] at hc); simp -implicitDefEqProofs (disch := omega) only [hr, hg, gt_str, hg2, f1, f2, f3, f4, f5, f6, f7, ha, go_sem, ↓reduceIte, Nat.reduceAdd, Nat.reduceSub, Nat.reduceMul, Nat.reduceLeDiff, Nat.reduceLT, Nat.reduceEqDiff, Int.reduceNeg, Nat.reduceBEq]; (try clear hr))))
        · refine ⟨a - 1, ⟨by omega, fun j h1 h2 => ?_⟩, by omega, by congr 1; omega⟩
          rcases Nat.eq_or_lt_of_le h1 with e | e
          · subst e; exact hc
          · exact hb j (by omega) h2
        all_goals (
          obtain ⟨e1, e2⟩ := hnew (by omega) a ha hb (fun h => by first | exact hc | omega)
          refine ⟨(k + 1, insAt O (l.getD k []) a, _, _), ⟨by dsimp only; omega, e1, e2, .inr ⟨g.length + 2, ?_, by simp [insAt], by simp⟩⟩, by dsimp only; omega, rfl, rfl, by simp⟩
          congr 1
          simp [insAt]
          omega)
      · rw [hfin (by omega)]
        refine fin_out (pre := []) (.inr ⟨i0, rfl, hg, by simp⟩) persL_s
def keysB (s : LSig) : List Str := alwaysB ++ s.sorts
theorem keysB_len {s : LSig} (h : Small s) : (keysB s).length ≤ 107 := by have := h.sorts; simp [keysB, alwaysB]; omega
set_option maxHeartbeats 4000000 in
theorem ctr73 (s : LSig) (hm : Small s): Ctr Tryz.prog G0 73 [.agg (sigCells s)] (.own 1 ((keysB s).map .s) (keysB s).length) := by
  refine sem_intro (rx := false) mixed Tryz.func73 rfl (by kernel_rfl) (by kernel_rfl) (ac := ?_) ?_ g0 ?_
  rotate_left
  · simp only [strip, stripOps, stripOp, hoist, List.filter_cons, List.filter_nil, List.nil_append, List.cons_append, isFree, anyPre, Region.binds, Bool.not_true, Bool.not_false, Bool.false_eq_true, if_true, if_false, Option.isNone_none, Option.isNone_some, Bool.true_and, Bool.false_and, List.map_nil, List.map_cons, List.isEmpty_nil, List.isEmpty_cons, List.append_nil]
    rfl
  · simp -implicitDefEqProofs (disch := omega) only [Tryz.f73, go_sem, List.replicate, ↓reduceIte, Nat.reduceAdd, Nat.reduceSub, Nat.reduceMul, Nat.reduceLeDiff, Nat.reduceLT, Nat.reduceEqDiff, Int.reduceNeg, Nat.reduceBEq]
    have h1 := hm.sorts
    (repeat' (first | refine g_true ?_ ?_ | refine g_false ?_ ?_ | refine cond_intro ?_ ?_ | (refine c_ctrE (ctr78) ?_ ?_; (focus (simp -implicitDefEqProofs (disch := omega) only [alwaysB, avs, avb, avi, avo, sigCells, opCells, pairCells, go_sem, ↓reduceIte, Nat.reduceAdd, Nat.reduceSub, Nat.reduceMul, Nat.reduceLeDiff, Nat.reduceLT, Nat.reduceEqDiff, Int.reduceNeg, Nat.reduceBEq]; done)); simp -implicitDefEqProofs (disch := omega) only [alwaysB, go_sem, ↓reduceIte, Nat.reduceAdd, Nat.reduceSub, Nat.reduceMul, Nat.reduceLeDiff, Nat.reduceLT, Nat.reduceEqDiff, Int.reduceNeg, Nat.reduceBEq]) | refine And.intro (by omega) ?_ | (intro hr; have hc := hr; (try simp only [decide_eq_true_eq, decide_eq_false_iff_not, Bool.not_eq_true', Bool.not_eq_false'] at hc); simp -implicitDefEqProofs (disch := omega) only [hr, alwaysB, go_sem, ↓reduceIte, Nat.reduceAdd, Nat.reduceSub, Nat.reduceMul, Nat.reduceLeDiff, Nat.reduceLT, Nat.reduceEqDiff, Int.reduceNeg, Nat.reduceBEq]; (try clear hr))))
    exact fin_own (cs := (keysB s).map .s) (by simp [keysB, alwaysB]) (by simp [keysB, alwaysB]; omega) rfl (by simp [keysB, alwaysB]; omega) persL_s
set_option maxHeartbeats 4000000 in
theorem ctr26 (s : LSig) (hm : Small s): Ctr Tryz.prog G0 26 [.agg (sigCells s)] (.own 1 ((keysB s).map .s) (keysB s).length) := by
  refine sem_intro (rx := false) mixed Tryz.func26 rfl (by kernel_rfl) (by kernel_rfl) (ac := ?_) ?_ g0 ?_
  rotate_left
  · simp only [strip, stripOps, stripOp, hoist, List.filter_cons, List.filter_nil, List.nil_append, List.cons_append, isFree, anyPre, Region.binds, Bool.not_true, Bool.not_false, Bool.false_eq_true, if_true, if_false, Option.isNone_none, Option.isNone_some, Bool.true_and, Bool.false_and, List.map_nil, List.map_cons, List.isEmpty_nil, List.isEmpty_cons, List.append_nil]
    rfl
  · simp -implicitDefEqProofs (disch := omega) only [Tryz.f26, go_sem, List.replicate, ↓reduceIte, Nat.reduceAdd, Nat.reduceSub, Nat.reduceMul, Nat.reduceLeDiff, Nat.reduceLT, Nat.reduceEqDiff, Int.reduceNeg, Nat.reduceBEq]
    have h1 := hm.sorts
    (repeat' (first | refine g_true ?_ ?_ | refine g_false ?_ ?_ | refine cond_intro ?_ ?_ | (refine c_ctrE (ctr78) ?_ ?_; (focus (simp -implicitDefEqProofs (disch := omega) only [alwaysB, avs, avb, avi, avo, sigCells, opCells, pairCells, go_sem, ↓reduceIte, Nat.reduceAdd, Nat.reduceSub, Nat.reduceMul, Nat.reduceLeDiff, Nat.reduceLT, Nat.reduceEqDiff, Int.reduceNeg, Nat.reduceBEq]; done)); simp -implicitDefEqProofs (disch := omega) only [alwaysB, go_sem, ↓reduceIte, Nat.reduceAdd, Nat.reduceSub, Nat.reduceMul, Nat.reduceLeDiff, Nat.reduceLT, Nat.reduceEqDiff, Int.reduceNeg, Nat.reduceBEq]) | refine And.intro (by omega) ?_ | (intro hr; have hc := hr; (try simp only [decide_eq_true_eq, decide_eq_false_iff_not, Bool.not_eq_true', Bool.not_eq_false'] at hc); simp -implicitDefEqProofs (disch := omega) only [hr, alwaysB, go_sem, ↓reduceIte, Nat.reduceAdd, Nat.reduceSub, Nat.reduceMul, Nat.reduceLeDiff, Nat.reduceLT, Nat.reduceEqDiff, Int.reduceNeg, Nat.reduceBEq]; (try clear hr))))
    exact fin_own (cs := (keysB s).map .s) (by simp [keysB, alwaysB]) (by simp [keysB, alwaysB]; omega) rfl (by simp [keysB, alwaysB]; omega) persL_s
theorem filter_succ {α : Type} {l : List α} {q : α → Bool} {k : Nat} {d : α} (h : k < l.length) : (l.take (k + 1)).filter q = (l.take k).filter q ++ if q (l.getD k d) = true then [l.getD k d] else [] := by
  rw [take_getD (d := d) h, List.filter_append]
  congr 1
  cases hq : q (l.getD k d) <;> simp only [List.filter_cons, List.filter_nil, hq, if_true, Bool.false_eq_true, if_false]
def listE (s : LSig) (x : Str) (l : List Str) : AV := .tup [.own 1 ((sortS l).map .s) (sortS l).length, .i .i64 (sureC s [x])]
set_option maxHeartbeats 4000000 in
theorem ctr20 (s : LSig) (x : Str) (hm : Small s) (hs : OkS s): Ctr Tryz.prog G0 20 [.agg (sigCells s), .s x] (listE s x ((keysB s).filter fun y => decide (sureC s [x] = 0) && underR s x y)) := by
  refine sem_intro (rx := false) mixed Tryz.func20 rfl (by kernel_rfl) (by kernel_rfl) (ac := ?_) ?_ g0 ?_
  rotate_left
  · simp only [strip, stripOps, stripOp, hoist, List.filter_cons, List.filter_nil, List.nil_append, List.cons_append, isFree, anyPre, Region.binds, Bool.not_true, Bool.not_false, Bool.false_eq_true, if_true, if_false, Option.isNone_none, Option.isNone_some, Bool.true_and, Bool.false_and, List.map_nil, List.map_cons, List.isEmpty_nil, List.isEmpty_cons, List.append_nil]
    rfl
  · simp -implicitDefEqProofs (disch := omega) only [Tryz.f20, go_sem, List.replicate, ↓reduceIte, Nat.reduceAdd, Nat.reduceSub, Nat.reduceMul, Nat.reduceLeDiff, Nat.reduceLT, Nat.reduceEqDiff, Int.reduceNeg, Nat.reduceBEq]
    have hK := keysB_len hm
    generalize hq : (fun y => decide (sureC s [x] = 0) && underR s x y) = q
    (repeat' (first | refine g_true ?_ ?_ | refine g_false ?_ ?_ | refine cond_intro ?_ ?_ | (refine c_ctrE (ctr72 s [x] hm hs (by simp)) ?_ ?_; (focus (simp -implicitDefEqProofs (disch := omega) only [avs, avb, avi, avo, sigCells, opCells, pairCells, go_sem, ↓reduceIte, Nat.reduceAdd, Nat.reduceSub, Nat.reduceMul, Nat.reduceLeDiff, Nat.reduceLT, Nat.reduceEqDiff, Int.reduceNeg, Nat.reduceBEq]; done)); simp -implicitDefEqProofs (disch := omega) only [go_sem, ↓reduceIte, Nat.reduceAdd, Nat.reduceSub, Nat.reduceMul, Nat.reduceLeDiff, Nat.reduceLT, Nat.reduceEqDiff, Int.reduceNeg, Nat.reduceBEq]) | (refine c_ctrE (ctr73 s hm) ?_ ?_; (focus (simp -implicitDefEqProofs (disch := omega) only [avs, avb, avi, avo, sigCells, opCells, pairCells, go_sem, ↓reduceIte, Nat.reduceAdd, Nat.reduceSub, Nat.reduceMul, Nat.reduceLeDiff, Nat.reduceLT, Nat.reduceEqDiff, Int.reduceNeg, Nat.reduceBEq]; done)); simp -implicitDefEqProofs (disch := omega) only [go_sem, ↓reduceIte, Nat.reduceAdd, Nat.reduceSub, Nat.reduceMul, Nat.reduceLeDiff, Nat.reduceLT, Nat.reduceEqDiff, Int.reduceNeg, Nat.reduceBEq]) | refine And.intro (by omega) ?_ | (intro hr; have hc := hr; (try simp only [decide_eq_true_eq, decide_eq_false_iff_not, Bool.not_eq_true', Bool.not_eq_false'] at hc); simp -implicitDefEqProofs (disch := omega) only [hr, go_sem, ↓reduceIte, Nat.reduceAdd, Nat.reduceSub, Nat.reduceMul, Nat.reduceLeDiff, Nat.reduceLT, Nat.reduceEqDiff, Int.reduceNeg, Nat.reduceBEq]; (try clear hr))))
    refine x_loopJ (fun (t : Nat × AV × List AObj) => [.k, .k, .k, .k, .k, .k, .k, .v (t.2.1), .k, .j, .k, .k, .k, .k, .k, .k, .k, .v (.i .i64 (t.1 : Nat)), .j, .j, .j, .j, .j, .j, .j, .j, .j, .j, .j, .j, .j, .j, .j, .j, .k, .k, .k]) (fun t => .box false [.sl (s.sorts.map .s) s.sorts.length, .sl (s.below.flatMap pairCells) s.below.length, .sl (s.ops.flatMap opCells) s.ops.length, .sl (s.funs.flatMap opCells) s.funs.length, .sl (s.values.map .s) s.values.length] :: .arr false 1 [.s x] :: .arr false 1 ((keysB s).map .s) :: t.2.2) (fun t => t.1 ≤ (keysB s).length ∧ OutIs 1 3 t.2.2 t.2.1 ((((keysB s).take t.1).filter q).map .s) (((keysB s).take t.1).filter q).length) (fun t => (keysB s).length - t.1) ((0, .e0, [])) ⟨Nat.zero_le _, outIs_e0⟩ rfl (by simp [Fits]) ?_
    rintro ⟨k, out, g⟩ j ⟨hk, ho⟩
    dsimp only at hk ho
    have hsucc : k < (keysB s).length → _ := fun h => filter_succ (q := q) (d := []) h
    have hqk : q ((keysB s).getD k []) = (decide (sureC s [x] = 0) && underR s x ((keysB s).getD k [])) := by rw [← hq]
    have hfl : (((keysB s).take k).filter q).length ≤ 107 := Nat.le_trans (List.length_filter_le _ _) (by simp; omega)
    simp -implicitDefEqProofs (disch := omega) only [go_sem, ↓reduceIte, Nat.reduceAdd, Nat.reduceSub, Nat.reduceMul, Nat.reduceLeDiff, Nat.reduceLT, Nat.reduceEqDiff, Int.reduceNeg, Nat.reduceBEq]
    (repeat' (first | refine g_true ?_ ?_ | refine g_false ?_ ?_ | refine cond_intro ?_ ?_ | (refine c_ctrE (ctr74 s x ((keysB s).getD k []) hm) ?_ ?_; (focus (simp -implicitDefEqProofs (disch := omega) only [avs, avb, avi, avo, sigCells, opCells, pairCells, go_sem, ↓reduceIte, Nat.reduceAdd, Nat.reduceSub, Nat.reduceMul, Nat.reduceLeDiff, Nat.reduceLT, Nat.reduceEqDiff, Int.reduceNeg, Nat.reduceBEq]; done)); simp -implicitDefEqProofs (disch := omega) only [go_sem, ↓reduceIte, Nat.reduceAdd, Nat.reduceSub, Nat.reduceMul, Nat.reduceLeDiff, Nat.reduceLT, Nat.reduceEqDiff, Int.reduceNeg, Nat.reduceBEq]) | refine And.intro (by omega) ?_ | (intro hr; have hc := hr; (try simp only [decide_eq_true_eq, decide_eq_false_iff_not, Bool.not_eq_true', Bool.not_eq_false'] at hc); simp -implicitDefEqProofs (disch := omega) only [hr, go_sem, ↓reduceIte, Nat.reduceAdd, Nat.reduceSub, Nat.reduceMul, Nat.reduceLeDiff, Nat.reduceLT, Nat.reduceEqDiff, Int.reduceNeg, Nat.reduceBEq]; (try clear hr))))
    · have hs1 := hsucc (by omega)
      rw [hqk, decide_eq_true (by assumption), hc, Bool.and_self, if_pos rfl] at hs1
      refine app_intro' (pre := [_, _, _]) (news := [.s ((keysB s).getD k [])]) (m := 1) ho rfl rfl el22 zo9 sz9 by9 rfl (by decide) (by simp -implicitDefEqProofs (disch := omega) only [go_sem, ↓reduceIte, Nat.reduceAdd, Nat.reduceSub, Nat.reduceMul, Nat.reduceLeDiff, Nat.reduceLT, Nat.reduceEqDiff, Int.reduceNeg, Nat.reduceBEq]) (by simp -implicitDefEqProofs (disch := omega) only [go_sem, ↓reduceIte, Nat.reduceAdd, Nat.reduceSub, Nat.reduceMul, Nat.reduceLeDiff, Nat.reduceLT, Nat.reduceEqDiff, Int.reduceNeg, Nat.reduceBEq]) ⟨by omega, by omega⟩ ?_
      intro out' g' ho' _
      simp -implicitDefEqProofs (disch := omega) only [go_sem, ↓reduceIte, Nat.reduceAdd, Nat.reduceSub, Nat.reduceMul, Nat.reduceLeDiff, Nat.reduceLT, Nat.reduceEqDiff, Int.reduceNeg, Nat.reduceBEq]
      refine ⟨(k + 1, out', g'), ⟨by dsimp only; omega, ?_⟩, by dsimp only; omega, rfl, by simp⟩
      dsimp only
      rw [hs1, List.map_append, List.length_append]
      exact ho'
    · have hs1 := hsucc (by omega)
      rw [hqk, hc, Bool.and_false, if_neg (by simp), List.append_nil] at hs1
      refine ⟨(k + 1, out, g), ⟨by dsimp only; omega, ?_⟩, by dsimp only; omega, rfl, by simp⟩
      dsimp only
      rw [hs1]
      exact ho
    · have hs1 := hsucc (by omega)
      rw [hqk, decide_eq_false hc, Bool.false_and, if_neg (by simp), List.append_nil] at hs1
      refine ⟨(k + 1, out, g), ⟨by dsimp only; omega, ?_⟩, by dsimp only; omega, rfl, by simp⟩
      dsimp only
      rw [hs1]
      exact ho
    · rw [List.take_of_length_le (by omega)] at ho hfl
      clear hsucc hqk
      rcases ho with ⟨rfl, hnil, _⟩ | ⟨i0, rfl, hg, _⟩
      · have hnil : (keysB s).filter q = [] := by simpa using hnil
        rw [hnil]
        (repeat' (first | refine g_true ?_ ?_ | refine g_false ?_ ?_ | refine cond_intro ?_ ?_ | (refine c_ctrE (ctr75 [] (by simp)) ?_ ?_; (focus (simp -implicitDefEqProofs (disch := omega) only [avs, avb, avi, avo, sigCells, opCells, pairCells, go_sem, ↓reduceIte, Nat.reduceAdd, Nat.reduceSub, Nat.reduceMul, Nat.reduceLeDiff, Nat.reduceLT, Nat.reduceEqDiff, Int.reduceNeg, Nat.reduceBEq]; done)); simp -implicitDefEqProofs (disch := omega) only [go_sem, ↓reduceIte, Nat.reduceAdd, Nat.reduceSub, Nat.reduceMul, Nat.reduceLeDiff, Nat.reduceLT, Nat.reduceEqDiff, Int.reduceNeg, Nat.reduceBEq]) | refine And.intro (by omega) ?_ | (intro hr; have hc := hr; (try simp only [decide_eq_true_eq, decide_eq_false_iff_not, Bool.not_eq_true', Bool.not_eq_false'] at hc); simp -implicitDefEqProofs (disch := omega) only [hr, go_sem, ↓reduceIte, Nat.reduceAdd, Nat.reduceSub, Nat.reduceMul, Nat.reduceLeDiff, Nat.reduceLT, Nat.reduceEqDiff, Int.reduceNeg, Nat.reduceBEq]; (try clear hr))))
        exact fin_list (by simp)
      · (repeat' (first | refine g_true ?_ ?_ | refine g_false ?_ ?_ | refine cond_intro ?_ ?_ | (refine c_ctrE (ctr75 ((keysB s).filter q) (by omega)) ?_ ?_; (focus (simp -implicitDefEqProofs (disch := omega) only [hg, avs, avb, avi, avo, sigCells, opCells, pairCells, go_sem, ↓reduceIte, Nat.reduceAdd, Nat.reduceSub, Nat.reduceMul, Nat.reduceLeDiff, Nat.reduceLT, Nat.reduceEqDiff, Int.reduceNeg, Nat.reduceBEq]; done)); simp -implicitDefEqProofs (disch := omega) only [hg, go_sem, ↓reduceIte, Nat.reduceAdd, Nat.reduceSub, Nat.reduceMul, Nat.reduceLeDiff, Nat.reduceLT, Nat.reduceEqDiff, Int.reduceNeg, Nat.reduceBEq]) | refine And.intro (by omega) ?_ | (intro hr; have hc := hr; (try simp only [decide_eq_true_eq, decide_eq_false_iff_not, Bool.not_eq_true', Bool.not_eq_false'] at hc); simp -implicitDefEqProofs (disch := omega) only [hr, hg, go_sem, ↓reduceIte, Nat.reduceAdd, Nat.reduceSub, Nat.reduceMul, Nat.reduceLeDiff, Nat.reduceLT, Nat.reduceEqDiff, Int.reduceNeg, Nat.reduceBEq]; (try clear hr))))
        exact fin_list (by simp)
set_option maxHeartbeats 4000000 in
theorem ctr23 (s : LSig) (x : Str) (hm : Small s) (hs : OkS s): Ctr Tryz.prog G0 23 [.agg (sigCells s), .s x] (listE s x ((keysB s).filter fun y => decide (sureC s [x] = 0) && underR s y x)) := by
  refine sem_intro (rx := false) mixed Tryz.func23 rfl (by kernel_rfl) (by kernel_rfl) (ac := ?_) ?_ g0 ?_
  rotate_left
  · simp only [strip, stripOps, stripOp, hoist, List.filter_cons, List.filter_nil, List.nil_append, List.cons_append, isFree, anyPre, Region.binds, Bool.not_true, Bool.not_false, Bool.false_eq_true, if_true, if_false, Option.isNone_none, Option.isNone_some, Bool.true_and, Bool.false_and, List.map_nil, List.map_cons, List.isEmpty_nil, List.isEmpty_cons, List.append_nil]
    rfl
  · simp -implicitDefEqProofs (disch := omega) only [Tryz.f23, go_sem, List.replicate, ↓reduceIte, Nat.reduceAdd, Nat.reduceSub, Nat.reduceMul, Nat.reduceLeDiff, Nat.reduceLT, Nat.reduceEqDiff, Int.reduceNeg, Nat.reduceBEq]
    have hK := keysB_len hm
    generalize hq : (fun y => decide (sureC s [x] = 0) && underR s y x) = q
    (repeat' (first | refine g_true ?_ ?_ | refine g_false ?_ ?_ | refine cond_intro ?_ ?_ | (refine c_ctrE (ctr72 s [x] hm hs (by simp)) ?_ ?_; (focus (simp -implicitDefEqProofs (disch := omega) only [avs, avb, avi, avo, sigCells, opCells, pairCells, go_sem, ↓reduceIte, Nat.reduceAdd, Nat.reduceSub, Nat.reduceMul, Nat.reduceLeDiff, Nat.reduceLT, Nat.reduceEqDiff, Int.reduceNeg, Nat.reduceBEq]; done)); simp -implicitDefEqProofs (disch := omega) only [go_sem, ↓reduceIte, Nat.reduceAdd, Nat.reduceSub, Nat.reduceMul, Nat.reduceLeDiff, Nat.reduceLT, Nat.reduceEqDiff, Int.reduceNeg, Nat.reduceBEq]) | (refine c_ctrE (ctr73 s hm) ?_ ?_; (focus (simp -implicitDefEqProofs (disch := omega) only [avs, avb, avi, avo, sigCells, opCells, pairCells, go_sem, ↓reduceIte, Nat.reduceAdd, Nat.reduceSub, Nat.reduceMul, Nat.reduceLeDiff, Nat.reduceLT, Nat.reduceEqDiff, Int.reduceNeg, Nat.reduceBEq]; done)); simp -implicitDefEqProofs (disch := omega) only [go_sem, ↓reduceIte, Nat.reduceAdd, Nat.reduceSub, Nat.reduceMul, Nat.reduceLeDiff, Nat.reduceLT, Nat.reduceEqDiff, Int.reduceNeg, Nat.reduceBEq]) | refine And.intro (by omega) ?_ | (intro hr; have hc := hr; (try simp only [decide_eq_true_eq, decide_eq_false_iff_not, Bool.not_eq_true', Bool.not_eq_false'] at hc); simp -implicitDefEqProofs (disch := omega) only [hr, go_sem, ↓reduceIte, Nat.reduceAdd, Nat.reduceSub, Nat.reduceMul, Nat.reduceLeDiff, Nat.reduceLT, Nat.reduceEqDiff, Int.reduceNeg, Nat.reduceBEq]; (try clear hr))))
    refine x_loopJ (fun (t : Nat × AV × List AObj) => [.k, .k, .k, .k, .k, .k, .k, .v (t.2.1), .k, .j, .k, .k, .k, .k, .k, .k, .k, .v (.i .i64 (t.1 : Nat)), .j, .j, .j, .j, .j, .j, .j, .j, .j, .j, .j, .j, .j, .j, .j, .j, .k, .k, .k]) (fun t => .box false [.sl (s.sorts.map .s) s.sorts.length, .sl (s.below.flatMap pairCells) s.below.length, .sl (s.ops.flatMap opCells) s.ops.length, .sl (s.funs.flatMap opCells) s.funs.length, .sl (s.values.map .s) s.values.length] :: .arr false 1 [.s x] :: .arr false 1 ((keysB s).map .s) :: t.2.2) (fun t => t.1 ≤ (keysB s).length ∧ OutIs 1 3 t.2.2 t.2.1 ((((keysB s).take t.1).filter q).map .s) (((keysB s).take t.1).filter q).length) (fun t => (keysB s).length - t.1) ((0, .e0, [])) ⟨Nat.zero_le _, outIs_e0⟩ rfl (by simp [Fits]) ?_
    rintro ⟨k, out, g⟩ j ⟨hk, ho⟩
    dsimp only at hk ho
    have hsucc : k < (keysB s).length → _ := fun h => filter_succ (q := q) (d := []) h
    have hqk : q ((keysB s).getD k []) = (decide (sureC s [x] = 0) && underR s ((keysB s).getD k []) x) := by rw [← hq]
    have hfl : (((keysB s).take k).filter q).length ≤ 107 := Nat.le_trans (List.length_filter_le _ _) (by simp; omega)
    simp -implicitDefEqProofs (disch := omega) only [go_sem, ↓reduceIte, Nat.reduceAdd, Nat.reduceSub, Nat.reduceMul, Nat.reduceLeDiff, Nat.reduceLT, Nat.reduceEqDiff, Int.reduceNeg, Nat.reduceBEq]
    (repeat' (first | refine g_true ?_ ?_ | refine g_false ?_ ?_ | refine cond_intro ?_ ?_ | (refine c_ctrE (ctr74 s ((keysB s).getD k []) x hm) ?_ ?_; (focus (simp -implicitDefEqProofs (disch := omega) only [avs, avb, avi, avo, sigCells, opCells, pairCells, go_sem, ↓reduceIte, Nat.reduceAdd, Nat.reduceSub, Nat.reduceMul, Nat.reduceLeDiff, Nat.reduceLT, Nat.reduceEqDiff, Int.reduceNeg, Nat.reduceBEq]; done)); simp -implicitDefEqProofs (disch := omega) only [go_sem, ↓reduceIte, Nat.reduceAdd, Nat.reduceSub, Nat.reduceMul, Nat.reduceLeDiff, Nat.reduceLT, Nat.reduceEqDiff, Int.reduceNeg, Nat.reduceBEq]) | refine And.intro (by omega) ?_ | (intro hr; have hc := hr; (try simp only [decide_eq_true_eq, decide_eq_false_iff_not, Bool.not_eq_true', Bool.not_eq_false'] at hc); simp -implicitDefEqProofs (disch := omega) only [hr, go_sem, ↓reduceIte, Nat.reduceAdd, Nat.reduceSub, Nat.reduceMul, Nat.reduceLeDiff, Nat.reduceLT, Nat.reduceEqDiff, Int.reduceNeg, Nat.reduceBEq]; (try clear hr))))
    · have hs1 := hsucc (by omega)
      rw [hqk, decide_eq_true (by assumption), hc, Bool.and_self, if_pos rfl] at hs1
      refine app_intro' (pre := [_, _, _]) (news := [.s ((keysB s).getD k [])]) (m := 1) ho rfl rfl el22 zo9 sz9 by9 rfl (by decide) (by simp -implicitDefEqProofs (disch := omega) only [go_sem, ↓reduceIte, Nat.reduceAdd, Nat.reduceSub, Nat.reduceMul, Nat.reduceLeDiff, Nat.reduceLT, Nat.reduceEqDiff, Int.reduceNeg, Nat.reduceBEq]) (by simp -implicitDefEqProofs (disch := omega) only [go_sem, ↓reduceIte, Nat.reduceAdd, Nat.reduceSub, Nat.reduceMul, Nat.reduceLeDiff, Nat.reduceLT, Nat.reduceEqDiff, Int.reduceNeg, Nat.reduceBEq]) ⟨by omega, by omega⟩ ?_
      intro out' g' ho' _
      simp -implicitDefEqProofs (disch := omega) only [go_sem, ↓reduceIte, Nat.reduceAdd, Nat.reduceSub, Nat.reduceMul, Nat.reduceLeDiff, Nat.reduceLT, Nat.reduceEqDiff, Int.reduceNeg, Nat.reduceBEq]
      refine ⟨(k + 1, out', g'), ⟨by dsimp only; omega, ?_⟩, by dsimp only; omega, rfl, by simp⟩
      dsimp only
      rw [hs1, List.map_append, List.length_append]
      exact ho'
    · have hs1 := hsucc (by omega)
      rw [hqk, hc, Bool.and_false, if_neg (by simp), List.append_nil] at hs1
      refine ⟨(k + 1, out, g), ⟨by dsimp only; omega, ?_⟩, by dsimp only; omega, rfl, by simp⟩
      dsimp only
      rw [hs1]
      exact ho
    · have hs1 := hsucc (by omega)
      rw [hqk, decide_eq_false hc, Bool.false_and, if_neg (by simp), List.append_nil] at hs1
      refine ⟨(k + 1, out, g), ⟨by dsimp only; omega, ?_⟩, by dsimp only; omega, rfl, by simp⟩
      dsimp only
      rw [hs1]
      exact ho
    · rw [List.take_of_length_le (by omega)] at ho hfl
      clear hsucc hqk
      rcases ho with ⟨rfl, hnil, _⟩ | ⟨i0, rfl, hg, _⟩
      · have hnil : (keysB s).filter q = [] := by simpa using hnil
        rw [hnil]
        (repeat' (first | refine g_true ?_ ?_ | refine g_false ?_ ?_ | refine cond_intro ?_ ?_ | (refine c_ctrE (ctr75 [] (by simp)) ?_ ?_; (focus (simp -implicitDefEqProofs (disch := omega) only [avs, avb, avi, avo, sigCells, opCells, pairCells, go_sem, ↓reduceIte, Nat.reduceAdd, Nat.reduceSub, Nat.reduceMul, Nat.reduceLeDiff, Nat.reduceLT, Nat.reduceEqDiff, Int.reduceNeg, Nat.reduceBEq]; done)); simp -implicitDefEqProofs (disch := omega) only [go_sem, ↓reduceIte, Nat.reduceAdd, Nat.reduceSub, Nat.reduceMul, Nat.reduceLeDiff, Nat.reduceLT, Nat.reduceEqDiff, Int.reduceNeg, Nat.reduceBEq]) | refine And.intro (by omega) ?_ | (intro hr; have hc := hr; (try simp only [decide_eq_true_eq, decide_eq_false_iff_not, Bool.not_eq_true', Bool.not_eq_false'] at hc); simp -implicitDefEqProofs (disch := omega) only [hr, go_sem, ↓reduceIte, Nat.reduceAdd, Nat.reduceSub, Nat.reduceMul, Nat.reduceLeDiff, Nat.reduceLT, Nat.reduceEqDiff, Int.reduceNeg, Nat.reduceBEq]; (try clear hr))))
        exact fin_list (by simp)
      · (repeat' (first | refine g_true ?_ ?_ | refine g_false ?_ ?_ | refine cond_intro ?_ ?_ | (refine c_ctrE (ctr75 ((keysB s).filter q) (by omega)) ?_ ?_; (focus (simp -implicitDefEqProofs (disch := omega) only [hg, avs, avb, avi, avo, sigCells, opCells, pairCells, go_sem, ↓reduceIte, Nat.reduceAdd, Nat.reduceSub, Nat.reduceMul, Nat.reduceLeDiff, Nat.reduceLT, Nat.reduceEqDiff, Int.reduceNeg, Nat.reduceBEq]; done)); simp -implicitDefEqProofs (disch := omega) only [hg, go_sem, ↓reduceIte, Nat.reduceAdd, Nat.reduceSub, Nat.reduceMul, Nat.reduceLeDiff, Nat.reduceLT, Nat.reduceEqDiff, Int.reduceNeg, Nat.reduceBEq]) | refine And.intro (by omega) ?_ | (intro hr; have hc := hr; (try simp only [decide_eq_true_eq, decide_eq_false_iff_not, Bool.not_eq_true', Bool.not_eq_false'] at hc); simp -implicitDefEqProofs (disch := omega) only [hr, hg, go_sem, ↓reduceIte, Nat.reduceAdd, Nat.reduceSub, Nat.reduceMul, Nat.reduceLeDiff, Nat.reduceLT, Nat.reduceEqDiff, Int.reduceNeg, Nat.reduceBEq]; (try clear hr))))
        exact fin_list (by simp)
end Go.Proofs.YtadileniakikeaaGreatDoor

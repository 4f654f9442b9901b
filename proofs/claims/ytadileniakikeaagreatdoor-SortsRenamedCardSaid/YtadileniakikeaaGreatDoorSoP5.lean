/-
  What functions of the chapter return, as plain functions of what they are given; no condition beyond those that each theorem names.
-/
import Derived.Test.YtadileniakikeaaGreatDoorSoP3
import Derived.Test.YtadileniakikeaaGreatDoorSoP4
set_option maxRecDepth 100000
set_option linter.unusedSimpArgs false
set_option linter.unusedVariables false
namespace Go.Proofs.YtadileniakikeaaGreatDoor
open Go Go.Vo

def okR (p : Str × Str) : Bool := if p.2 = [] then pieceR p.1 else decide (p.1 = [])
def precR (o : LOp) : Bool := if o.pieces = [] then decide (o.prec = 0) && decide (o.assoc = 0) else decide (o.pieces.length ≤ 20) && decide (argsOf o.pieces = o.args) && decide (0 ≤ o.prec) && decide (o.prec ≤ 20) && decide (0 ≤ o.assoc) && decide (o.assoc ≤ 2) && (decide (0 < o.prec) || decide (o.assoc = 0))
def piecesR (o : LOp) : Bool := o.pieces.all okR && precR o
set_option maxHeartbeats 4000000 in
theorem ctr117 (o : LOp) (ho : OkO o): Ctr Tryz.prog G0 117 [elO o] (.b (piecesR o)) := by
  refine sem_intro (rx := false) mixed Tryz.func117 rfl (by kernel_rfl) (by kernel_rfl) (ac := ?_) ?_ g0 ?_
  rotate_left
  · simp only [strip, stripOps, stripOp, hoist, List.filter_cons, List.filter_nil, List.nil_append, List.cons_append, isFree, anyPre, Region.binds, Bool.not_true, Bool.not_false, Bool.false_eq_true, if_true, if_false, Option.isNone_none, Option.isNone_some, Bool.true_and, Bool.false_and, List.map_nil, List.map_cons, List.isEmpty_nil, List.isEmpty_cons, List.append_nil]
    rfl
  · simp -implicitDefEqProofs (disch := omega) only [Tryz.f117, go_sem, List.replicate, ↓reduceIte, Nat.reduceAdd, Nat.reduceSub, Nat.reduceMul, Nat.reduceLeDiff, Nat.reduceLT, Nat.reduceEqDiff, Int.reduceNeg, Nat.reduceBEq]
    have hp := ho.piecesT
    have hx := ho.args
    refine x_loopJ (fun (s : Nat × AV × List AObj) => [.k, .k, .j, .v (s.2.1), .k, .j, .k, .k, .k, .v (.i .i64 (s.1 : Nat)), .j, .j, .j, .j, .j, .j, .j, .j, .j, .j, .j, .j, .j, .j, .j, .j, .j, .j, .j, .j, .j, .j, .j, .j, .j, .j, .j, .k, .k, .k, .k, .k, .k, .k, .k, .k, .k, .k, .k, .k, .k, .k, .k, .k, .k, .k, .k, .k, .k, .k, .k, .k, .k, .k, .k, .k, .k, .k, .k, .k, .k, .k, .k, .k, .k, .k, .k, .k, .k, .k, .k, .k, .k, .k, .k, .k, .k, .k, .k]) (fun s => .box false (opCells o) :: s.2.2) (fun s => s.1 ≤ o.pieces.length ∧ (∀ j, j < s.1 → okR (o.pieces.getD j ([], [])) = true) ∧ OutIs 1 1 s.2.2 s.2.1 ((argsOf (o.pieces.take s.1)).map .s) (argsOf (o.pieces.take s.1)).length) (fun s => o.pieces.length - s.1) ((0, .e0, [])) ⟨Nat.zero_le _, fun j h => by simp at h, outIs_e0⟩ rfl (by simp [Fits]) ?_
    rintro ⟨k, out, g⟩ j ⟨hk, ha, ho2⟩
    dsimp only at hk ha ho2
    have hpl : k < o.pieces.length → (o.pieces.getD k ([], [])).1.length ≤ 140737488355328 := fun h => (ho.piecesS _ (mem_getD h)).1
    have hal := argsOf_len (l := o.pieces.take k)
    rw [List.length_take] at hal
    simp -implicitDefEqProofs (disch := omega) only [go_sem, ↓reduceIte, Nat.reduceAdd, Nat.reduceSub, Nat.reduceMul, Nat.reduceLeDiff, Nat.reduceLT, Nat.reduceEqDiff, Int.reduceNeg, Nat.reduceBEq]
    (repeat' (first | refine g_true ?_ ?_ | refine g_false ?_ ?_ | refine cond_intro ?_ ?_ | (refine c_ctrE (ctr139 (o.pieces.getD k ([], [])).1 (hpl (by omega))) ?_ ?_; (focus (simp -implicitDefEqProofs (disch := omega) only [avs, avb, avi, avo, sigCells, opCells, pairCells, go_sem, ↓reduceIte, Nat.reduceAdd, Nat.reduceSub, Nat.reduceMul, Nat.reduceLeDiff, Nat.reduceLT, Nat.reduceEqDiff, Int.reduceNeg, Nat.reduceBEq]; done)); simp -implicitDefEqProofs (disch := omega) only [go_sem, ↓reduceIte, Nat.reduceAdd, Nat.reduceSub, Nat.reduceMul, Nat.reduceLeDiff, Nat.reduceLT, Nat.reduceEqDiff, Int.reduceNeg, Nat.reduceBEq]) | refine And.intro (by omega) ?_ | (intro hr; have hc := hr; (try simp only [decide_eq_true_eq, decide_eq_false_iff_not, Bool.not_eq_true', Bool.not_eq_false'] at hc); simp -implicitDefEqProofs (disch := omega) only [hr, go_sem, ↓reduceIte, Nat.reduceAdd, Nat.reduceSub, Nat.reduceMul, Nat.reduceLeDiff, Nat.reduceLT, Nat.reduceEqDiff, Int.reduceNeg, Nat.reduceBEq]; (try clear hr))))
    all_goals first | (exfalso; omega) | skip
    all_goals first | (refine fin_eq ?_ (by rfl); rw [piecesR, not_all_getD (d := ([], [])) (j := k) (by omega) (by simp_all [okR, ← List.length_eq_zero_iff])]; rfl) | skip
    all_goals first | (refine ⟨(k + 1, out, _), ⟨by omega, below_succ ha (by simp_all [okR, ← List.length_eq_zero_iff]), ?_⟩, by simp; omega, rfl, rfl, by simp⟩; dsimp only; rw [argsOf_succ (by omega), if_pos (List.eq_nil_of_length_eq_zero (by assumption)), List.append_nil]; exact ho2.more _) | skip
    · refine app_intro' (pre := [_]) (news := [.s (o.pieces.getD k ([], [])).2]) (m := 1) ho2 rfl rfl el22 zo9 sz9 by9 rfl (by decide) (by simp -implicitDefEqProofs (disch := omega) only [go_sem, ↓reduceIte, Nat.reduceAdd, Nat.reduceSub, Nat.reduceMul, Nat.reduceLeDiff, Nat.reduceLT, Nat.reduceEqDiff, Int.reduceNeg, Nat.reduceBEq]) (by simp -implicitDefEqProofs (disch := omega) only [go_sem, ↓reduceIte, Nat.reduceAdd, Nat.reduceSub, Nat.reduceMul, Nat.reduceLeDiff, Nat.reduceLT, Nat.reduceEqDiff, Int.reduceNeg, Nat.reduceBEq]) ⟨by omega, by omega⟩ ?_
      intro out' g' ho' _
      simp -implicitDefEqProofs (disch := omega) only [go_sem, ↓reduceIte, Nat.reduceAdd, Nat.reduceSub, Nat.reduceMul, Nat.reduceLeDiff, Nat.reduceLT, Nat.reduceEqDiff, Int.reduceNeg, Nat.reduceBEq]
      refine ⟨(k + 1, out', g'), ⟨by omega, below_succ ha (by simp_all [okR, ← List.length_eq_zero_iff]), ?_⟩, by simp; omega, rfl, by simp⟩
      dsimp only
      rw [argsOf_succ (by omega), if_neg (by rw [← List.length_eq_zero_iff]; assumption), List.map_append, List.length_append]
      exact ho'
    · have he : o.pieces = [] := List.eq_nil_of_length_eq_zero (by omega)
      refine fin_eq ?_ (by rfl)
      simp_all [piecesR, precR]
    · have he : o.pieces = [] := List.eq_nil_of_length_eq_zero (by omega)
      refine fin_eq ?_ (by rfl)
      simp_all [piecesR, precR]
    · have hk2 : k = o.pieces.length := by omega
      have hne : o.pieces ≠ [] := fun e => by simp_all
      have hall : o.pieces.all okR = true := all_getD (d := ([], [])) (fun j hj => ha j (by omega))
      rw [List.take_of_length_le (by omega)] at ho2
      have hal := argsOf_len (l := o.pieces)
      have h20 := castLe20.1 hc
      clear ha hpl
      rcases ho2 with ⟨rfl, hnil, _⟩ | ⟨i0, rfl, hg, _⟩
      · have hnil : argsOf o.pieces = [] := by simpa using hnil
        (repeat' (first | refine g_true ?_ ?_ | refine g_false ?_ ?_ | refine cond_intro ?_ ?_ | (refine c_ctrE (ctr67 [] o.args (by simp) hx) ?_ ?_; (focus (simp -implicitDefEqProofs (disch := omega) only [avs, avb, avi, avo, sigCells, opCells, pairCells, go_sem, ↓reduceIte, Nat.reduceAdd, Nat.reduceSub, Nat.reduceMul, Nat.reduceLeDiff, Nat.reduceLT, Nat.reduceEqDiff, Int.reduceNeg, Nat.reduceBEq]; done)); simp -implicitDefEqProofs (disch := omega) only [go_sem, ↓reduceIte, Nat.reduceAdd, Nat.reduceSub, Nat.reduceMul, Nat.reduceLeDiff, Nat.reduceLT, Nat.reduceEqDiff, Int.reduceNeg, Nat.reduceBEq]) | refine And.intro (by omega) ?_ | (intro hr; have hc := hr; (try simp only [decide_eq_true_eq, decide_eq_false_iff_not, Bool.not_eq_true', Bool.not_eq_false'] at hc); simp -implicitDefEqProofs (disch := omega) only [hr, go_sem, ↓reduceIte, Nat.reduceAdd, Nat.reduceSub, Nat.reduceMul, Nat.reduceLeDiff, Nat.reduceLT, Nat.reduceEqDiff, Int.reduceNeg, Nat.reduceBEq]; (try clear hr))))
        all_goals refine fin_eq ?_ (by rfl)
        all_goals simp only [piecesR, hall, precR, if_neg hne, hnil, Bool.true_and]
        all_goals first | (simp_all; done) | (simp_all; omega)
      · (repeat' (first | refine g_true ?_ ?_ | refine g_false ?_ ?_ | refine cond_intro ?_ ?_ | (refine c_ctrE (ctr67 (argsOf o.pieces) o.args (by omega) hx) ?_ ?_; (focus (simp -implicitDefEqProofs (disch := omega) only [hg, avs, avb, avi, avo, sigCells, opCells, pairCells, go_sem, ↓reduceIte, Nat.reduceAdd, Nat.reduceSub, Nat.reduceMul, Nat.reduceLeDiff, Nat.reduceLT, Nat.reduceEqDiff, Int.reduceNeg, Nat.reduceBEq]; done)); simp -implicitDefEqProofs (disch := omega) only [hg, go_sem, ↓reduceIte, Nat.reduceAdd, Nat.reduceSub, Nat.reduceMul, Nat.reduceLeDiff, Nat.reduceLT, Nat.reduceEqDiff, Int.reduceNeg, Nat.reduceBEq]) | refine And.intro (by omega) ?_ | (intro hr; have hc := hr; (try simp only [decide_eq_true_eq, decide_eq_false_iff_not, Bool.not_eq_true', Bool.not_eq_false'] at hc); simp -implicitDefEqProofs (disch := omega) only [hr, hg, go_sem, ↓reduceIte, Nat.reduceAdd, Nat.reduceSub, Nat.reduceMul, Nat.reduceLeDiff, Nat.reduceLT, Nat.reduceEqDiff, Int.reduceNeg, Nat.reduceBEq]; (try clear hr))))
        all_goals refine fin_eq ?_ (by rfl)
        all_goals simp only [piecesR, hall, precR, if_neg hne, Bool.true_and]
        all_goals first | (simp_all; done) | (simp_all; omega)
    · refine fin_eq ?_ (by rfl)
      have hne : o.pieces ≠ [] := fun e => by simp_all
      have h20 : ¬ o.pieces.length ≤ 20 := fun h => hc (castLe20.2 h)
      simp only [piecesR, precR, if_neg hne, decide_eq_false h20, Bool.false_and, Bool.and_false]
end Go.Proofs.YtadileniakikeaaGreatDoor
set_option maxRecDepth 100000
set_option linter.unusedSimpArgs false
set_option linter.unusedVariables false
namespace Go.Proofs.YtadileniakikeaaGreatDoor
open Go Go.Vo

/-! ## the reference: what lies below, operators -/
def belowOne (s : LSig) (b : Str × Str) : Bool := existsB s b.1 && !decide (b.1 = anyS) && s.sorts.contains b.2
def belowUp (s : LSig) (b : Str × Str) : Bool := !(climb s.below b.2).contains b.1
def belowR (s : LSig) : Bool := s.below.all (belowOne s) && decide s.below.Nodup && s.below.all (belowUp s) && decide (s.below.length ≤ 200)
theorem castLe200 {n : Nat} : ((n : Int) ≤ 200) ↔ n ≤ 200 := by omega
theorem belowOne_no {s : LSig} {k : Nat} (hk : k < s.below.length) (h : belowOne s (s.below.getD k ([], [])) = false) : belowR s = false := by
  rw [belowR, not_all_getD hk h]; rfl
theorem pairB {a b : Str × Str} : (decide (a.1 = b.1) && (decide (a.2 = b.2) && true)) = decide (a = b) := by
  rw [Bool.eq_iff_iff]; simp [Prod.ext_iff]
set_option maxHeartbeats 4000000 in
theorem ctr59 (s : LSig) (hs : OkS s) (hb : s.below.length ≤ 1000): Ctr Tryz.prog G0 59 [.agg (sigCells s)] (.b (belowR s)) := by
  refine sem_intro (rx := false) mixed Tryz.func59 rfl (by kernel_rfl) (by kernel_rfl) (ac := ?_) ?_ g0 ?_
  rotate_left
  · simp only [strip, stripOps, stripOp, hoist, List.filter_cons, List.filter_nil, List.nil_append, List.cons_append, isFree, anyPre, Region.binds, Bool.not_true, Bool.not_false, Bool.false_eq_true, if_true, if_false, Option.isNone_none, Option.isNone_some, Bool.true_and, Bool.false_and, List.map_nil, List.map_cons, List.isEmpty_nil, List.isEmpty_cons, List.append_nil]
    rfl
  · simp -implicitDefEqProofs (disch := omega) only [Tryz.f59, go_sem, List.replicate, ↓reduceIte, Nat.reduceAdd, Nat.reduceSub, Nat.reduceMul, Nat.reduceLeDiff, Nat.reduceLT, Nat.reduceEqDiff, Int.reduceNeg, Nat.reduceBEq]
    have h1 := hs.sorts
    have h2 := hs.below
    refine x_loopG (fun (k : Nat) => [.k, .k, .j, .j, .j, .k, .j, .k, .k, .k, .k, .k, .v (.i .i64 k), .j, .j, .j, .j, .j, .j, .j, .j, .j, .j, .j, .j, .j, .j, .j, .j, .j, .j, .j, .j, .j, .j, .j, .j, .j, .j, .j, .j, .j, .j, .j, .j, .j, .j, .j, .j, .k, .k, .k, .k, .k, .k, .k, .k, .k, .k, .k, .k, .k, .k, .k, .k, .k, .k, .k]) (fun k => [.box false [.sl (s.sorts.map .s) s.sorts.length, .sl (s.below.flatMap pairCells) s.below.length, .sl (s.ops.flatMap opCells) s.ops.length, .sl (s.funs.flatMap opCells) s.funs.length, .sl (s.values.map .s) s.values.length]]) (fun k => k ≤ s.below.length ∧ ∀ j, j < k → (belowOne s (s.below.getD j ([], [])) = true ∧ (s.below.take j).contains (s.below.getD j ([], [])) = false)) (fun k => s.below.length - k) (0) _ ⟨Nat.zero_le _, fun j h => by omega⟩ rfl (by simp [Fits]) ?_
    rintro k g j ⟨hk, ha⟩
    simp -implicitDefEqProofs (disch := omega) only [go_sem, ↓reduceIte, Nat.reduceAdd, Nat.reduceSub, Nat.reduceMul, Nat.reduceLeDiff, Nat.reduceLT, Nat.reduceEqDiff, Int.reduceNeg, Nat.reduceBEq]
    (repeat' (first | refine g_true ?_ ?_ | refine g_false ?_ ?_ | refine cond_intro ?_ ?_ | (refine c_ctrE (ctr61 s (s.below.getD k ([], [])).1 h1) ?_ ?_; (focus (simp -implicitDefEqProofs (disch := omega) only [avs, avb, avi, avo, sigCells, opCells, pairCells, go_sem, ↓reduceIte, Nat.reduceAdd, Nat.reduceSub, Nat.reduceMul, Nat.reduceLeDiff, Nat.reduceLT, Nat.reduceEqDiff, Int.reduceNeg, Nat.reduceBEq]; done)); simp -implicitDefEqProofs (disch := omega) only [go_sem, ↓reduceIte, Nat.reduceAdd, Nat.reduceSub, Nat.reduceMul, Nat.reduceLeDiff, Nat.reduceLT, Nat.reduceEqDiff, Int.reduceNeg, Nat.reduceBEq]) | (refine c_ctrE (ctr27 s.sorts (s.below.getD k ([], [])).2 h1) ?_ ?_; (focus (simp -implicitDefEqProofs (disch := omega) only [avs, avb, avi, avo, sigCells, opCells, pairCells, go_sem, ↓reduceIte, Nat.reduceAdd, Nat.reduceSub, Nat.reduceMul, Nat.reduceLeDiff, Nat.reduceLT, Nat.reduceEqDiff, Int.reduceNeg, Nat.reduceBEq]; done)); simp -implicitDefEqProofs (disch := omega) only [go_sem, ↓reduceIte, Nat.reduceAdd, Nat.reduceSub, Nat.reduceMul, Nat.reduceLeDiff, Nat.reduceLT, Nat.reduceEqDiff, Int.reduceNeg, Nat.reduceBEq]) | refine And.intro (by omega) ?_ | (intro hr; have hc := hr; (try simp only [decide_eq_true_eq, decide_eq_false_iff_not, Bool.not_eq_true', Bool.not_eq_false'] at hc); simp -implicitDefEqProofs (disch := omega) only [hr, go_sem, ↓reduceIte, Nat.reduceAdd, Nat.reduceSub, Nat.reduceMul, Nat.reduceLeDiff, Nat.reduceLT, Nat.reduceEqDiff, Int.reduceNeg, Nat.reduceBEq]; (try clear hr))))
    · refine fin_eq ?_ (by rfl)
      rw [belowOne_no (k := k) (by omega) (by simp only [belowOne, *, Bool.and_false])]
    · have hone : belowOne s (s.below.getD k ([], [])) = true := by simp only [belowOne, anyS, *, decide_false, Bool.not_false, Bool.and_self]
      refine x_loopJ (fun (t : Nat × List AObj) => [.k, .k, .j, .k, .k, .k, .j, .k, .k, .k, .k, .k, .k, .k, .k, .k, .k, .k, .k, .k, .k, .k, .k, .k, .k, .k, .k, .k, .k, .k, .k, .k, .k, .k, .k, .k, .k, .k, .k, .k, .v (.i .i64 (t.1 : Nat)), .j, .j, .j, .j, .j, .j, .j, .k, .k, .k, .k, .k, .k, .k, .k, .k, .k, .k, .k, .k, .k, .k, .k, .k, .k, .k, .k]) (fun t => .box false [.sl (s.sorts.map .s) s.sorts.length, .sl (s.below.flatMap pairCells) s.below.length, .sl (s.ops.flatMap opCells) s.ops.length, .sl (s.funs.flatMap opCells) s.funs.length, .sl (s.values.map .s) s.values.length] :: (g ++ (.box false [.s (s.below.getD k ([], [])).1, .s (s.below.getD k ([], [])).2] :: t.2))) (fun t => t.1 ≤ k ∧ ∀ j, j < t.1 → (s.below.take k).getD j ([], []) ≠ s.below.getD k ([], [])) (fun t => k - t.1) ((0, [])) ⟨Nat.zero_le _, fun j h => by simp at h⟩ rfl (by simp [Fits]) ?_
      rintro ⟨m, g2⟩ j ⟨hm, hb2⟩
      dsimp only at hm hb2
      have hlt : (s.below.take k).length = k := by simp; omega
      simp -implicitDefEqProofs (disch := omega) only [hlt, go_sem, ↓reduceIte, Nat.reduceAdd, Nat.reduceSub, Nat.reduceMul, Nat.reduceLeDiff, Nat.reduceLT, Nat.reduceEqDiff, Int.reduceNeg, Nat.reduceBEq]
      (repeat' (first | refine g_true ?_ ?_ | refine g_false ?_ ?_ | refine cond_intro ?_ ?_ | refine And.intro (by omega) ?_ | (intro hr; have hc := hr; (try simp only [decide_eq_true_eq, decide_eq_false_iff_not, Bool.not_eq_true', Bool.not_eq_false'] at hc); simp -implicitDefEqProofs (disch := omega) only [hr, hlt, go_sem, ↓reduceIte, Nat.reduceAdd, Nat.reduceSub, Nat.reduceMul, Nat.reduceLeDiff, Nat.reduceLT, Nat.reduceEqDiff, Int.reduceNeg, Nat.reduceBEq]; (try clear hr))))
      · refine fin_eq ?_ (by rfl)
        rw [pairB] at hc
        have he := of_decide_eq_true hc
        have hm2 := mem_getD (l := s.below.take k) (d := ([], [])) (k := m) (by omega)
        rw [← he] at hm2
        have hcon : (s.below.take k).contains (s.below.getD k ([], [])) = true := by simpa using hm2
        rw [belowR, decide_eq_false (fun hn => by rw [nodup_noG hn (by omega)] at hcon; cases hcon), Bool.and_false]; rfl
      · rw [pairB] at hc
        have he := of_decide_eq_false hc
        exact ⟨(m + 1, _), ⟨by dsimp only; omega, below_succ hb2 (fun e => he e.symm)⟩, by dsimp only; omega, rfl, by simp⟩
      · have hmk : m = k := by omega
        subst hmk
        have hno : (s.below.take m).contains (s.below.getD m ([], [])) = false := by
          rw [← Bool.not_eq_true]
          intro hcon
          have hm2 : s.below.getD m ([], []) ∈ s.below.take m := by simpa using hcon
          obtain ⟨i, hi, he⟩ := List.mem_iff_getElem.1 hm2
          exact hb2 i (by omega) (by rw [getD_el hi]; exact he)
        exact ⟨m + 1, _, ⟨by omega, below_succ ha ⟨hone, hno⟩⟩, by omega, rfl, by simp⟩
    · refine fin_eq ?_ (by rfl)
      rw [belowOne_no (k := k) (by omega) (by simp only [belowOne, anyS, *, decide_true, Bool.not_true, Bool.and_false, Bool.false_and])]
    · refine fin_eq ?_ (by rfl)
      rw [belowOne_no (k := k) (by omega) (by simp only [belowOne, *, Bool.false_and])]
    · have hall : s.below.all (belowOne s) = true := all_getD (d := ([], [])) (fun j hj => (ha j (by omega)).1)
      have hnd : s.below.Nodup := nodup_ofG (d := ([], [])) (fun j hj => (ha j (by omega)).2)
      clear ha
      refine x_loopG (fun (k : Nat) => [.k, .k, .j, .k, .k, .k, .k, .k, .j, .k, .k, .k, .k, .k, .k, .k, .k, .k, .k, .k, .k, .k, .k, .k, .k, .k, .k, .k, .k, .k, .k, .k, .k, .k, .k, .k, .k, .k, .k, .k, .k, .k, .k, .k, .k, .k, .k, .k, .k, .k, .k, .k, .v (.i .i64 k), .j, .j, .j, .j, .j, .j, .j, .j, .j, .j, .j, .k, .k, .k, .k]) (fun k => [.box false [.sl (s.sorts.map .s) s.sorts.length, .sl (s.below.flatMap pairCells) s.below.length, .sl (s.ops.flatMap opCells) s.ops.length, .sl (s.funs.flatMap opCells) s.funs.length, .sl (s.values.map .s) s.values.length]]) (fun k => k ≤ s.below.length ∧ ∀ j, j < k → belowUp s (s.below.getD j ([], [])) = true) (fun k => s.below.length - k) (0) _ ⟨Nat.zero_le _, fun j h => by omega⟩ rfl (by simp [Fits]) ?_
      rintro k g j ⟨hk, ha⟩
      have hcl := climb_len s.below (s.below.getD k ([], [])).2
      simp -implicitDefEqProofs (disch := omega) only [go_sem, ↓reduceIte, Nat.reduceAdd, Nat.reduceSub, Nat.reduceMul, Nat.reduceLeDiff, Nat.reduceLT, Nat.reduceEqDiff, Int.reduceNeg, Nat.reduceBEq]
      (repeat' (first | refine g_true ?_ ?_ | refine g_false ?_ ?_ | refine cond_intro ?_ ?_ | (refine c_ctrE (ctr114 s (s.below.getD k ([], [])).2 (by omega)) ?_ ?_; (focus (simp -implicitDefEqProofs (disch := omega) only [avs, avb, avi, avo, sigCells, opCells, pairCells, go_sem, ↓reduceIte, Nat.reduceAdd, Nat.reduceSub, Nat.reduceMul, Nat.reduceLeDiff, Nat.reduceLT, Nat.reduceEqDiff, Int.reduceNeg, Nat.reduceBEq]; done)); simp -implicitDefEqProofs (disch := omega) only [go_sem, ↓reduceIte, Nat.reduceAdd, Nat.reduceSub, Nat.reduceMul, Nat.reduceLeDiff, Nat.reduceLT, Nat.reduceEqDiff, Int.reduceNeg, Nat.reduceBEq]) | (refine c_ctrE (ctr27 (climb s.below (s.below.getD k ([], [])).2) (s.below.getD k ([], [])).1 (by omega)) ?_ ?_; (focus (simp -implicitDefEqProofs (disch := omega) only [avs, avb, avi, avo, sigCells, opCells, pairCells, go_sem, ↓reduceIte, Nat.reduceAdd, Nat.reduceSub, Nat.reduceMul, Nat.reduceLeDiff, Nat.reduceLT, Nat.reduceEqDiff, Int.reduceNeg, Nat.reduceBEq]; done)); simp -implicitDefEqProofs (disch := omega) only [go_sem, ↓reduceIte, Nat.reduceAdd, Nat.reduceSub, Nat.reduceMul, Nat.reduceLeDiff, Nat.reduceLT, Nat.reduceEqDiff, Int.reduceNeg, Nat.reduceBEq]) | refine And.intro (by omega) ?_ | (intro hr; have hc := hr; (try simp only [decide_eq_true_eq, decide_eq_false_iff_not, Bool.not_eq_true', Bool.not_eq_false'] at hc); simp -implicitDefEqProofs (disch := omega) only [hr, go_sem, ↓reduceIte, Nat.reduceAdd, Nat.reduceSub, Nat.reduceMul, Nat.reduceLeDiff, Nat.reduceLT, Nat.reduceEqDiff, Int.reduceNeg, Nat.reduceBEq]; (try clear hr))))
      · refine fin_eq ?_ (by rfl)
        rw [belowR, not_all_getD (p := belowUp s) (d := ([], [])) (j := k) (by omega) (by simp only [belowUp, hc, Bool.not_true]), Bool.and_false]; rfl
      · exact ⟨k + 1, _, ⟨by omega, below_succ ha (by simp only [belowUp, hc, Bool.not_false])⟩, by omega, rfl, by simp⟩
      · refine fin_eq ?_ (by rfl)
        have hup : s.below.all (belowUp s) = true := all_getD (d := ([], [])) (fun j hj => ha j (by omega))
        rw [belowR, hall, hup, decide_eq_true hnd]
        simp [castLe200]
end Go.Proofs.YtadileniakikeaaGreatDoor
set_option maxRecDepth 100000
set_option linter.unusedSimpArgs false
set_option linter.unusedVariables false
namespace Go.Proofs.YtadileniakikeaaGreatDoor
open Go Go.Vo

def opR (s : LSig) (o : LOp) : Bool := isName (base o.name) && !builtIns.contains o.name && argsR s o && s.sorts.contains o.sort && piecesR o && strictR o
def funR (s : LSig) (o : LOp) : Bool := isName o.name && !builtIns.contains o.name && argsR s o && existsB s o.sort && decide (o.pieces.length = 0) && decide (o.prec = 0) && decide (o.assoc = 0) && decide (o.strict.length = 0)
def namesOf (s : LSig) : List Str := s.ops.map LOp.name ++ s.funs.map LOp.name
def opsR (s : LSig) : Bool := s.ops.all (opR s) && s.funs.all (funR s) && decide ((namesOf s).length ≤ 200) && decide (namesOf s).Nodup
theorem ops_no {s : LSig} {k : Nat} (hk : k < s.ops.length) (h : opR s (s.ops.getD k default) = false) : opsR s = false := by
  rw [opsR, not_all_getD hk h]; rfl
theorem funs_no {s : LSig} {k : Nat} (hk : k < s.funs.length) (h : funR s (s.funs.getD k default) = false) : opsR s = false := by
  rw [opsR, not_all_getD (p := funR s) hk h]; simp
set_option maxHeartbeats 4000000 in
theorem ctr60 (s : LSig) (hs : OkS s) (hn : s.ops.length + s.funs.length ≤ 1000): Ctr Tryz.prog G0 60 [.agg (sigCells s)] (.b (opsR s)) := by
  refine sem_intro (rx := false) mixed Tryz.func60 rfl (by kernel_rfl) (by kernel_rfl) (ac := ?_) ?_ g0 ?_
  rotate_left
  · simp only [strip, stripOps, stripOp, hoist, List.filter_cons, List.filter_nil, List.nil_append, List.cons_append, isFree, anyPre, Region.binds, Bool.not_true, Bool.not_false, Bool.false_eq_true, if_true, if_false, Option.isNone_none, Option.isNone_some, Bool.true_and, Bool.false_and, List.map_nil, List.map_cons, List.isEmpty_nil, List.isEmpty_cons, List.append_nil]
    rfl
  · simp -implicitDefEqProofs (disch := omega) only [Tryz.f60, go_sem, List.replicate, ↓reduceIte, Nat.reduceAdd, Nat.reduceSub, Nat.reduceMul, Nat.reduceLeDiff, Nat.reduceLT, Nat.reduceEqDiff, Int.reduceNeg, Nat.reduceBEq]
    have h1 := hs.sorts
    refine x_loopJ (fun (t : Nat × AV × List AObj) => [.k, .k, .j, .v (t.2.1), .k, .j, .k, .k, .k, .k, .k, .v (.i .i64 (t.1 : Nat)), .j, .j, .j, .j, .j, .j, .j, .j, .j, .j, .j, .j, .j, .j, .j, .j, .j, .j, .j, .j, .j, .j, .j, .j, .j, .j, .j, .j, .j, .j, .j, .j, .j, .j, .j, .j, .j, .j, .j, .j, .j, .j, .k, .k, .k, .k, .k, .k, .k, .k, .k, .k, .k, .k, .k, .k, .k, .k, .k, .k, .k, .k, .k, .k, .k, .k, .k, .k, .k, .k, .k, .k, .k, .k, .k, .k, .k, .k, .k, .k, .k, .k, .k, .k, .k, .k, .k, .k, .k, .k, .k, .k, .k, .k, .k, .k, .k, .k, .k, .k, .k, .k, .k, .k, .k, .k]) (fun t => .box false [.sl (s.sorts.map .s) s.sorts.length, .sl (s.below.flatMap pairCells) s.below.length, .sl (s.ops.flatMap opCells) s.ops.length, .sl (s.funs.flatMap opCells) s.funs.length, .sl (s.values.map .s) s.values.length] :: t.2.2) (fun t => t.1 ≤ s.ops.length ∧ (∀ j, j < t.1 → opR s (s.ops.getD j default) = true) ∧ OutIs 1 1 t.2.2 t.2.1 (((s.ops.take t.1).map LOp.name).map .s) t.1) (fun t => s.ops.length - t.1) ((0, .e0, [])) ⟨Nat.zero_le _, fun j h => by simp at h, outIs_e0⟩ rfl (by simp [Fits]) ?_
    rintro ⟨k, out, g⟩ j ⟨hk, ha, ho⟩
    dsimp only at hk ha ho
    have o1 : k < s.ops.length → OkO (s.ops.getD k default) := fun h => hs.opsO _ (mem_getD h)
    simp -implicitDefEqProofs (disch := omega) only [go_sem, ↓reduceIte, Nat.reduceAdd, Nat.reduceSub, Nat.reduceMul, Nat.reduceLeDiff, Nat.reduceLT, Nat.reduceEqDiff, Int.reduceNeg, Nat.reduceBEq]
    (repeat' (first | refine g_true ?_ ?_ | refine g_false ?_ ?_ | refine cond_intro ?_ ?_ | refine And.intro (by omega) ?_ | (intro hr; have hc := hr; (try simp only [decide_eq_true_eq, decide_eq_false_iff_not, Bool.not_eq_true', Bool.not_eq_false'] at hc); simp -implicitDefEqProofs (disch := omega) only [hr, go_sem, ↓reduceIte, Nat.reduceAdd, Nat.reduceSub, Nat.reduceMul, Nat.reduceLeDiff, Nat.reduceLT, Nat.reduceEqDiff, Int.reduceNeg, Nat.reduceBEq]; (try clear hr))))
    · refine app_intro' (pre := [.box false [.sl (s.sorts.map .s) s.sorts.length, .sl (s.below.flatMap pairCells) s.below.length, .sl (s.ops.flatMap opCells) s.ops.length, .sl (s.funs.flatMap opCells) s.funs.length, .sl (s.values.map .s) s.values.length]]) (g := g ++ [.box false (opCells (s.ops.getD k default))]) (more := [.arr false 1 ([.s (s.ops.getD k default).name])]) (news := [.s (s.ops.getD k default).name]) (m := 1) ((ho).more _) rfl (by simp -implicitDefEqProofs (disch := omega) only [go_sem, ↓reduceIte, Nat.reduceAdd, Nat.reduceSub, Nat.reduceMul, Nat.reduceLeDiff, Nat.reduceLT, Nat.reduceEqDiff, Int.reduceNeg, Nat.reduceBEq]) el22 zo9 sz9 by9 rfl (by decide) (by simp -implicitDefEqProofs (disch := omega) only [go_sem, ↓reduceIte, Nat.reduceAdd, Nat.reduceSub, Nat.reduceMul, Nat.reduceLeDiff, Nat.reduceLT, Nat.reduceEqDiff, Int.reduceNeg, Nat.reduceBEq]) (by simp -implicitDefEqProofs (disch := omega) only [go_sem, ↓reduceIte, Nat.reduceAdd, Nat.reduceSub, Nat.reduceMul, Nat.reduceLeDiff, Nat.reduceLT, Nat.reduceEqDiff, Int.reduceNeg, Nat.reduceBEq]) ⟨by omega, by omega⟩ ?_
      intro out' g' ho' hkeep
      have hbox := hkeep g.length (.box false (opCells (s.ops.getD k default))) (by rw [get_off0]; rfl) (fun c => nofun)
      clear hkeep
      have ho1 := o1 (by omega)
      simp -implicitDefEqProofs (disch := omega) only [hbox, go_sem, ↓reduceIte, Nat.reduceAdd, Nat.reduceSub, Nat.reduceMul, Nat.reduceLeDiff, Nat.reduceLT, Nat.reduceEqDiff, Int.reduceNeg, Nat.reduceBEq]
      (repeat' (first | refine g_true ?_ ?_ | refine g_false ?_ ?_ | refine cond_intro ?_ ?_ | (refine c_ctrE (ctr115 (s.ops.getD k default).name ho1.name) ?_ ?_; (focus (simp -implicitDefEqProofs (disch := omega) only [hbox, avs, avb, avi, avo, sigCells, opCells, pairCells, go_sem, ↓reduceIte, Nat.reduceAdd, Nat.reduceSub, Nat.reduceMul, Nat.reduceLeDiff, Nat.reduceLT, Nat.reduceEqDiff, Int.reduceNeg, Nat.reduceBEq]; done)); simp -implicitDefEqProofs (disch := omega) only [hbox, go_sem, ↓reduceIte, Nat.reduceAdd, Nat.reduceSub, Nat.reduceMul, Nat.reduceLeDiff, Nat.reduceLT, Nat.reduceEqDiff, Int.reduceNeg, Nat.reduceBEq]) | (refine c_ctrE (ctr40 (s.ops.getD k default).name) ?_ ?_; (focus (simp -implicitDefEqProofs (disch := omega) only [hbox, avs, avb, avi, avo, sigCells, opCells, pairCells, go_sem, ↓reduceIte, Nat.reduceAdd, Nat.reduceSub, Nat.reduceMul, Nat.reduceLeDiff, Nat.reduceLT, Nat.reduceEqDiff, Int.reduceNeg, Nat.reduceBEq]; done)); simp -implicitDefEqProofs (disch := omega) only [hbox, go_sem, ↓reduceIte, Nat.reduceAdd, Nat.reduceSub, Nat.reduceMul, Nat.reduceLeDiff, Nat.reduceLT, Nat.reduceEqDiff, Int.reduceNeg, Nat.reduceBEq]) | (refine c_ctrE (ctr116 s (s.ops.getD k default) h1 ho1.args) ?_ ?_; (focus (simp -implicitDefEqProofs (disch := omega) only [hbox, avs, avb, avi, avo, sigCells, opCells, pairCells, go_sem, ↓reduceIte, Nat.reduceAdd, Nat.reduceSub, Nat.reduceMul, Nat.reduceLeDiff, Nat.reduceLT, Nat.reduceEqDiff, Int.reduceNeg, Nat.reduceBEq]; done)); simp -implicitDefEqProofs (disch := omega) only [hbox, go_sem, ↓reduceIte, Nat.reduceAdd, Nat.reduceSub, Nat.reduceMul, Nat.reduceLeDiff, Nat.reduceLT, Nat.reduceEqDiff, Int.reduceNeg, Nat.reduceBEq]) | (refine c_ctrE (ctr27 s.sorts (s.ops.getD k default).sort h1) ?_ ?_; (focus (simp -implicitDefEqProofs (disch := omega) only [hbox, avs, avb, avi, avo, sigCells, opCells, pairCells, go_sem, ↓reduceIte, Nat.reduceAdd, Nat.reduceSub, Nat.reduceMul, Nat.reduceLeDiff, Nat.reduceLT, Nat.reduceEqDiff, Int.reduceNeg, Nat.reduceBEq]; done)); simp -implicitDefEqProofs (disch := omega) only [hbox, go_sem, ↓reduceIte, Nat.reduceAdd, Nat.reduceSub, Nat.reduceMul, Nat.reduceLeDiff, Nat.reduceLT, Nat.reduceEqDiff, Int.reduceNeg, Nat.reduceBEq]) | (refine c_ctrE (ctr117 (s.ops.getD k default) ho1) ?_ ?_; (focus (simp -implicitDefEqProofs (disch := omega) only [hbox, avs, avb, avi, avo, sigCells, opCells, pairCells, go_sem, ↓reduceIte, Nat.reduceAdd, Nat.reduceSub, Nat.reduceMul, Nat.reduceLeDiff, Nat.reduceLT, Nat.reduceEqDiff, Int.reduceNeg, Nat.reduceBEq]; done)); simp -implicitDefEqProofs (disch := omega) only [hbox, go_sem, ↓reduceIte, Nat.reduceAdd, Nat.reduceSub, Nat.reduceMul, Nat.reduceLeDiff, Nat.reduceLT, Nat.reduceEqDiff, Int.reduceNeg, Nat.reduceBEq]) | (refine c_ctrE (ctr118 (s.ops.getD k default) ho1) ?_ ?_; (focus (simp -implicitDefEqProofs (disch := omega) only [hbox, avs, avb, avi, avo, sigCells, opCells, pairCells, go_sem, ↓reduceIte, Nat.reduceAdd, Nat.reduceSub, Nat.reduceMul, Nat.reduceLeDiff, Nat.reduceLT, Nat.reduceEqDiff, Int.reduceNeg, Nat.reduceBEq]; done)); simp -implicitDefEqProofs (disch := omega) only [hbox, go_sem, ↓reduceIte, Nat.reduceAdd, Nat.reduceSub, Nat.reduceMul, Nat.reduceLeDiff, Nat.reduceLT, Nat.reduceEqDiff, Int.reduceNeg, Nat.reduceBEq]) | refine And.intro (by omega) ?_ | (intro hr; have hc := hr; (try simp only [decide_eq_true_eq, decide_eq_false_iff_not, Bool.not_eq_true', Bool.not_eq_false'] at hc); simp -implicitDefEqProofs (disch := omega) only [hr, hbox, go_sem, ↓reduceIte, Nat.reduceAdd, Nat.reduceSub, Nat.reduceMul, Nat.reduceLeDiff, Nat.reduceLT, Nat.reduceEqDiff, Int.reduceNeg, Nat.reduceBEq]; (try clear hr))))
      all_goals first | (refine fin_eq ?_ (by rfl); rw [ops_no (k := k) (by omega) (by simp only [opR, *, decide_true, decide_false, Bool.and_false, Bool.false_and, Bool.and_true, Bool.true_and, Bool.not_true, Bool.not_false])]; done) | skip
      refine ⟨(k + 1, out', g'), ⟨by dsimp only; omega, below_succ ha (by simp only [opR, *, decide_true, decide_false, Bool.and_false, Bool.false_and, Bool.and_true, Bool.true_and, Bool.not_true, Bool.not_false]), ?_⟩, by dsimp only; omega, rfl, rfl, by simp⟩
      dsimp only
      rw [take_getD (d := default) (by omega), List.map_append, List.map_append]
      exact ho'
    · have hk2 : k = s.ops.length := by omega
      have hall : s.ops.all (opR s) = true := all_getD (d := default) (fun j hj => ha j (by omega))
      rw [hk2, List.take_length] at ho
      clear ha hk o1
      refine x_loopJ (fun (t : Nat × AV × List AObj) => [.k, .k, .j, .v (t.2.1), .k, .k, .k, .j, .k, .k, .k, .k, .k, .k, .k, .k, .k, .k, .k, .k, .k, .k, .k, .k, .k, .k, .k, .k, .k, .k, .k, .k, .k, .k, .k, .k, .k, .k, .k, .k, .k, .k, .k, .k, .k, .k, .k, .k, .k, .k, .k, .k, .k, .k, .k, .k, .k, .v (.i .i64 (t.1 : Nat)), .j, .j, .j, .j, .j, .j, .j, .j, .j, .j, .j, .j, .j, .j, .j, .j, .j, .j, .j, .j, .j, .j, .j, .j, .j, .j, .j, .j, .j, .j, .j, .j, .j, .j, .j, .j, .j, .j, .j, .j, .j, .j, .j, .j, .j, .j, .j, .j, .j, .j, .j, .j, .j, .k, .k, .k, .k, .k, .k, .k]) (fun t => .box false [.sl (s.sorts.map .s) s.sorts.length, .sl (s.below.flatMap pairCells) s.below.length, .sl (s.ops.flatMap opCells) s.ops.length, .sl (s.funs.flatMap opCells) s.funs.length, .sl (s.values.map .s) s.values.length] :: t.2.2) (fun t => t.1 ≤ s.funs.length ∧ (∀ j, j < t.1 → funR s (s.funs.getD j default) = true) ∧ OutIs 1 1 t.2.2 t.2.1 ((s.ops.map LOp.name).map .s ++ ((s.funs.take t.1).map LOp.name).map .s) (s.ops.length + t.1)) (fun t => s.funs.length - t.1) ((0, out, g)) ⟨Nat.zero_le _, fun j h => by simp at h, by simpa using ho⟩ rfl (by simp [Fits]) ?_
      clear ho hk2
      rintro ⟨k, out, g⟩ j ⟨hk, ha, ho⟩
      dsimp only at hk ha ho
      have o1 : k < s.funs.length → OkO (s.funs.getD k default) := fun h => hs.funsO _ (mem_getD h)
      simp -implicitDefEqProofs (disch := omega) only [go_sem, ↓reduceIte, Nat.reduceAdd, Nat.reduceSub, Nat.reduceMul, Nat.reduceLeDiff, Nat.reduceLT, Nat.reduceEqDiff, Int.reduceNeg, Nat.reduceBEq]
      (repeat' (first | refine g_true ?_ ?_ | refine g_false ?_ ?_ | refine cond_intro ?_ ?_ | refine And.intro (by omega) ?_ | (intro hr; have hc := hr; (try simp only [decide_eq_true_eq, decide_eq_false_iff_not, Bool.not_eq_true', Bool.not_eq_false'] at hc); simp -implicitDefEqProofs (disch := omega) only [hr, go_sem, ↓reduceIte, Nat.reduceAdd, Nat.reduceSub, Nat.reduceMul, Nat.reduceLeDiff, Nat.reduceLT, Nat.reduceEqDiff, Int.reduceNeg, Nat.reduceBEq]; (try clear hr))))
      · refine app_intro' (pre := [.box false [.sl (s.sorts.map .s) s.sorts.length, .sl (s.below.flatMap pairCells) s.below.length, .sl (s.ops.flatMap opCells) s.ops.length, .sl (s.funs.flatMap opCells) s.funs.length, .sl (s.values.map .s) s.values.length]]) (g := g ++ [.box false (opCells (s.funs.getD k default))]) (more := [.arr false 1 ([.s (s.funs.getD k default).name])]) (news := [.s (s.funs.getD k default).name]) (m := 1) ((ho).more _) rfl (by simp -implicitDefEqProofs (disch := omega) only [go_sem, ↓reduceIte, Nat.reduceAdd, Nat.reduceSub, Nat.reduceMul, Nat.reduceLeDiff, Nat.reduceLT, Nat.reduceEqDiff, Int.reduceNeg, Nat.reduceBEq]) el22 zo9 sz9 by9 rfl (by decide) (by simp -implicitDefEqProofs (disch := omega) only [go_sem, ↓reduceIte, Nat.reduceAdd, Nat.reduceSub, Nat.reduceMul, Nat.reduceLeDiff, Nat.reduceLT, Nat.reduceEqDiff, Int.reduceNeg, Nat.reduceBEq]) (by simp -implicitDefEqProofs (disch := omega) only [go_sem, ↓reduceIte, Nat.reduceAdd, Nat.reduceSub, Nat.reduceMul, Nat.reduceLeDiff, Nat.reduceLT, Nat.reduceEqDiff, Int.reduceNeg, Nat.reduceBEq]) ⟨by omega, by omega⟩ ?_
        intro out' g' ho' hkeep
        have hbox := hkeep g.length (.box false (opCells (s.funs.getD k default))) (by rw [get_off0]; rfl) (fun c => nofun)
        clear hkeep
        have ho1 := o1 (by omega)
        simp -implicitDefEqProofs (disch := omega) only [hbox, go_sem, ↓reduceIte, Nat.reduceAdd, Nat.reduceSub, Nat.reduceMul, Nat.reduceLeDiff, Nat.reduceLT, Nat.reduceEqDiff, Int.reduceNeg, Nat.reduceBEq]
        (repeat' (first | refine g_true ?_ ?_ | refine g_false ?_ ?_ | refine cond_intro ?_ ?_ | (refine c_ctrE (ctr42 (s.funs.getD k default).name ho1.name) ?_ ?_; (focus (simp -implicitDefEqProofs (disch := omega) only [hbox, avs, avb, avi, avo, sigCells, opCells, pairCells, go_sem, ↓reduceIte, Nat.reduceAdd, Nat.reduceSub, Nat.reduceMul, Nat.reduceLeDiff, Nat.reduceLT, Nat.reduceEqDiff, Int.reduceNeg, Nat.reduceBEq]; done)); simp -implicitDefEqProofs (disch := omega) only [hbox, go_sem, ↓reduceIte, Nat.reduceAdd, Nat.reduceSub, Nat.reduceMul, Nat.reduceLeDiff, Nat.reduceLT, Nat.reduceEqDiff, Int.reduceNeg, Nat.reduceBEq]) | (refine c_ctrE (ctr40 (s.funs.getD k default).name) ?_ ?_; (focus (simp -implicitDefEqProofs (disch := omega) only [hbox, avs, avb, avi, avo, sigCells, opCells, pairCells, go_sem, ↓reduceIte, Nat.reduceAdd, Nat.reduceSub, Nat.reduceMul, Nat.reduceLeDiff, Nat.reduceLT, Nat.reduceEqDiff, Int.reduceNeg, Nat.reduceBEq]; done)); simp -implicitDefEqProofs (disch := omega) only [hbox, go_sem, ↓reduceIte, Nat.reduceAdd, Nat.reduceSub, Nat.reduceMul, Nat.reduceLeDiff, Nat.reduceLT, Nat.reduceEqDiff, Int.reduceNeg, Nat.reduceBEq]) | (refine c_ctrE (ctr116 s (s.funs.getD k default) h1 ho1.args) ?_ ?_; (focus (simp -implicitDefEqProofs (disch := omega) only [hbox, avs, avb, avi, avo, sigCells, opCells, pairCells, go_sem, ↓reduceIte, Nat.reduceAdd, Nat.reduceSub, Nat.reduceMul, Nat.reduceLeDiff, Nat.reduceLT, Nat.reduceEqDiff, Int.reduceNeg, Nat.reduceBEq]; done)); simp -implicitDefEqProofs (disch := omega) only [hbox, go_sem, ↓reduceIte, Nat.reduceAdd, Nat.reduceSub, Nat.reduceMul, Nat.reduceLeDiff, Nat.reduceLT, Nat.reduceEqDiff, Int.reduceNeg, Nat.reduceBEq]) | (refine c_ctrE (ctr61 s (s.funs.getD k default).sort h1) ?_ ?_; (focus (simp -implicitDefEqProofs (disch := omega) only [hbox, avs, avb, avi, avo, sigCells, opCells, pairCells, go_sem, ↓reduceIte, Nat.reduceAdd, Nat.reduceSub, Nat.reduceMul, Nat.reduceLeDiff, Nat.reduceLT, Nat.reduceEqDiff, Int.reduceNeg, Nat.reduceBEq]; done)); simp -implicitDefEqProofs (disch := omega) only [hbox, go_sem, ↓reduceIte, Nat.reduceAdd, Nat.reduceSub, Nat.reduceMul, Nat.reduceLeDiff, Nat.reduceLT, Nat.reduceEqDiff, Int.reduceNeg, Nat.reduceBEq]) | refine And.intro (by omega) ?_ | (intro hr; have hc := hr; (try simp only [decide_eq_true_eq, decide_eq_false_iff_not, Bool.not_eq_true', Bool.not_eq_false'] at hc); simp -implicitDefEqProofs (disch := omega) only [hr, hbox, go_sem, ↓reduceIte, Nat.reduceAdd, Nat.reduceSub, Nat.reduceMul, Nat.reduceLeDiff, Nat.reduceLT, Nat.reduceEqDiff, Int.reduceNeg, Nat.reduceBEq]; (try clear hr))))
        all_goals try simp only [castPos, Nat.pos_iff_ne_zero, Decidable.not_not] at *
        all_goals first | (refine fin_eq ?_ (by rfl); rw [funs_no (k := k) (by omega) (by simp only [funR, *, decide_true, decide_false, Bool.and_false, Bool.false_and, Bool.and_true, Bool.true_and, Bool.not_true, Bool.not_false])]; done) | skip
        refine ⟨(k + 1, out', g'), ⟨by dsimp only; omega, below_succ ha (by simp only [funR, *, decide_true, decide_false, Bool.and_false, Bool.false_and, Bool.and_true, Bool.true_and, Bool.not_true, Bool.not_false]), ?_⟩, by dsimp only; omega, rfl, rfl, by simp⟩
        dsimp only
        rw [take_getD (d := default) (by omega), List.map_append, List.map_append, ← List.append_assoc]
        exact ho'
      · have hk2 : k = s.funs.length := by omega
        have hf : s.funs.all (funR s) = true := all_getD (d := default) (fun j hj => ha j (by omega))
        rw [hk2, List.take_length] at ho
        clear ha hk o1 hc hk2
        have hnl : (namesOf s).length = s.ops.length + s.funs.length := by simp [namesOf]
        have hop : opsR s = (decide ((namesOf s).length ≤ 200) && decide (namesOf s).Nodup) := by rw [opsR, hall, hf]; rfl
        have hcell : (s.ops.map LOp.name).map AV.s ++ (s.funs.map LOp.name).map AV.s = (namesOf s).map .s := by simp [namesOf]
        rw [hcell, ← hnl] at ho
        rcases ho with ⟨rfl, hnil, _⟩ | ⟨i0, rfl, hg, _⟩
        · have hnil : namesOf s = [] := by simpa using hnil
          simp -implicitDefEqProofs (disch := omega) only [go_sem, ↓reduceIte, Nat.reduceAdd, Nat.reduceSub, Nat.reduceMul, Nat.reduceLeDiff, Nat.reduceLT, Nat.reduceEqDiff, Int.reduceNeg, Nat.reduceBEq]
          (repeat' (first | refine g_true ?_ ?_ | refine g_false ?_ ?_ | refine cond_intro ?_ ?_ | (refine c_ctrE (ctr62 [] (by simp)) ?_ ?_; (focus (simp -implicitDefEqProofs (disch := omega) only [avs, avb, avi, avo, sigCells, opCells, pairCells, go_sem, ↓reduceIte, Nat.reduceAdd, Nat.reduceSub, Nat.reduceMul, Nat.reduceLeDiff, Nat.reduceLT, Nat.reduceEqDiff, Int.reduceNeg, Nat.reduceBEq]; done)); simp -implicitDefEqProofs (disch := omega) only [go_sem, ↓reduceIte, Nat.reduceAdd, Nat.reduceSub, Nat.reduceMul, Nat.reduceLeDiff, Nat.reduceLT, Nat.reduceEqDiff, Int.reduceNeg, Nat.reduceBEq]) | refine And.intro (by omega) ?_ | (intro hr; have hc := hr; (try simp only [decide_eq_true_eq, decide_eq_false_iff_not, Bool.not_eq_true', Bool.not_eq_false'] at hc); simp -implicitDefEqProofs (disch := omega) only [hr, go_sem, ↓reduceIte, Nat.reduceAdd, Nat.reduceSub, Nat.reduceMul, Nat.reduceLeDiff, Nat.reduceLT, Nat.reduceEqDiff, Int.reduceNeg, Nat.reduceBEq]; (try clear hr))))
          all_goals refine fin_eq ?_ (by rfl)
          all_goals first | (exfalso; omega) | (rw [hop, hnil]; rfl)
        · simp -implicitDefEqProofs (disch := omega) only [hg, go_sem, ↓reduceIte, Nat.reduceAdd, Nat.reduceSub, Nat.reduceMul, Nat.reduceLeDiff, Nat.reduceLT, Nat.reduceEqDiff, Int.reduceNeg, Nat.reduceBEq]
          (repeat' (first | refine g_true ?_ ?_ | refine g_false ?_ ?_ | refine cond_intro ?_ ?_ | (refine c_ctrE (ctr62 (namesOf s) (by omega)) ?_ ?_; (focus (simp -implicitDefEqProofs (disch := omega) only [hg, avs, avb, avi, avo, sigCells, opCells, pairCells, go_sem, ↓reduceIte, Nat.reduceAdd, Nat.reduceSub, Nat.reduceMul, Nat.reduceLeDiff, Nat.reduceLT, Nat.reduceEqDiff, Int.reduceNeg, Nat.reduceBEq]; done)); simp -implicitDefEqProofs (disch := omega) only [hg, go_sem, ↓reduceIte, Nat.reduceAdd, Nat.reduceSub, Nat.reduceMul, Nat.reduceLeDiff, Nat.reduceLT, Nat.reduceEqDiff, Int.reduceNeg, Nat.reduceBEq]) | refine And.intro (by omega) ?_ | (intro hr; have hc := hr; (try simp only [decide_eq_true_eq, decide_eq_false_iff_not, Bool.not_eq_true', Bool.not_eq_false'] at hc); simp -implicitDefEqProofs (disch := omega) only [hr, hg, go_sem, ↓reduceIte, Nat.reduceAdd, Nat.reduceSub, Nat.reduceMul, Nat.reduceLeDiff, Nat.reduceLT, Nat.reduceEqDiff, Int.reduceNeg, Nat.reduceBEq]; (try clear hr))))
          all_goals refine fin_eq ?_ (by rfl)
          all_goals simp only [castLe200] at hc
          all_goals rw [hop]
          all_goals first | rw [decide_eq_true hc, Bool.true_and] | rw [decide_eq_false hc, Bool.false_and]
end Go.Proofs.YtadileniakikeaaGreatDoor
set_option maxRecDepth 100000
set_option linter.unusedSimpArgs false
set_option linter.unusedVariables false
namespace Go.Proofs.YtadileniakikeaaGreatDoor
open Go Go.Vo

/-! ## the reference says of the same signatures that they are valid -/
def validR (s : LSig) : Bool := decide (s.sorts.length ≤ 40) && decide (s.below.length ≤ 200) && decide (s.ops.length + s.funs.length ≤ 200) && sortsR s && belowR s && opsR s && s.values.all (existsB s) && decide s.values.Nodup
theorem exists_eq (s : LSig) (x : Str) : existsB s x = existsA s x := by
  have := always_eq x
  unfold existsB existsA keysOf
  rw [Bool.eq_iff_iff]
  have h2 := Bool.eq_iff_iff.1 this
  simp only [List.contains_iff_mem] at h2
  simp [h2]
theorem pieceText_eq {t : Str} : pieceText t = pieceR t := by
  unfold pieceText pieceR isSign
  have hc : (fun c : UInt8 => signChar c.toNat) = fun c => pieceChar c.toNat := by
    funext c
    simp only [signChar, pieceChar, part, Bool.or_assoc]
  rw [hc]
  have hn : isName t = true → 1 ≤ t.length := by
    intro h
    cases t with
    | nil => revert h; decide
    | cons a l => simp
  cases h : isName t
  · simp
  · have := hn h
    simp [this]
    by_cases h2 : t.length ≤ 20 <;> simp [h2]
theorem piece_eq (p : Str × Str) : pieceA p = okR p := by
  unfold pieceA okR
  rw [pieceText_eq]
  have h0 : pieceR [] = false := by decide
  by_cases h2 : p.2 = []
  · simp [h2]
  · by_cases h1 : p.1 = []
    · simp [h2, h1, h0]
    · simp [h2, h1]
theorem op_eq (s : LSig) (o : LOp) : isOp s o = opR s o := by
  have hp : (fun p => pieceA p) = okR := by funext p; exact piece_eq p
  have hx : s.sorts.contains o.sort = s.sorts.contains o.sort := rfl
  have he : o.args.all (existsA s) = o.args.all (existsB s) := by congr 1; funext x; exact (exists_eq s x).symm
  unfold isOp opR opHead argsR piecesR strictR precR precOK assocOK syntaxA
  rw [show pieceA = okR from hp, he]
  rw [Bool.eq_iff_iff]
  by_cases hz : o.pieces = []
  · simp only [hz, List.all_nil, List.length_nil, List.isEmpty_nil, if_true, Bool.and_eq_true, decide_eq_true_eq, Bool.or_eq_true, Bool.not_eq_true']
    constructor
    · rintro h; simp_all; omega
    · rintro h; simp_all
  · have : o.pieces.isEmpty = false := by simpa using hz
    have hl : 0 < o.pieces.length := List.length_pos_iff.2 hz
    simp only [hz, this, hl, if_false, Bool.and_eq_true, decide_eq_true_eq, Bool.or_eq_true, Bool.not_eq_true', Bool.false_eq_true, false_or, true_or, and_true]
    constructor
    · rintro h; simp_all
    · rintro h; simp_all
theorem fun_eq (s : LSig) (o : LOp) : isFun s o = funR s o := by
  have he : o.args.all (existsA s) = o.args.all (existsB s) := by congr 1; funext x; exact (exists_eq s x).symm
  unfold isFun funR argsR
  rw [he, exists_eq]
  rw [Bool.eq_iff_iff]
  simp only [Bool.and_eq_true, decide_eq_true_eq, Bool.not_eq_true']
  constructor
  · rintro h; simp_all
  · rintro h; simp_all
theorem sorts_eq (s : LSig) : sortsR s = (s.sorts.all freshA && decide (s.sorts.length ≤ 40) && decide s.sorts.Nodup) := by
  unfold sortsR
  have : freshB = freshA := by funext x; simp only [freshA, freshB, always_eq]
  rw [this]
theorem below_one (s : LSig) (b : Str × Str) : (belowOne s b && belowUp s b) = isBelow s b := by
  unfold belowOne belowUp isBelow above
  rw [exists_eq]
  by_cases h : s.sorts.contains b.2 = true
  · have h2 : existsA s b.2 = true := by
      rw [← exists_eq]; unfold existsB; rw [h, Bool.or_true]
    rw [h, h2, if_pos rfl]
    rw [Bool.eq_iff_iff]; simp only [Bool.and_eq_true, Bool.not_eq_true', decide_eq_true_eq, decide_eq_false_iff_not]; exact ⟨fun ⟨⟨⟨a, b⟩, c⟩, d⟩ => ⟨⟨⟨b, a⟩, c⟩, d⟩, fun ⟨⟨⟨a, b⟩, c⟩, d⟩ => ⟨⟨⟨b, a⟩, c⟩, d⟩⟩
  · have h := Bool.eq_false_iff.2 h
    rw [h]; simp
theorem all_and {α : Type} {p q : α → Bool} {l : List α} : (l.all p && l.all q) = l.all fun x => p x && q x := by
  induction l with
  | nil => rfl
  | cons x l ih =>
    simp only [List.all_cons, ← ih]
    cases p x <;> cases q x <;> cases l.all p <;> cases l.all q <;> rfl
theorem below_eq (s : LSig) : belowR s = (s.below.all (isBelow s) && decide s.below.Nodup && decide (s.below.length ≤ 200)) := by
  have h : s.below.all (isBelow s) = (s.below.all (belowOne s) && s.below.all (belowUp s)) := by
    rw [all_and]; congr 1; funext b; exact (below_one s b).symm
  rw [h, belowR]
  cases s.below.all (belowOne s) <;> cases s.below.all (belowUp s) <;> simp
theorem valid_eq (s : LSig) : validR s = validB s := by
  have h1 : s.ops.all (isOp s) = s.ops.all (opR s) := by congr 1; funext x; exact op_eq s x
  have h2 : s.funs.all (isFun s) = s.funs.all (funR s) := by congr 1; funext x; exact fun_eq s x
  have h3 : s.values.all (existsA s) = s.values.all (existsB s) := by congr 1; funext x; exact (exists_eq s x).symm
  have h4 : (namesOf s).length = s.ops.length + s.funs.length := by simp [namesOf]
  have h5 : opNames s = namesOf s := rfl
  unfold validR validB validHead validMid validTail
  rw [sorts_eq, below_eq, opsR, h1, h2, h3, h4, h5]
  rw [Bool.eq_iff_iff]
  simp only [Bool.and_eq_true]
  constructor
  · rintro ⟨⟨⟨⟨⟨⟨⟨a, b⟩, c⟩, ⟨d, e⟩, f⟩, ⟨g, h⟩, i⟩, ⟨⟨j, k⟩, l⟩, m⟩, n⟩, o⟩
    exact ⟨⟨⟨⟨⟨⟨a, b⟩, c⟩, h⟩, o⟩, ⟨f, d⟩, m⟩, ⟨⟨g, n⟩, j⟩, k⟩
  · rintro ⟨⟨⟨⟨⟨⟨a, b⟩, c⟩, h⟩, o⟩, ⟨f, d⟩, m⟩, ⟨⟨g, n⟩, j⟩, k⟩
    exact ⟨⟨⟨⟨⟨⟨⟨a, b⟩, c⟩, ⟨d, a⟩, f⟩, ⟨g, h⟩, b⟩, ⟨⟨j, k⟩, c⟩, m⟩, n⟩, o⟩
theorem gt40 {n : Nat} : (40 < (n : Int)) ↔ ¬ n ≤ 40 := by omega
theorem gt200 {n : Nat} : (200 < (n : Int)) ↔ ¬ n ≤ 200 := by omega
theorem gt200' {n m : Nat} : (200 < (n : Int) + m) ↔ ¬ n + m ≤ 200 := by omega
set_option maxHeartbeats 4000000 in
theorem ctr13 (s : LSig) (hm : Small s) (hs : OkS s): Ctr Tryz.prog G0 13 [.agg (sigCells s)] (.b (validB s)) := by
  refine sem_intro (rx := false) mixed Tryz.func13 rfl (by kernel_rfl) (by kernel_rfl) (ac := ?_) ?_ g0 ?_
  rotate_left
  · simp only [strip, stripOps, stripOp, hoist, List.filter_cons, List.filter_nil, List.nil_append, List.cons_append, isFree, anyPre, Region.binds, Bool.not_true, Bool.not_false, Bool.false_eq_true, if_true, if_false, Option.isNone_none, Option.isNone_some, Bool.true_and, Bool.false_and, List.map_nil, List.map_cons, List.isEmpty_nil, List.isEmpty_cons, List.append_nil]
    rfl
  · simp -implicitDefEqProofs (disch := omega) only [Tryz.f13, go_sem, List.replicate, ↓reduceIte, Nat.reduceAdd, Nat.reduceSub, Nat.reduceMul, Nat.reduceLeDiff, Nat.reduceLT, Nat.reduceEqDiff, Int.reduceNeg, Nat.reduceBEq]
    have h1 := hm.sorts
    have h2 := hm.below
    have h3 := hm.ops
    have h4 := hm.funs
    have h5 := hm.values
    rw [← valid_eq]
    (repeat' (first | refine g_true ?_ ?_ | refine g_false ?_ ?_ | refine cond_intro ?_ ?_ | (refine c_ctrE (ctr58 s hs) ?_ ?_; (focus (simp -implicitDefEqProofs (disch := omega) only [avs, avb, avi, avo, sigCells, opCells, pairCells, go_sem, ↓reduceIte, Nat.reduceAdd, Nat.reduceSub, Nat.reduceMul, Nat.reduceLeDiff, Nat.reduceLT, Nat.reduceEqDiff, Int.reduceNeg, Nat.reduceBEq]; done)); simp -implicitDefEqProofs (disch := omega) only [go_sem, ↓reduceIte, Nat.reduceAdd, Nat.reduceSub, Nat.reduceMul, Nat.reduceLeDiff, Nat.reduceLT, Nat.reduceEqDiff, Int.reduceNeg, Nat.reduceBEq]) | (refine c_ctrE (ctr59 s hs h2) ?_ ?_; (focus (simp -implicitDefEqProofs (disch := omega) only [avs, avb, avi, avo, sigCells, opCells, pairCells, go_sem, ↓reduceIte, Nat.reduceAdd, Nat.reduceSub, Nat.reduceMul, Nat.reduceLeDiff, Nat.reduceLT, Nat.reduceEqDiff, Int.reduceNeg, Nat.reduceBEq]; done)); simp -implicitDefEqProofs (disch := omega) only [go_sem, ↓reduceIte, Nat.reduceAdd, Nat.reduceSub, Nat.reduceMul, Nat.reduceLeDiff, Nat.reduceLT, Nat.reduceEqDiff, Int.reduceNeg, Nat.reduceBEq]) | (refine c_ctrE (ctr60 s hs (by omega)) ?_ ?_; (focus (simp -implicitDefEqProofs (disch := omega) only [avs, avb, avi, avo, sigCells, opCells, pairCells, go_sem, ↓reduceIte, Nat.reduceAdd, Nat.reduceSub, Nat.reduceMul, Nat.reduceLeDiff, Nat.reduceLT, Nat.reduceEqDiff, Int.reduceNeg, Nat.reduceBEq]; done)); simp -implicitDefEqProofs (disch := omega) only [go_sem, ↓reduceIte, Nat.reduceAdd, Nat.reduceSub, Nat.reduceMul, Nat.reduceLeDiff, Nat.reduceLT, Nat.reduceEqDiff, Int.reduceNeg, Nat.reduceBEq]) | refine And.intro (by omega) ?_ | (intro hr; have hc := hr; (try simp only [decide_eq_true_eq, decide_eq_false_iff_not, Bool.not_eq_true', Bool.not_eq_false'] at hc); simp -implicitDefEqProofs (disch := omega) only [hr, go_sem, ↓reduceIte, Nat.reduceAdd, Nat.reduceSub, Nat.reduceMul, Nat.reduceLeDiff, Nat.reduceLT, Nat.reduceEqDiff, Int.reduceNeg, Nat.reduceBEq]; (try clear hr))))
    all_goals try simp only [gt40, gt200, gt200', Decidable.not_not] at *
    all_goals first | (refine fin_eq ?_ (by rfl); simp only [validR, *, decide_true, decide_false, Bool.and_false, Bool.false_and, Bool.and_true, Bool.true_and, Bool.not_true, Bool.not_false]; done) | skip
    refine x_loopJ (fun (k : Nat) => [.k, .k, .j, .k, .j, .k, .k, .k, .k, .k, .k, .k, .k, .k, .k, .k, .k, .k, .k, .k, .k, .k, .k, .k, .k, .k, .k, .k, .k, .k, .k, .k, .k, .k, .k, .k, .k, .k, .k, .k, .k, .k, .k, .v (.i .i64 k), .j, .j, .j, .j, .j, .j, .j, .j, .k, .k, .k]) (fun k => [.box false [.sl (s.sorts.map .s) s.sorts.length, .sl (s.below.flatMap pairCells) s.below.length, .sl (s.ops.flatMap opCells) s.ops.length, .sl (s.funs.flatMap opCells) s.funs.length, .sl (s.values.map .s) s.values.length]]) (fun k => k ≤ s.values.length ∧ ∀ j, j < k → existsB s (s.values.getD j []) = true) (fun k => s.values.length - k) (0) ⟨Nat.zero_le _, fun j h => by omega⟩ rfl (by simp [Fits]) ?_
    rintro k j ⟨hk, ha⟩
    simp -implicitDefEqProofs (disch := omega) only [go_sem, ↓reduceIte, Nat.reduceAdd, Nat.reduceSub, Nat.reduceMul, Nat.reduceLeDiff, Nat.reduceLT, Nat.reduceEqDiff, Int.reduceNeg, Nat.reduceBEq]
    (repeat' (first | refine g_true ?_ ?_ | refine g_false ?_ ?_ | refine cond_intro ?_ ?_ | (refine c_ctrE (ctr61 s (s.values.getD k []) (by omega)) ?_ ?_; (focus (simp -implicitDefEqProofs (disch := omega) only [avs, avb, avi, avo, sigCells, opCells, pairCells, go_sem, ↓reduceIte, Nat.reduceAdd, Nat.reduceSub, Nat.reduceMul, Nat.reduceLeDiff, Nat.reduceLT, Nat.reduceEqDiff, Int.reduceNeg, Nat.reduceBEq]; done)); simp -implicitDefEqProofs (disch := omega) only [go_sem, ↓reduceIte, Nat.reduceAdd, Nat.reduceSub, Nat.reduceMul, Nat.reduceLeDiff, Nat.reduceLT, Nat.reduceEqDiff, Int.reduceNeg, Nat.reduceBEq]) | (refine c_ctrE (ctr62 s.values (by omega)) ?_ ?_; (focus (simp -implicitDefEqProofs (disch := omega) only [avs, avb, avi, avo, sigCells, opCells, pairCells, go_sem, ↓reduceIte, Nat.reduceAdd, Nat.reduceSub, Nat.reduceMul, Nat.reduceLeDiff, Nat.reduceLT, Nat.reduceEqDiff, Int.reduceNeg, Nat.reduceBEq]; done)); simp -implicitDefEqProofs (disch := omega) only [go_sem, ↓reduceIte, Nat.reduceAdd, Nat.reduceSub, Nat.reduceMul, Nat.reduceLeDiff, Nat.reduceLT, Nat.reduceEqDiff, Int.reduceNeg, Nat.reduceBEq]) | refine And.intro (by omega) ?_ | (intro hr; have hc := hr; (try simp only [decide_eq_true_eq, decide_eq_false_iff_not, Bool.not_eq_true', Bool.not_eq_false'] at hc); simp -implicitDefEqProofs (disch := omega) only [hr, go_sem, ↓reduceIte, Nat.reduceAdd, Nat.reduceSub, Nat.reduceMul, Nat.reduceLeDiff, Nat.reduceLT, Nat.reduceEqDiff, Int.reduceNeg, Nat.reduceBEq]; (try clear hr))))
    · refine fin_eq ?_ (by rfl)
      have hno : s.values.all (existsB s) = false := not_all_getD (d := []) (j := k) (by omega) hc
      rw [validR, hno]; simp
    · exact ⟨k + 1, ⟨by omega, below_succ ha hc⟩, by omega, by simp⟩
    · refine fin_eq ?_ (by rfl)
      have hall : s.values.all (existsB s) = true := all_getD (d := []) (fun j hj => ha j (by omega))
      simp only [validR, *, decide_true, decide_false, Bool.and_false, Bool.false_and, Bool.and_true, Bool.true_and, Bool.not_true, Bool.not_false]
end Go.Proofs.YtadileniakikeaaGreatDoor
set_option maxRecDepth 100000
set_option linter.unusedSimpArgs false
set_option linter.unusedVariables false
namespace Go.Proofs.YtadileniakikeaaGreatDoor
open Go Go.Vo

theorem few_small {s : LSig} (h : few s = true) : Small s := by
  simp only [few, Bool.and_eq_true, decide_eq_true_eq] at h
  exact ⟨by omega, by omega, by omega, by omega, by omega⟩
theorem bulk_le {l : List LOp} {o : LOp} (h : o ∈ l) : bulk o ≤ bulks l := by
  unfold bulks
  induction l with
  | nil => cases h
  | cons a l ih =>
    rw [List.map_cons, List.sum_cons]
    rcases List.mem_cons.1 h with rfl | h
    · omega
    · have := ih h; omega
theorem few_bulk {s : LSig} (h : few s = true) {o : LOp} (ho : o ∈ s.ops ++ s.funs) : o.args.length ≤ 3000 ∧ o.pieces.length ≤ 3000 ∧ o.strict.length ≤ 3000 := by
  simp only [few, Bool.and_eq_true, decide_eq_true_eq] at h
  have := bulk_le ho
  unfold bulk at this
  omega
theorem few_short {s : LSig} (h : few s = true) : Short s :=
  ⟨fun o ho => by have := few_bulk h (List.mem_append_left _ ho); omega, fun o ho => by have := few_bulk h (List.mem_append_right _ ho); omega⟩
set_option maxHeartbeats 4000000 in
theorem ctr3 (s : LSig) (hs : OkS s): Ctr Tryz.prog G0 3 [.agg (sigCells s)] (.b true) := by
  refine sem_intro (rx := false) mixed Tryz.func3 rfl (by kernel_rfl) (by kernel_rfl) (ac := ?_) ?_ g0 ?_
  rotate_left
  · simp only [strip, stripOps, stripOp, hoist, List.filter_cons, List.filter_nil, List.nil_append, List.cons_append, isFree, anyPre, Region.binds, Bool.not_true, Bool.not_false, Bool.false_eq_true, if_true, if_false, Option.isNone_none, Option.isNone_some, Bool.true_and, Bool.false_and, List.map_nil, List.map_cons, List.isEmpty_nil, List.isEmpty_cons, List.append_nil]
    rfl
  · simp -implicitDefEqProofs (disch := omega) only [Tryz.f3, go_sem, List.replicate, ↓reduceIte, Nat.reduceAdd, Nat.reduceSub, Nat.reduceMul, Nat.reduceLeDiff, Nat.reduceLT, Nat.reduceEqDiff, Int.reduceNeg, Nat.reduceBEq]
    by_cases hf : few s = true
    · have hm := few_small hf
      (repeat' (first | refine g_true ?_ ?_ | refine g_false ?_ ?_ | refine cond_intro ?_ ?_ | (refine c_ctrE (ctr10 s hs) ?_ ?_; (focus (simp -implicitDefEqProofs (disch := omega) only [hf, avs, avb, avi, avo, sigCells, opCells, pairCells, go_sem, ↓reduceIte, Nat.reduceAdd, Nat.reduceSub, Nat.reduceMul, Nat.reduceLeDiff, Nat.reduceLT, Nat.reduceEqDiff, Int.reduceNeg, Nat.reduceBEq]; done)); simp -implicitDefEqProofs (disch := omega) only [hf, go_sem, ↓reduceIte, Nat.reduceAdd, Nat.reduceSub, Nat.reduceMul, Nat.reduceLeDiff, Nat.reduceLT, Nat.reduceEqDiff, Int.reduceNeg, Nat.reduceBEq]) | (refine c_ctrE (ctr11) ?_ ?_; (focus (simp -implicitDefEqProofs (disch := omega) only [hf, avs, avb, avi, avo, sigCells, opCells, pairCells, go_sem, ↓reduceIte, Nat.reduceAdd, Nat.reduceSub, Nat.reduceMul, Nat.reduceLeDiff, Nat.reduceLT, Nat.reduceEqDiff, Int.reduceNeg, Nat.reduceBEq]; done)); simp -implicitDefEqProofs (disch := omega) only [hf, go_sem, ↓reduceIte, Nat.reduceAdd, Nat.reduceSub, Nat.reduceMul, Nat.reduceLeDiff, Nat.reduceLT, Nat.reduceEqDiff, Int.reduceNeg, Nat.reduceBEq]) | (refine c_ctrE (ctr12 s hm hs) ?_ ?_; (focus (simp -implicitDefEqProofs (disch := omega) only [hf, avs, avb, avi, avo, sigCells, opCells, pairCells, go_sem, ↓reduceIte, Nat.reduceAdd, Nat.reduceSub, Nat.reduceMul, Nat.reduceLeDiff, Nat.reduceLT, Nat.reduceEqDiff, Int.reduceNeg, Nat.reduceBEq]; done)); simp -implicitDefEqProofs (disch := omega) only [hf, go_sem, ↓reduceIte, Nat.reduceAdd, Nat.reduceSub, Nat.reduceMul, Nat.reduceLeDiff, Nat.reduceLT, Nat.reduceEqDiff, Int.reduceNeg, Nat.reduceBEq]) | (refine c_ctrE (ctr13 s hm hs) ?_ ?_; (focus (simp -implicitDefEqProofs (disch := omega) only [hf, avs, avb, avi, avo, sigCells, opCells, pairCells, go_sem, ↓reduceIte, Nat.reduceAdd, Nat.reduceSub, Nat.reduceMul, Nat.reduceLeDiff, Nat.reduceLT, Nat.reduceEqDiff, Int.reduceNeg, Nat.reduceBEq]; done)); simp -implicitDefEqProofs (disch := omega) only [hf, go_sem, ↓reduceIte, Nat.reduceAdd, Nat.reduceSub, Nat.reduceMul, Nat.reduceLeDiff, Nat.reduceLT, Nat.reduceEqDiff, Int.reduceNeg, Nat.reduceBEq]) | refine And.intro (by omega) ?_ | (intro hr; have hc := hr; (try simp only [decide_eq_true_eq, decide_eq_false_iff_not, Bool.not_eq_true', Bool.not_eq_false'] at hc); simp -implicitDefEqProofs (disch := omega) only [hr, hf, go_sem, ↓reduceIte, Nat.reduceAdd, Nat.reduceSub, Nat.reduceMul, Nat.reduceLeDiff, Nat.reduceLT, Nat.reduceEqDiff, Int.reduceNeg, Nat.reduceBEq]; (try clear hr))))
      exact fin_eq rfl rfl
    · have hf := Bool.eq_false_iff.2 hf
      (repeat' (first | refine g_true ?_ ?_ | refine g_false ?_ ?_ | refine cond_intro ?_ ?_ | (refine c_ctrE (ctr10 s hs) ?_ ?_; (focus (simp -implicitDefEqProofs (disch := omega) only [hf, avs, avb, avi, avo, sigCells, opCells, pairCells, go_sem, ↓reduceIte, Nat.reduceAdd, Nat.reduceSub, Nat.reduceMul, Nat.reduceLeDiff, Nat.reduceLT, Nat.reduceEqDiff, Int.reduceNeg, Nat.reduceBEq]; done)); simp -implicitDefEqProofs (disch := omega) only [hf, go_sem, ↓reduceIte, Nat.reduceAdd, Nat.reduceSub, Nat.reduceMul, Nat.reduceLeDiff, Nat.reduceLT, Nat.reduceEqDiff, Int.reduceNeg, Nat.reduceBEq]) | (refine c_ctrE (ctr11) ?_ ?_; (focus (simp -implicitDefEqProofs (disch := omega) only [hf, avs, avb, avi, avo, sigCells, opCells, pairCells, go_sem, ↓reduceIte, Nat.reduceAdd, Nat.reduceSub, Nat.reduceMul, Nat.reduceLeDiff, Nat.reduceLT, Nat.reduceEqDiff, Int.reduceNeg, Nat.reduceBEq]; done)); simp -implicitDefEqProofs (disch := omega) only [hf, go_sem, ↓reduceIte, Nat.reduceAdd, Nat.reduceSub, Nat.reduceMul, Nat.reduceLeDiff, Nat.reduceLT, Nat.reduceEqDiff, Int.reduceNeg, Nat.reduceBEq]) | refine And.intro (by omega) ?_ | (intro hr; have hc := hr; (try simp only [decide_eq_true_eq, decide_eq_false_iff_not, Bool.not_eq_true', Bool.not_eq_false'] at hc); simp -implicitDefEqProofs (disch := omega) only [hr, hf, go_sem, ↓reduceIte, Nat.reduceAdd, Nat.reduceSub, Nat.reduceMul, Nat.reduceLeDiff, Nat.reduceLT, Nat.reduceEqDiff, Int.reduceNeg, Nat.reduceBEq]; (try clear hr))))
      exact fin_eq rfl rfl
end Go.Proofs.YtadileniakikeaaGreatDoor

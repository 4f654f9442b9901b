/-
  What functions of the chapter return, as plain functions of what they are given; no condition beyond those that each theorem names.
-/
import Derived.Test.YtadileniakikeaaGreatDoorSoP3
set_option maxRecDepth 100000
set_option linter.unusedSimpArgs false
set_option linter.unusedVariables false
namespace Go.Proofs.YtadileniakikeaaGreatDoor
open Go Go.Vo

/-! ## the reference: sorts, arguments, strictness, pieces -/
def freshB (x : Str) : Bool := isName x && !alwaysB.contains x
theorem always_eq (x : Str) : alwaysA.contains x = alwaysB.contains x := by
  have h1 : alwaysA.all (fun x => alwaysB.contains x) = true := by decide +kernel
  have h2 : alwaysB.all (fun x => alwaysA.contains x) = true := by decide +kernel
  rw [Bool.eq_iff_iff]
  simp only [List.all_eq_true] at h1 h2
  exact ⟨fun h => h1 x (by simpa using h), fun h => h2 x (by simpa using h)⟩
def sortsR (s : LSig) : Bool := s.sorts.all freshB && decide (s.sorts.length ≤ 40) && decide s.sorts.Nodup
theorem castLe40 {n : Nat} : ((n : Int) ≤ 40) ↔ n ≤ 40 := by omega
set_option maxHeartbeats 4000000 in
theorem ctr58 (s : LSig) (hs : OkS s): Ctr Tryz.prog G0 58 [.agg (sigCells s)] (.b (sortsR s)) := by
  refine sem_intro (rx := false) mixed Tryz.func58 rfl (by kernel_rfl) (by kernel_rfl) (ac := ?_) ?_ g0 ?_
  rotate_left
  · simp only [strip, stripOps, stripOp, hoist, List.filter_cons, List.filter_nil, List.nil_append, List.cons_append, isFree, anyPre, Region.binds, Bool.not_true, Bool.not_false, Bool.false_eq_true, if_true, if_false, Option.isNone_none, Option.isNone_some, Bool.true_and, Bool.false_and, List.map_nil, List.map_cons, List.isEmpty_nil, List.isEmpty_cons, List.append_nil]
    rfl
  · simp -implicitDefEqProofs (disch := omega) only [Tryz.f58, go_sem, List.replicate, ↓reduceIte, Nat.reduceAdd, Nat.reduceSub, Nat.reduceMul, Nat.reduceLeDiff, Nat.reduceLT, Nat.reduceEqDiff, Int.reduceNeg, Nat.reduceBEq]
    have h1 := hs.sorts
    refine x_loopG (fun (k : Nat) => [.k, .k, .j, .k, .j, .k, .k, .k, .v (.i .i64 k), .j, .j, .j, .j, .j, .j, .j, .j, .j, .j, .j, .j, .k, .k, .k, .k, .k, .k, .k, .k, .k]) (fun k => [.box false [.sl (s.sorts.map .s) s.sorts.length, .sl (s.below.flatMap pairCells) s.below.length, .sl (s.ops.flatMap opCells) s.ops.length, .sl (s.funs.flatMap opCells) s.funs.length, .sl (s.values.map .s) s.values.length]]) (fun k => k ≤ s.sorts.length ∧ ∀ j, j < k → freshB (s.sorts.getD j []) = true) (fun k => s.sorts.length - k) (0) _ ⟨Nat.zero_le _, fun j h => by omega⟩ rfl (by simp [Fits]) ?_
    rintro k g j ⟨hk, ha⟩
    have hpl : k < s.sorts.length → (s.sorts.getD k []).length ≤ 140737488355328 := fun h => hs.sortsS _ (mem_getD h)
    simp -implicitDefEqProofs (disch := omega) only [go_sem, ↓reduceIte, Nat.reduceAdd, Nat.reduceSub, Nat.reduceMul, Nat.reduceLeDiff, Nat.reduceLT, Nat.reduceEqDiff, Int.reduceNeg, Nat.reduceBEq]
    (repeat' (first | refine g_true ?_ ?_ | refine g_false ?_ ?_ | refine cond_intro ?_ ?_ | (refine c_ctrE (ctr42 (s.sorts.getD k []) (hpl (by omega))) ?_ ?_; (focus (simp -implicitDefEqProofs (disch := omega) only [avs, avb, avi, avo, sigCells, opCells, pairCells, go_sem, ↓reduceIte, Nat.reduceAdd, Nat.reduceSub, Nat.reduceMul, Nat.reduceLeDiff, Nat.reduceLT, Nat.reduceEqDiff, Int.reduceNeg, Nat.reduceBEq]; done)); simp -implicitDefEqProofs (disch := omega) only [go_sem, ↓reduceIte, Nat.reduceAdd, Nat.reduceSub, Nat.reduceMul, Nat.reduceLeDiff, Nat.reduceLT, Nat.reduceEqDiff, Int.reduceNeg, Nat.reduceBEq]) | (refine c_ctrE (ctr78) ?_ ?_; (focus (simp -implicitDefEqProofs (disch := omega) only [avs, avb, avi, avo, sigCells, opCells, pairCells, go_sem, ↓reduceIte, Nat.reduceAdd, Nat.reduceSub, Nat.reduceMul, Nat.reduceLeDiff, Nat.reduceLT, Nat.reduceEqDiff, Int.reduceNeg, Nat.reduceBEq]; done)); simp -implicitDefEqProofs (disch := omega) only [go_sem, ↓reduceIte, Nat.reduceAdd, Nat.reduceSub, Nat.reduceMul, Nat.reduceLeDiff, Nat.reduceLT, Nat.reduceEqDiff, Int.reduceNeg, Nat.reduceBEq]) | (refine c_ctrE (ctr27 alwaysB (s.sorts.getD k []) (by decide)) ?_ ?_; (focus (simp -implicitDefEqProofs (disch := omega) only [avs, avb, avi, avo, sigCells, opCells, pairCells, go_sem, ↓reduceIte, Nat.reduceAdd, Nat.reduceSub, Nat.reduceMul, Nat.reduceLeDiff, Nat.reduceLT, Nat.reduceEqDiff, Int.reduceNeg, Nat.reduceBEq]; done)); simp -implicitDefEqProofs (disch := omega) only [go_sem, ↓reduceIte, Nat.reduceAdd, Nat.reduceSub, Nat.reduceMul, Nat.reduceLeDiff, Nat.reduceLT, Nat.reduceEqDiff, Int.reduceNeg, Nat.reduceBEq]) | (refine c_ctrE (ctr62 s.sorts h1) ?_ ?_; (focus (simp -implicitDefEqProofs (disch := omega) only [avs, avb, avi, avo, sigCells, opCells, pairCells, go_sem, ↓reduceIte, Nat.reduceAdd, Nat.reduceSub, Nat.reduceMul, Nat.reduceLeDiff, Nat.reduceLT, Nat.reduceEqDiff, Int.reduceNeg, Nat.reduceBEq]; done)); simp -implicitDefEqProofs (disch := omega) only [go_sem, ↓reduceIte, Nat.reduceAdd, Nat.reduceSub, Nat.reduceMul, Nat.reduceLeDiff, Nat.reduceLT, Nat.reduceEqDiff, Int.reduceNeg, Nat.reduceBEq]) | refine And.intro (by omega) ?_ | (intro hr; have hc := hr; (try simp only [decide_eq_true_eq, decide_eq_false_iff_not, Bool.not_eq_true', Bool.not_eq_false'] at hc); simp -implicitDefEqProofs (disch := omega) only [hr, go_sem, ↓reduceIte, Nat.reduceAdd, Nat.reduceSub, Nat.reduceMul, Nat.reduceLeDiff, Nat.reduceLT, Nat.reduceEqDiff, Int.reduceNeg, Nat.reduceBEq]; (try clear hr))))
    · refine fin_eq ?_ (by rfl)
      rw [sortsR, not_all_getD (d := []) (j := k) (by omega) (by simp only [freshB, *, Bool.not_true, Bool.and_false])]; rfl
    · exact ⟨k + 1, _, ⟨by omega, below_succ ha (by simp only [freshB, *, Bool.not_false, Bool.and_true])⟩, by omega, rfl, by simp⟩
    · refine fin_eq ?_ (by rfl)
      rw [sortsR, not_all_getD (d := []) (j := k) (by omega) (by simp only [freshB, *, Bool.false_and])]; rfl
    · refine fin_eq ?_ (by rfl)
      have hall : s.sorts.all freshB = true := all_getD (d := []) (fun j hj => ha j (by omega))
      rw [sortsR, hall, decide_eq_true (castLe40.1 hc)]; rfl
    · refine fin_eq ?_ (by rfl)
      rw [castLe40] at hc
      rw [sortsR, decide_eq_false hc]; simp
def argsR (s : LSig) (o : LOp) : Bool := o.args.all (existsB s) && decide (o.args.length ≤ 8)
set_option maxHeartbeats 4000000 in
theorem ctr116 (s : LSig) (o : LOp) (hs : s.sorts.length ≤ 140737488355328) (ho : o.args.length ≤ 140737488355328): Ctr Tryz.prog G0 116 [.agg (sigCells s), elO o] (.b (argsR s o)) := by
  refine sem_intro (rx := false) mixed Tryz.func116 rfl (by kernel_rfl) (by kernel_rfl) (ac := ?_) ?_ g0 ?_
  rotate_left
  · simp only [strip, stripOps, stripOp, hoist, List.filter_cons, List.filter_nil, List.nil_append, List.cons_append, isFree, anyPre, Region.binds, Bool.not_true, Bool.not_false, Bool.false_eq_true, if_true, if_false, Option.isNone_none, Option.isNone_some, Bool.true_and, Bool.false_and, List.map_nil, List.map_cons, List.isEmpty_nil, List.isEmpty_cons, List.append_nil]
    rfl
  · simp -implicitDefEqProofs (disch := omega) only [Tryz.f116, go_sem, List.replicate, ↓reduceIte, Nat.reduceAdd, Nat.reduceSub, Nat.reduceMul, Nat.reduceLeDiff, Nat.reduceLT, Nat.reduceEqDiff, Int.reduceNeg, Nat.reduceBEq]
    refine x_loopG (fun (k : Nat) => [.k, .k, .k, .k, .j, .k, .j, .k, .k, .k, .v (.i .i64 k), .j, .j, .j, .j, .j, .j, .j, .j, .k, .k, .k, .k]) (fun k => [.box false [.sl (s.sorts.map .s) s.sorts.length, .sl (s.below.flatMap pairCells) s.below.length, .sl (s.ops.flatMap opCells) s.ops.length, .sl (s.funs.flatMap opCells) s.funs.length, .sl (s.values.map .s) s.values.length], .box false (opCells o)]) (fun k => k ≤ o.args.length ∧ ∀ j, j < k → existsB s (o.args.getD j []) = true) (fun k => o.args.length - k) (0) _ ⟨Nat.zero_le _, fun j h => by omega⟩ rfl (by simp [Fits]) ?_
    rintro k g j ⟨hk, ha⟩
    simp -implicitDefEqProofs (disch := omega) only [go_sem, ↓reduceIte, Nat.reduceAdd, Nat.reduceSub, Nat.reduceMul, Nat.reduceLeDiff, Nat.reduceLT, Nat.reduceEqDiff, Int.reduceNeg, Nat.reduceBEq]
    (repeat' (first | refine g_true ?_ ?_ | refine g_false ?_ ?_ | refine cond_intro ?_ ?_ | (refine c_ctrE (ctr61 s (o.args.getD k []) hs) ?_ ?_; (focus (simp -implicitDefEqProofs (disch := omega) only [avs, avb, avi, avo, sigCells, opCells, pairCells, go_sem, ↓reduceIte, Nat.reduceAdd, Nat.reduceSub, Nat.reduceMul, Nat.reduceLeDiff, Nat.reduceLT, Nat.reduceEqDiff, Int.reduceNeg, Nat.reduceBEq]; done)); simp -implicitDefEqProofs (disch := omega) only [go_sem, ↓reduceIte, Nat.reduceAdd, Nat.reduceSub, Nat.reduceMul, Nat.reduceLeDiff, Nat.reduceLT, Nat.reduceEqDiff, Int.reduceNeg, Nat.reduceBEq]) | refine And.intro (by omega) ?_ | (intro hr; have hc := hr; (try simp only [decide_eq_true_eq, decide_eq_false_iff_not, Bool.not_eq_true', Bool.not_eq_false'] at hc); simp -implicitDefEqProofs (disch := omega) only [hr, go_sem, ↓reduceIte, Nat.reduceAdd, Nat.reduceSub, Nat.reduceMul, Nat.reduceLeDiff, Nat.reduceLT, Nat.reduceEqDiff, Int.reduceNeg, Nat.reduceBEq]; (try clear hr))))
    · refine fin_eq ?_ (by rfl)
      rw [argsR, not_all_getD (d := []) (j := k) (by omega) hc]; rfl
    · exact ⟨k + 1, _, ⟨by omega, below_succ ha hc⟩, by omega, rfl, by simp⟩
    · refine fin_eq ?_ (by rfl)
      have hall : o.args.all (existsB s) = true := all_getD (d := []) (fun j hj => ha j (by omega))
      rw [argsR, hall]; simp; omega
theorem getD_el {α : Type} {l : List α} {i : Nat} {d : α} (h : i < l.length) : l.getD i d = l[i] := by simp [List.getD, h]
def strictR (o : LOp) : Bool := o.strict.all (numOK o) && decide o.strict.Nodup
theorem take_int {l : List Int} {k : Nat} {q : IntKind} : (l.map (AV.i q)).take k = (l.take k).map (.i q) := List.map_take.symm
set_option maxHeartbeats 4000000 in
theorem ctr118 (o : LOp) (ho : OkO o): Ctr Tryz.prog G0 118 [elO o] (.b (strictR o)) := by
  refine sem_intro (rx := false) mixed Tryz.func118 rfl (by kernel_rfl) (by kernel_rfl) (ac := ?_) ?_ g0 ?_
  rotate_left
  · simp only [strip, stripOps, stripOp, hoist, List.filter_cons, List.filter_nil, List.nil_append, List.cons_append, isFree, anyPre, Region.binds, Bool.not_true, Bool.not_false, Bool.false_eq_true, if_true, if_false, Option.isNone_none, Option.isNone_some, Bool.true_and, Bool.false_and, List.map_nil, List.map_cons, List.isEmpty_nil, List.isEmpty_cons, List.append_nil]
    rfl
  · simp -implicitDefEqProofs (disch := omega) only [Tryz.f118, go_sem, List.replicate, ↓reduceIte, Nat.reduceAdd, Nat.reduceSub, Nat.reduceMul, Nat.reduceLeDiff, Nat.reduceLT, Nat.reduceEqDiff, Int.reduceNeg, Nat.reduceBEq]
    have h1 := ho.strict
    have h2 := ho.args
    refine x_loopJ (fun (k : Nat) => [.k, .k, .j, .j, .j, .k, .j, .k, .k, .k, .v (.i .i64 k), .j, .j, .j, .j, .j, .j, .j, .j, .j, .j, .j, .j, .j, .j, .j, .j, .j, .j, .j, .j, .j, .j, .j, .j, .j, .j, .j]) (fun k => [.box false (opCells o)]) (fun k => k ≤ o.strict.length ∧ ∀ j, j < k → (numOK o (o.strict.getD j 0) = true ∧ (o.strict.take j).contains (o.strict.getD j 0) = false)) (fun k => o.strict.length - k) (0) ⟨Nat.zero_le _, fun j h => by omega⟩ rfl (by simp [Fits]) ?_
    rintro k j ⟨hk, ha⟩
    simp -implicitDefEqProofs (disch := omega) only [go_sem, ↓reduceIte, Nat.reduceAdd, Nat.reduceSub, Nat.reduceMul, Nat.reduceLeDiff, Nat.reduceLT, Nat.reduceEqDiff, Int.reduceNeg, Nat.reduceBEq]
    (repeat' (first | refine g_true ?_ ?_ | refine g_false ?_ ?_ | refine cond_intro ?_ ?_ | refine And.intro (by omega) ?_ | (intro hr; have hc := hr; (try simp only [decide_eq_true_eq, decide_eq_false_iff_not, Bool.not_eq_true', Bool.not_eq_false'] at hc); simp -implicitDefEqProofs (disch := omega) only [hr, go_sem, ↓reduceIte, Nat.reduceAdd, Nat.reduceSub, Nat.reduceMul, Nat.reduceLeDiff, Nat.reduceLT, Nat.reduceEqDiff, Int.reduceNeg, Nat.reduceBEq]; (try clear hr))))
    · refine fin_eq ?_ (by rfl)
      rw [strictR, not_all_getD (d := 0) (j := k) (by omega) (by unfold numOK; rw [decide_eq_false (p := o.strict.getD k 0 ≤ _) (by omega), Bool.and_false])]; rfl
    · refine x_loopJ (fun (m : Nat) => [.k, .k, .j, .k, .k, .k, .j, .k, .k, .k, .k, .k, .k, .k, .k, .k, .k, .k, .k, .k, .k, .k, .k, .k, .k, .k, .k, .k, .k, .v (.i .i64 m), .j, .j, .j, .j, .j, .j, .j, .k]) (fun m => [.box false (opCells o)]) (fun m => m ≤ k ∧ ∀ j, j < m → (o.strict.take k).getD j 0 ≠ o.strict.getD k 0) (fun m => k - m) (0) ⟨Nat.zero_le _, fun j h => by omega⟩ rfl (by simp [Fits]) ?_
      rintro m j ⟨hm, hb⟩
      have hlt : (o.strict.take k).length = k := by simp; omega
      simp -implicitDefEqProofs (disch := omega) only [hlt, go_sem, ↓reduceIte, Nat.reduceAdd, Nat.reduceSub, Nat.reduceMul, Nat.reduceLeDiff, Nat.reduceLT, Nat.reduceEqDiff, Int.reduceNeg, Nat.reduceBEq]
      (repeat' (first | refine g_true ?_ ?_ | refine g_false ?_ ?_ | refine cond_intro ?_ ?_ | refine And.intro (by omega) ?_ | (intro hr; have hc := hr; (try simp only [decide_eq_true_eq, decide_eq_false_iff_not, Bool.not_eq_true', Bool.not_eq_false'] at hc); simp -implicitDefEqProofs (disch := omega) only [hr, hlt, go_sem, ↓reduceIte, Nat.reduceAdd, Nat.reduceSub, Nat.reduceMul, Nat.reduceLeDiff, Nat.reduceLT, Nat.reduceEqDiff, Int.reduceNeg, Nat.reduceBEq]; (try clear hr))))
      · refine fin_eq ?_ (by rfl)
        have hcon : (o.strict.take k).contains (o.strict.getD k 0) = true := by
          have hm2 := mem_getD (l := o.strict.take k) (d := 0) (k := m) (by omega)
          rw [hc] at hm2
          simpa using hm2
        rw [strictR, decide_eq_false (fun hn => by rw [nodup_noG hn (by omega)] at hcon; cases hcon), Bool.and_false]
      · exact ⟨m + 1, ⟨by omega, below_succ hb hc⟩, by omega, by simp⟩
      · have hmk : m = k := by omega
        subst hmk
        have hno : (o.strict.take m).contains (o.strict.getD m 0) = false := by
          rw [← Bool.not_eq_true]
          intro hcon
          have hm2 : o.strict.getD m 0 ∈ o.strict.take m := by simpa using hcon
          obtain ⟨i, hi, he⟩ := List.mem_iff_getElem.1 hm2
          exact hb i (by omega) (by rw [getD_el hi]; exact he)
        exact ⟨m + 1, ⟨by omega, below_succ ha ⟨by unfold numOK; rw [decide_eq_true (by omega), decide_eq_true (by omega)]; rfl, hno⟩⟩, by omega, by simp⟩
    · refine fin_eq ?_ (by rfl)
      rw [strictR, not_all_getD (d := 0) (j := k) (by omega) (by unfold numOK; rw [decide_eq_false (p := 1 ≤ _) (by omega), Bool.false_and])]; rfl
    · refine fin_eq ?_ (by rfl)
      have h3 : k = o.strict.length := by omega
      have hall : o.strict.all (numOK o) = true := all_getD (d := 0) (fun j hj => (ha j (by omega)).1)
      rw [strictR, hall, decide_eq_true (nodup_ofG (d := 0) (fun j hj => (ha j (by omega)).2))]; rfl
def pieceChar (n : Int) : Bool := !(decide (n < 33) || decide (126 < n) || letter n || digit n || decide (n = 95) || decide (n = 34) || decide (n = 39) || decide (n = 92))
def pieceR (s : Str) : Bool := decide (1 ≤ s.length) && decide (s.length ≤ 20) && (isName s || s.all fun c => pieceChar c.toNat)
set_option maxHeartbeats 4000000 in
theorem ctr139 (s : Str) (hs : s.length ≤ 140737488355328): Ctr Tryz.prog G0 139 [.s s] (.b (pieceR s)) := by
  refine sem_intro (rx := false) mixed Tryz.func139 rfl (by kernel_rfl) (by kernel_rfl) (ac := ?_) ?_ g0 ?_
  rotate_left
  · simp only [strip, stripOps, stripOp, hoist, List.filter_cons, List.filter_nil, List.nil_append, List.cons_append, isFree, anyPre, Region.binds, Bool.not_true, Bool.not_false, Bool.false_eq_true, if_true, if_false, Option.isNone_none, Option.isNone_some, Bool.true_and, Bool.false_and, List.map_nil, List.map_cons, List.isEmpty_nil, List.isEmpty_cons, List.append_nil]
    rfl
  · simp -implicitDefEqProofs (disch := omega) only [Tryz.f139, go_sem, List.replicate, ↓reduceIte, Nat.reduceAdd, Nat.reduceSub, Nat.reduceMul, Nat.reduceLeDiff, Nat.reduceLT, Nat.reduceEqDiff, Int.reduceNeg, Nat.reduceBEq]
    (repeat' (first | refine g_true ?_ ?_ | refine g_false ?_ ?_ | refine cond_intro ?_ ?_ | (refine c_ctrE (ctr42 s hs) ?_ ?_; (focus (simp -implicitDefEqProofs (disch := omega) only [avs, avb, avi, avo, sigCells, opCells, pairCells, go_sem, ↓reduceIte, Nat.reduceAdd, Nat.reduceSub, Nat.reduceMul, Nat.reduceLeDiff, Nat.reduceLT, Nat.reduceEqDiff, Int.reduceNeg, Nat.reduceBEq]; done)); simp -implicitDefEqProofs (disch := omega) only [go_sem, ↓reduceIte, Nat.reduceAdd, Nat.reduceSub, Nat.reduceMul, Nat.reduceLeDiff, Nat.reduceLT, Nat.reduceEqDiff, Int.reduceNeg, Nat.reduceBEq]) | refine And.intro (by omega) ?_ | (intro hr; have hc := hr; (try simp only [decide_eq_true_eq, decide_eq_false_iff_not, Bool.not_eq_true', Bool.not_eq_false'] at hc); simp -implicitDefEqProofs (disch := omega) only [hr, go_sem, ↓reduceIte, Nat.reduceAdd, Nat.reduceSub, Nat.reduceMul, Nat.reduceLeDiff, Nat.reduceLT, Nat.reduceEqDiff, Int.reduceNeg, Nat.reduceBEq]; (try clear hr))))
    · refine fin_eq ?_ (by rfl)
      rw [pieceR, decide_eq_false (p := s.length ≤ 20) (by omega)]; simp
    · refine fin_eq ?_ (by rfl)
      rw [pieceR, decide_eq_true (p := s.length ≤ 20) (by omega), decide_eq_true (p := 1 ≤ s.length) (by omega), hc]; rfl
    · refine x_loopJ (fun (k : Nat) => [.k, .k, .j, .j, .j, .k, .k, .k, .k, .k, .k, .k, .k, .k, .k, .k, .k, .v (.i .i64 k), .j, .j, .j, .j, .j, .j, .j, .j, .j, .j, .j, .j, .j, .j, .j, .j, .j, .j, .j, .j, .j, .j, .j, .j, .j, .j, .j, .j, .j, .j, .j, .j, .j, .j, .j, .j]) (fun k => []) (fun k => k ≤ s.length ∧ ∀ j, j < k → pieceChar (at_ s j) = true) (fun k => s.length - k) (0) ⟨Nat.zero_le _, fun j h => by omega⟩ rfl (by simp [Fits]) ?_
      rintro k j ⟨hk, ha⟩
      have hb : isName s = false := hc
      have hr := at_range s k
      simp only [at_] at hr
      simp -implicitDefEqProofs (disch := omega) only [go_sem, ↓reduceIte, Nat.reduceAdd, Nat.reduceSub, Nat.reduceMul, Nat.reduceLeDiff, Nat.reduceLT, Nat.reduceEqDiff, Int.reduceNeg, Nat.reduceBEq]
      (repeat' (first | refine g_true ?_ ?_ | refine g_false ?_ ?_ | refine cond_intro ?_ ?_ | (refine c_ctr (ctr98 _) ?_; simp -implicitDefEqProofs (disch := omega) only [go_sem, ↓reduceIte, Nat.reduceAdd, Nat.reduceSub, Nat.reduceMul, Nat.reduceLeDiff, Nat.reduceLT, Nat.reduceEqDiff, Int.reduceNeg, Nat.reduceBEq]) | (refine c_ctr (ctr99 _) ?_; simp -implicitDefEqProofs (disch := omega) only [go_sem, ↓reduceIte, Nat.reduceAdd, Nat.reduceSub, Nat.reduceMul, Nat.reduceLeDiff, Nat.reduceLT, Nat.reduceEqDiff, Int.reduceNeg, Nat.reduceBEq]) | refine And.intro (by omega) ?_ | (intro hr; have hc := hr; (try simp only [decide_eq_true_eq, decide_eq_false_iff_not, Bool.not_eq_true', Bool.not_eq_false'] at hc); simp -implicitDefEqProofs (disch := omega) only [hr, go_sem, ↓reduceIte, Nat.reduceAdd, Nat.reduceSub, Nat.reduceMul, Nat.reduceLeDiff, Nat.reduceLT, Nat.reduceEqDiff, Int.reduceNeg, Nat.reduceBEq]; (try clear hr))))
      all_goals first | (refine fin_eq ?_ (by rfl); rw [pieceR, hb, not_all_at (q := pieceChar) (j := k) (by omega) (by simp only [pieceChar, at_, *, decide_true, Bool.or_true, Bool.true_or, Bool.not_true]), Bool.or_false, Bool.and_false]; done) | skip
      · exact ⟨k + 1, ⟨by omega, below_succ ha (by simp only [pieceChar, at_, *, decide_false, Bool.or_false, Bool.not_false])⟩, by omega, by simp⟩
      · refine fin_eq ?_ (by rfl)
        have h1 : k = s.length := by omega
        rw [pieceR, all_at (q := pieceChar) (h1 ▸ ha), decide_eq_true (p := s.length ≤ 20) (by omega), decide_eq_true (p := 1 ≤ s.length) (by omega), Bool.or_true]; rfl
    · refine fin_eq ?_ (by rfl)
      rw [pieceR, decide_eq_false (p := 1 ≤ s.length) (by omega)]; simp
end Go.Proofs.YtadileniakikeaaGreatDoor
set_option maxRecDepth 100000
set_option linter.unusedSimpArgs false
set_option linter.unusedVariables false
namespace Go.Proofs.YtadileniakikeaaGreatDoor
open Go Go.Vo

theorem int2_0 : ((2 : Int) = 0) = False := by decide
theorem int13_0 : ((13 : Int) = 0) = False := by decide
theorem int4_0 : ((4 : Int) = 0) = False := by decide
theorem int14_0 : ((14 : Int) = 0) = False := by decide
attribute [go_sem] ite_self int2_0 int13_0 int4_0 int14_0 List.isEmpty_nil decide_true decide_false not_true_eq_false not_false_eq_true Bool.not_true Bool.not_false
abbrev nilA : AV := .p (.pointer none)
def codeA (n : Int) : AV := .i .i64 n
/-- what the book of a signature is -/
def bookR (s : LSig) (xs : List Str) : AV :=
  if validB s then (if xs.all (existsA s) then .tup [bookAV s, .i .i64 0] else .tup [nilA, .i .i64 13]) else .tup [nilA, .i .i64 2]
set_option maxHeartbeats 4000000 in
theorem ctr63 (s : LSig) (xs : List Str) (hs : Small s) (ho : OkS s) (hx : xs.length ≤ 140737488355328): Ctr Tryz.prog G0 63 [.agg (sigCells s), avs xs] (bookR s xs) := by
  refine sem_intro (rx := false) mixed Tryz.func63 rfl (by kernel_rfl) (by kernel_rfl) (ac := ?_) ?_ g0 ?_
  rotate_left
  · simp only [strip, stripOps, stripOp, hoist, List.filter_cons, List.filter_nil, List.nil_append, List.cons_append, isFree, anyPre, Region.binds, Bool.not_true, Bool.not_false, Bool.false_eq_true, if_true, if_false, Option.isNone_none, Option.isNone_some, Bool.true_and, Bool.false_and, List.map_nil, List.map_cons, List.isEmpty_nil, List.isEmpty_cons, List.append_nil]
    rfl
  · simp -implicitDefEqProofs (disch := omega) only [Tryz.f63, go_sem, List.replicate, ↓reduceIte, Nat.reduceAdd, Nat.reduceSub, Nat.reduceMul, Nat.reduceLeDiff, Nat.reduceLT, Nat.reduceEqDiff, Int.reduceNeg, Nat.reduceBEq]
    by_cases hv : validB s = true
    · (repeat' (first | refine g_true ?_ ?_ | refine g_false ?_ ?_ | refine cond_intro ?_ ?_ | (refine c_ctrE (ctr12 s hs ho) ?_ ?_; (focus (simp -implicitDefEqProofs (disch := omega) only [avs, avb, avi, avo, sigCells, opCells, pairCells, go_sem, ↓reduceIte, Nat.reduceAdd, Nat.reduceSub, Nat.reduceMul, Nat.reduceLeDiff, Nat.reduceLT, Nat.reduceEqDiff, Int.reduceNeg, Nat.reduceBEq]; done)); simp -implicitDefEqProofs (disch := omega) only [go_sem, ↓reduceIte, Nat.reduceAdd, Nat.reduceSub, Nat.reduceMul, Nat.reduceLeDiff, Nat.reduceLT, Nat.reduceEqDiff, Int.reduceNeg, Nat.reduceBEq]) | (refine c_ctrE (ctr51 s hs (valid_distinct hv)) ?_ ?_; (focus (simp -implicitDefEqProofs (disch := omega) only [avs, avb, avi, avo, sigCells, opCells, pairCells, go_sem, ↓reduceIte, Nat.reduceAdd, Nat.reduceSub, Nat.reduceMul, Nat.reduceLeDiff, Nat.reduceLT, Nat.reduceEqDiff, Int.reduceNeg, Nat.reduceBEq]; done)); simp -implicitDefEqProofs (disch := omega) only [go_sem, ↓reduceIte, Nat.reduceAdd, Nat.reduceSub, Nat.reduceMul, Nat.reduceLeDiff, Nat.reduceLT, Nat.reduceEqDiff, Int.reduceNeg, Nat.reduceBEq]) | (refine c_ctrE (ctr49 xs 54 [bookAV s] [] (existsA s) hx persL_bk rfl (fun k hk => ctr54 s (xs.getD k []))) ?_ ?_; (focus (simp -implicitDefEqProofs (disch := omega) only [avs, avb, avi, avo, sigCells, opCells, pairCells, go_sem, ↓reduceIte, Nat.reduceAdd, Nat.reduceSub, Nat.reduceMul, Nat.reduceLeDiff, Nat.reduceLT, Nat.reduceEqDiff, Int.reduceNeg, Nat.reduceBEq]; done)); simp -implicitDefEqProofs (disch := omega) only [go_sem, ↓reduceIte, Nat.reduceAdd, Nat.reduceSub, Nat.reduceMul, Nat.reduceLeDiff, Nat.reduceLT, Nat.reduceEqDiff, Int.reduceNeg, Nat.reduceBEq]) | refine And.intro (by omega) ?_ | (intro hr; have hc := hr; (try simp only [decide_eq_true_eq, decide_eq_false_iff_not, Bool.not_eq_true', Bool.not_eq_false'] at hc); simp -implicitDefEqProofs (disch := omega) only [hr, go_sem, ↓reduceIte, Nat.reduceAdd, Nat.reduceSub, Nat.reduceMul, Nat.reduceLeDiff, Nat.reduceLT, Nat.reduceEqDiff, Int.reduceNeg, Nat.reduceBEq]; (try clear hr))))
      all_goals first | (exfalso; simp_all; done) | (refine fin_eq (by simp only [bookR, codeA, bookAV, *, if_true, if_false, Bool.false_eq_true, ↓reduceIte]) (by simp [pers, persL, persL_book]))
    · (repeat' (first | refine g_true ?_ ?_ | refine g_false ?_ ?_ | refine cond_intro ?_ ?_ | (refine c_ctrE (ctr12 s hs ho) ?_ ?_; (focus (simp -implicitDefEqProofs (disch := omega) only [avs, avb, avi, avo, sigCells, opCells, pairCells, go_sem, ↓reduceIte, Nat.reduceAdd, Nat.reduceSub, Nat.reduceMul, Nat.reduceLeDiff, Nat.reduceLT, Nat.reduceEqDiff, Int.reduceNeg, Nat.reduceBEq]; done)); simp -implicitDefEqProofs (disch := omega) only [go_sem, ↓reduceIte, Nat.reduceAdd, Nat.reduceSub, Nat.reduceMul, Nat.reduceLeDiff, Nat.reduceLT, Nat.reduceEqDiff, Int.reduceNeg, Nat.reduceBEq]) | (refine c_ctrE (ctr51 s hs (valid_distinct hv)) ?_ ?_; (focus (simp -implicitDefEqProofs (disch := omega) only [avs, avb, avi, avo, sigCells, opCells, pairCells, go_sem, ↓reduceIte, Nat.reduceAdd, Nat.reduceSub, Nat.reduceMul, Nat.reduceLeDiff, Nat.reduceLT, Nat.reduceEqDiff, Int.reduceNeg, Nat.reduceBEq]; done)); simp -implicitDefEqProofs (disch := omega) only [go_sem, ↓reduceIte, Nat.reduceAdd, Nat.reduceSub, Nat.reduceMul, Nat.reduceLeDiff, Nat.reduceLT, Nat.reduceEqDiff, Int.reduceNeg, Nat.reduceBEq]) | refine And.intro (by omega) ?_ | (intro hr; have hc := hr; (try simp only [decide_eq_true_eq, decide_eq_false_iff_not, Bool.not_eq_true', Bool.not_eq_false'] at hc); simp -implicitDefEqProofs (disch := omega) only [hr, go_sem, ↓reduceIte, Nat.reduceAdd, Nat.reduceSub, Nat.reduceMul, Nat.reduceLeDiff, Nat.reduceLT, Nat.reduceEqDiff, Int.reduceNeg, Nat.reduceBEq]; (try clear hr))))
      all_goals first | (exfalso; simp_all; done) | (refine fin_eq (by simp only [bookR, codeA, bookAV, *, if_true, if_false, Bool.false_eq_true, ↓reduceIte]) (by simp [pers, persL, persL_book]))

def optR (r : Option LOp) : AV := match r with
  | some o => .tup [elO o, .b true]
  | none => .tup [elO default, .b false]
def opAt (s : LSig) (x : Str) : Option LOp := s.ops.find? fun o => decide (o.name = x)
def funAt (s : LSig) (x : Str) : Option LOp := s.funs.find? fun o => decide (o.name = x)
theorem findIdx_map {l : List LOp} {x : Str} : ((l.map LOp.name).findIdx? fun y => decide (x = y)) = l.findIdx? fun o => decide (o.name = x) := by
  rw [List.findIdx?_map]; congr 1; funext o; simp [eq_comm]
theorem find_idx {l : List LOp} {x : Str} : (∃ i o, (l.findIdx? fun o => decide (o.name = x)) = some i ∧ l.find? (fun o => decide (o.name = x)) = some o ∧ (l.map elO)[i]? = some (elO o)) ∨ ((l.findIdx? fun o => decide (o.name = x)) = none ∧ l.find? (fun o => decide (o.name = x)) = none) := by
  induction l with
  | nil => right; simp
  | cons a l ih =>
    by_cases h : a.name = x
    · left; exact ⟨0, a, by simp [List.findIdx?_cons, h], by simp [h], by simp⟩
    · rcases ih with ⟨i, o, h1, h2, h3⟩ | ⟨h1, h2⟩
      · left; exact ⟨i + 1, o, by simp [List.findIdx?_cons, h, h1], by simp [h, h2], by simpa using h3⟩
      · right; exact ⟨by simp [List.findIdx?_cons, h, h1], by simp [h, h2]⟩
set_option maxHeartbeats 4000000 in
theorem ctr64 (s : LSig) (x : Str): Ctr Tryz.prog G0 64 [bookAV s, .s x] (optR (opAt s x)) := by
  refine sem_intro (rx := false) mixed Tryz.func64 rfl (by kernel_rfl) (by kernel_rfl) (ac := ?_) ?_ g0 ?_
  rotate_left
  · simp only [strip, stripOps, stripOp, hoist, List.filter_cons, List.filter_nil, List.nil_append, List.cons_append, isFree, anyPre, Region.binds, Bool.not_true, Bool.not_false, Bool.false_eq_true, if_true, if_false, Option.isNone_none, Option.isNone_some, Bool.true_and, Bool.false_and, List.map_nil, List.map_cons, List.isEmpty_nil, List.isEmpty_cons, List.append_nil]
    rfl
  · simp -implicitDefEqProofs (disch := omega) only [Tryz.f64, go_sem, List.replicate, ↓reduceIte, Nat.reduceAdd, Nat.reduceSub, Nat.reduceMul, Nat.reduceLeDiff, Nat.reduceLT, Nat.reduceEqDiff, Int.reduceNeg, Nat.reduceBEq]
    rcases find_idx (l := s.ops) (x := x) with ⟨i, o, h1, h2, h3⟩ | ⟨h1, h2⟩
    · simp -implicitDefEqProofs (disch := omega) only [findIdx_map, h1, h3, go_sem, ↓reduceIte, Nat.reduceAdd, Nat.reduceSub, Nat.reduceMul, Nat.reduceLeDiff, Nat.reduceLT, Nat.reduceEqDiff, Int.reduceNeg, Nat.reduceBEq]
      exact fin_eq (by simp only [optR, opAt, h2]; rfl) (by simp only [pers, persL, persL_s, persL_pair, persL_i, Bool.and_self])
    · simp -implicitDefEqProofs (disch := omega) only [findIdx_map, h1, go_sem, ↓reduceIte, Nat.reduceAdd, Nat.reduceSub, Nat.reduceMul, Nat.reduceLeDiff, Nat.reduceLT, Nat.reduceEqDiff, Int.reduceNeg, Nat.reduceBEq]
      have : optR (opAt s x) = .tup [elO default, .b false] := by simp only [optR, opAt, h2]
      rw [this]
      exact .inr ⟨⟨⟨rfl, rfl, rfl, rfl, rfl, rfl, rfl, trivial⟩, rfl, trivial⟩, by decide, fun i hi => by cases hi⟩
set_option maxHeartbeats 4000000 in
theorem ctr68 (s : LSig) (x : Str): Ctr Tryz.prog G0 68 [bookAV s, .s x] (optR (funAt s x)) := by
  refine sem_intro (rx := false) mixed Tryz.func68 rfl (by kernel_rfl) (by kernel_rfl) (ac := ?_) ?_ g0 ?_
  rotate_left
  · simp only [strip, stripOps, stripOp, hoist, List.filter_cons, List.filter_nil, List.nil_append, List.cons_append, isFree, anyPre, Region.binds, Bool.not_true, Bool.not_false, Bool.false_eq_true, if_true, if_false, Option.isNone_none, Option.isNone_some, Bool.true_and, Bool.false_and, List.map_nil, List.map_cons, List.isEmpty_nil, List.isEmpty_cons, List.append_nil]
    rfl
  · simp -implicitDefEqProofs (disch := omega) only [Tryz.f68, go_sem, List.replicate, ↓reduceIte, Nat.reduceAdd, Nat.reduceSub, Nat.reduceMul, Nat.reduceLeDiff, Nat.reduceLT, Nat.reduceEqDiff, Int.reduceNeg, Nat.reduceBEq]
    rcases find_idx (l := s.funs) (x := x) with ⟨i, o, h1, h2, h3⟩ | ⟨h1, h2⟩
    · simp -implicitDefEqProofs (disch := omega) only [findIdx_map, h1, h3, go_sem, ↓reduceIte, Nat.reduceAdd, Nat.reduceSub, Nat.reduceMul, Nat.reduceLeDiff, Nat.reduceLT, Nat.reduceEqDiff, Int.reduceNeg, Nat.reduceBEq]
      exact fin_eq (by simp only [optR, funAt, h2]; rfl) (by simp only [pers, persL, persL_s, persL_pair, persL_i, Bool.and_self])
    · simp -implicitDefEqProofs (disch := omega) only [findIdx_map, h1, go_sem, ↓reduceIte, Nat.reduceAdd, Nat.reduceSub, Nat.reduceMul, Nat.reduceLeDiff, Nat.reduceLT, Nat.reduceEqDiff, Int.reduceNeg, Nat.reduceBEq]
      have : optR (funAt s x) = .tup [elO default, .b false] := by simp only [optR, funAt, h2]
      rw [this]
      exact .inr ⟨⟨⟨rfl, rfl, rfl, rfl, rfl, rfl, rfl, trivial⟩, rfl, trivial⟩, by decide, fun i hi => by cases hi⟩
def cloneAV (o : LOp) : AV := .agg [.s o.name, .own 1 (o.args.map .s) o.args.length, .s o.sort, .own 2 (o.pieces.flatMap pairCells) o.pieces.length, .i .i64 o.prec, .i .i64 o.assoc, .own 1 (o.strict.map (.i .i64)) o.strict.length]
theorem win_map {α : Type} (f : α → AV) (l : List α) : l.map f = ((l.map f).drop 0).take (l.length * 1) := by rw [List.drop_zero, List.take_of_length_le (by simp)]
theorem win_pair (l : List (Str × Str)) : l.flatMap pairCells = ((l.flatMap pairCells).drop 0).take (l.length * 2) := by rw [List.drop_zero, List.take_of_length_le (by rw [pair_flat_len]; omega)]
def heldAV (o : LOp) (i j k : Nat) : AV := .agg [.s o.name, .hs i 0 o.args.length false, .s o.sort, .hs j 0 o.pieces.length false, .i .i64 o.prec, .i .i64 o.assoc, .hs k 0 o.strict.length false]
structure Held (h : List AObj) (o : LOp) (i j k : Nat) : Prop where
  ij : i ≠ j
  ik : i ≠ k
  jk : j ≠ k
  a : h[i]? = some (.arr false 1 (o.args.map .s))
  p : h[j]? = some (.arr false 2 (o.pieces.flatMap pairCells))
  s : h[k]? = some (.arr false 1 (o.strict.map (.i .i64)))
theorem Held.fin {h : List AObj} {o : LOp} {i j k : Nat} (w : Held h o i j k) : Fin h (heldAV o i j k) (cloneAV o) := by
  refine .inr ⟨⟨rfl, ⟨rfl, rfl, _, w.a, by simp, win_map _ _, persL_s⟩, rfl, ⟨rfl, rfl, _, w.p, by rw [pair_flat_len]; omega, win_pair _, persL_pair⟩, rfl, rfl, ⟨rfl, rfl, _, w.s, by simp, win_map _ _, persL_i⟩, trivial⟩, ?_, ?_⟩
  · simp [cloneAV, heldAV, finIds, finIdsL, w.ij, w.ik, w.jk]
  · simp [cloneAV, heldAV, finIds, finIdsL, finRch, finRchL, reach_dep, reachK, reach_8, pers]
theorem Held.fin2 {h : List AObj} {o : LOp} {i j k : Nat} {c : Int} (w : Held h o i j k) : Fin h (.tup [heldAV o i j k, .i .i64 c]) (.tup [cloneAV o, .i .i64 c]) := by
  refine .inr ⟨⟨⟨rfl, ⟨rfl, rfl, _, w.a, by simp, win_map _ _, persL_s⟩, rfl, ⟨rfl, rfl, _, w.p, by rw [pair_flat_len]; omega, win_pair _, persL_pair⟩, rfl, rfl, ⟨rfl, rfl, _, w.s, by simp, win_map _ _, persL_i⟩, trivial⟩, rfl, trivial⟩, ?_, ?_⟩
  · simp [cloneAV, heldAV, finIds, finIdsL, w.ij, w.ik, w.jk]
  · simp [cloneAV, heldAV, finIds, finIdsL, finRch, finRchL, reach_dep, reachK, reach_8, pers]
theorem fin_zero {h : List AObj} {c : Int} : Fin h (.tup [.agg [.s [], .e0, .s [], .e0, .i .i64 0, .i .i64 0, .e0], .i .i64 c]) (.tup [elO default, .i .i64 c]) :=
  .inr ⟨⟨⟨rfl, rfl, rfl, rfl, rfl, rfl, rfl, trivial⟩, rfl, trivial⟩, by simp [elO, opCells, finIds, finIdsL], by simp [elO, opCells, finIds, finIdsL]⟩
set_option maxHeartbeats 4000000 in
theorem ctr119 (o : LOp) (ho : OkO o): Ctr Tryz.prog G0 119 [elO o] (cloneAV o) := by
  refine sem_intro (rx := false) mixed Tryz.func119 rfl (by kernel_rfl) (by kernel_rfl) (ac := ?_) ?_ g0 ?_
  rotate_left
  · simp only [strip, stripOps, stripOp, hoist, List.filter_cons, List.filter_nil, List.nil_append, List.cons_append, isFree, anyPre, Region.binds, Bool.not_true, Bool.not_false, Bool.false_eq_true, if_true, if_false, Option.isNone_none, Option.isNone_some, Bool.true_and, Bool.false_and, List.map_nil, List.map_cons, List.isEmpty_nil, List.isEmpty_cons, List.append_nil]
    rfl
  · simp -implicitDefEqProofs (disch := omega) only [Tryz.f119, go_sem, List.replicate, ↓reduceIte, Nat.reduceAdd, Nat.reduceSub, Nat.reduceMul, Nat.reduceLeDiff, Nat.reduceLT, Nat.reduceEqDiff, Int.reduceNeg, Nat.reduceBEq]
    (repeat' (first | refine g_true ?_ ?_ | refine g_false ?_ ?_ | refine cond_intro ?_ ?_ | (refine c_ctrE (ctr140 o.args ho.argsT) ?_ ?_; (focus (simp -implicitDefEqProofs (disch := omega) only [avs, avb, avi, avo, sigCells, opCells, pairCells, go_sem, ↓reduceIte, Nat.reduceAdd, Nat.reduceSub, Nat.reduceMul, Nat.reduceLeDiff, Nat.reduceLT, Nat.reduceEqDiff, Int.reduceNeg, Nat.reduceBEq]; done)); simp -implicitDefEqProofs (disch := omega) only [go_sem, ↓reduceIte, Nat.reduceAdd, Nat.reduceSub, Nat.reduceMul, Nat.reduceLeDiff, Nat.reduceLT, Nat.reduceEqDiff, Int.reduceNeg, Nat.reduceBEq]) | (refine c_ctrE (ctr141 o.pieces ho.piecesT) ?_ ?_; (focus (simp -implicitDefEqProofs (disch := omega) only [avs, avb, avi, avo, sigCells, opCells, pairCells, go_sem, ↓reduceIte, Nat.reduceAdd, Nat.reduceSub, Nat.reduceMul, Nat.reduceLeDiff, Nat.reduceLT, Nat.reduceEqDiff, Int.reduceNeg, Nat.reduceBEq]; done)); simp -implicitDefEqProofs (disch := omega) only [go_sem, ↓reduceIte, Nat.reduceAdd, Nat.reduceSub, Nat.reduceMul, Nat.reduceLeDiff, Nat.reduceLT, Nat.reduceEqDiff, Int.reduceNeg, Nat.reduceBEq]) | (refine c_ctrE (ctr142 o.strict ho.strictT) ?_ ?_; (focus (simp -implicitDefEqProofs (disch := omega) only [avs, avb, avi, avo, sigCells, opCells, pairCells, go_sem, ↓reduceIte, Nat.reduceAdd, Nat.reduceSub, Nat.reduceMul, Nat.reduceLeDiff, Nat.reduceLT, Nat.reduceEqDiff, Int.reduceNeg, Nat.reduceBEq]; done)); simp -implicitDefEqProofs (disch := omega) only [go_sem, ↓reduceIte, Nat.reduceAdd, Nat.reduceSub, Nat.reduceMul, Nat.reduceLeDiff, Nat.reduceLT, Nat.reduceEqDiff, Int.reduceNeg, Nat.reduceBEq]) | refine And.intro (by omega) ?_ | (intro hr; have hc := hr; (try simp only [decide_eq_true_eq, decide_eq_false_iff_not, Bool.not_eq_true', Bool.not_eq_false'] at hc); simp -implicitDefEqProofs (disch := omega) only [hr, go_sem, ↓reduceIte, Nat.reduceAdd, Nat.reduceSub, Nat.reduceMul, Nat.reduceLeDiff, Nat.reduceLT, Nat.reduceEqDiff, Int.reduceNeg, Nat.reduceBEq]; (try clear hr))))
    exact Held.fin (o := o) (i := 2) (j := 3) (k := 4) ⟨by decide, by decide, by decide, rfl, rfl, rfl⟩
def foundR (o : LOp) (ok : Bool) (c : Int) : AV := if c = 0 then if ok then .tup [cloneAV o, .i .i64 0] else .tup [elO default, .i .i64 4] else .tup [elO default, .i .i64 c]
set_option maxHeartbeats 4000000 in
theorem ctr65 (o : LOp) (ok : Bool) (c : Int) (ho : OkO o): Ctr Tryz.prog G0 65 [elO o, .b ok, .i .i64 c] (foundR o ok c) := by
  refine sem_intro (rx := false) mixed Tryz.func65 rfl (by kernel_rfl) (by kernel_rfl) (ac := ?_) ?_ g0 ?_
  rotate_left
  · simp only [strip, stripOps, stripOp, hoist, List.filter_cons, List.filter_nil, List.nil_append, List.cons_append, isFree, anyPre, Region.binds, Bool.not_true, Bool.not_false, Bool.false_eq_true, if_true, if_false, Option.isNone_none, Option.isNone_some, Bool.true_and, Bool.false_and, List.map_nil, List.map_cons, List.isEmpty_nil, List.isEmpty_cons, List.append_nil]
    rfl
  · simp -implicitDefEqProofs (disch := omega) only [Tryz.f65, go_sem, List.replicate, ↓reduceIte, Nat.reduceAdd, Nat.reduceSub, Nat.reduceMul, Nat.reduceLeDiff, Nat.reduceLT, Nat.reduceEqDiff, Int.reduceNeg, Nat.reduceBEq]
    (repeat' (first | refine g_true ?_ ?_ | refine g_false ?_ ?_ | refine cond_intro ?_ ?_ | (refine c_ctrE (ctr119 o ho) ?_ ?_; (focus (simp -implicitDefEqProofs (disch := omega) only [cloneAV, avs, avb, avi, avo, sigCells, opCells, pairCells, go_sem, ↓reduceIte, Nat.reduceAdd, Nat.reduceSub, Nat.reduceMul, Nat.reduceLeDiff, Nat.reduceLT, Nat.reduceEqDiff, Int.reduceNeg, Nat.reduceBEq]; done)); simp -implicitDefEqProofs (disch := omega) only [cloneAV, go_sem, ↓reduceIte, Nat.reduceAdd, Nat.reduceSub, Nat.reduceMul, Nat.reduceLeDiff, Nat.reduceLT, Nat.reduceEqDiff, Int.reduceNeg, Nat.reduceBEq]) | refine And.intro (by omega) ?_ | (intro hr; have hc := hr; (try simp only [decide_eq_true_eq, decide_eq_false_iff_not, Bool.not_eq_true', Bool.not_eq_false'] at hc); simp -implicitDefEqProofs (disch := omega) only [hr, cloneAV, go_sem, ↓reduceIte, Nat.reduceAdd, Nat.reduceSub, Nat.reduceMul, Nat.reduceLeDiff, Nat.reduceLT, Nat.reduceEqDiff, Int.reduceNeg, Nat.reduceBEq]; (try clear hr))))
    all_goals try simp only [Decidable.not_not] at *
    all_goals simp only [foundR, *, if_true, if_false, Bool.false_eq_true, ↓reduceIte]
    all_goals first | exact fin_zero | exact Held.fin2 (o := o) (i := 2) (j := 3) (k := 4) ⟨by decide, by decide, by decide, rfl, rfl, rfl⟩
def findR (s : LSig) (r : Option LOp) : AV := if validB s then (match r with | some o => .tup [cloneAV o, .i .i64 0] | none => .tup [elO default, .i .i64 4]) else .tup [elO default, .i .i64 2]
theorem opAt_ok {s : LSig} (ho : OkS s) {x : Str} {o : LOp} (h : opAt s x = some o) : OkO o := ho.opsO o (List.mem_of_find?_eq_some h)
theorem funAt_ok {s : LSig} (ho : OkS s) {x : Str} {o : LOp} (h : funAt s x = some o) : OkO o := ho.funsO o (List.mem_of_find?_eq_some h)
theorem ok_def : OkO default := ⟨(by decide), (by decide), (fun x h => by cases h), (by decide), (by decide), (fun x h => by cases h), (by decide), (by decide), (by decide), (by decide)⟩
abbrev zeroO : AV := .agg [.s [], .sl [] 0, .s [], .sl [] 0, .i .i64 0, .i .i64 0, .sl [] 0]
theorem ctr65z (ok : Bool) (c : Int) : Ctr Tryz.prog G0 65 [zeroO, .b ok, .i .i64 c] (foundR default ok c) := ctr65 default ok c ok_def
theorem bookR_0 {s : LSig} (h : validB s = true) : bookR s [] = .tup [bookAV s, .i .i64 0] := by simp [bookR, h]
theorem bookR_n {s : LSig} {xs : List Str} (h : ¬ validB s = true) : bookR s xs = .tup [nilA, .i .i64 2] := by simp [bookR, h]
set_option maxHeartbeats 4000000 in
theorem ctr14 (s : LSig) (x : Str) (hs : Small s) (ho : OkS s): Ctr Tryz.prog G0 14 [.agg (sigCells s), .s x] (findR s (opAt s x)) := by
  refine sem_intro (rx := false) mixed Tryz.func14 rfl (by kernel_rfl) (by kernel_rfl) (ac := ?_) ?_ g0 ?_
  rotate_left
  · simp only [strip, stripOps, stripOp, hoist, List.filter_cons, List.filter_nil, List.nil_append, List.cons_append, isFree, anyPre, Region.binds, Bool.not_true, Bool.not_false, Bool.false_eq_true, if_true, if_false, Option.isNone_none, Option.isNone_some, Bool.true_and, Bool.false_and, List.map_nil, List.map_cons, List.isEmpty_nil, List.isEmpty_cons, List.append_nil]
    rfl
  · simp -implicitDefEqProofs (disch := omega) only [Tryz.f14, go_sem, List.replicate, ↓reduceIte, Nat.reduceAdd, Nat.reduceSub, Nat.reduceMul, Nat.reduceLeDiff, Nat.reduceLT, Nat.reduceEqDiff, Int.reduceNeg, Nat.reduceBEq]
    by_cases hv : validB s = true
    · have hb := bookR_0 hv
      cases h : opAt s x with
      | none =>
        have h2 : optR (opAt s x) = .tup [zeroO, .b false] := by rw [h]; rfl
        have h3 : foundR default false 0 = .tup [zeroO, .i .i64 4] := rfl
        (repeat' (first | refine g_true ?_ ?_ | refine g_false ?_ ?_ | refine cond_intro ?_ ?_ | (refine c_ctrE (ctr63 s [] hs ho (by decide)) ?_ ?_; (focus (simp -implicitDefEqProofs (disch := omega) only [hb, h2, h3, avs, avb, avi, avo, sigCells, opCells, pairCells, go_sem, ↓reduceIte, Nat.reduceAdd, Nat.reduceSub, Nat.reduceMul, Nat.reduceLeDiff, Nat.reduceLT, Nat.reduceEqDiff, Int.reduceNeg, Nat.reduceBEq]; done)); simp -implicitDefEqProofs (disch := omega) only [hb, h2, h3, go_sem, ↓reduceIte, Nat.reduceAdd, Nat.reduceSub, Nat.reduceMul, Nat.reduceLeDiff, Nat.reduceLT, Nat.reduceEqDiff, Int.reduceNeg, Nat.reduceBEq]) | (refine c_ctrE (ctr64 s x) ?_ ?_; (focus (simp -implicitDefEqProofs (disch := omega) only [hb, h2, h3, avs, avb, avi, avo, sigCells, opCells, pairCells, go_sem, ↓reduceIte, Nat.reduceAdd, Nat.reduceSub, Nat.reduceMul, Nat.reduceLeDiff, Nat.reduceLT, Nat.reduceEqDiff, Int.reduceNeg, Nat.reduceBEq]; done)); simp -implicitDefEqProofs (disch := omega) only [hb, h2, h3, go_sem, ↓reduceIte, Nat.reduceAdd, Nat.reduceSub, Nat.reduceMul, Nat.reduceLeDiff, Nat.reduceLT, Nat.reduceEqDiff, Int.reduceNeg, Nat.reduceBEq]) | (refine c_ctrE (ctr65z false 0) ?_ ?_; (focus (simp -implicitDefEqProofs (disch := omega) only [hb, h2, h3, avs, avb, avi, avo, sigCells, opCells, pairCells, go_sem, ↓reduceIte, Nat.reduceAdd, Nat.reduceSub, Nat.reduceMul, Nat.reduceLeDiff, Nat.reduceLT, Nat.reduceEqDiff, Int.reduceNeg, Nat.reduceBEq]; done)); simp -implicitDefEqProofs (disch := omega) only [hb, h2, h3, go_sem, ↓reduceIte, Nat.reduceAdd, Nat.reduceSub, Nat.reduceMul, Nat.reduceLeDiff, Nat.reduceLT, Nat.reduceEqDiff, Int.reduceNeg, Nat.reduceBEq]) | refine And.intro (by omega) ?_ | (intro hr; have hc := hr; (try simp only [decide_eq_true_eq, decide_eq_false_iff_not, Bool.not_eq_true', Bool.not_eq_false'] at hc); simp -implicitDefEqProofs (disch := omega) only [hr, hb, h2, h3, go_sem, ↓reduceIte, Nat.reduceAdd, Nat.reduceSub, Nat.reduceMul, Nat.reduceLeDiff, Nat.reduceLT, Nat.reduceEqDiff, Int.reduceNeg, Nat.reduceBEq]; (try clear hr))))
        exact fin_eq (by simp only [findR, if_pos hv, h]; rfl) (by decide)
      | some o =>
        have h2 : optR (opAt s x) = .tup [elO o, .b true] := by rw [h]; rfl
        have h3 : foundR o true 0 = .tup [cloneAV o, .i .i64 0] := rfl
        (repeat' (first | refine g_true ?_ ?_ | refine g_false ?_ ?_ | refine cond_intro ?_ ?_ | (refine c_ctrE (ctr63 s [] hs ho (by decide)) ?_ ?_; (focus (simp -implicitDefEqProofs (disch := omega) only [hb, h2, h3, elO, cloneAV, avs, avb, avi, avo, sigCells, opCells, pairCells, go_sem, ↓reduceIte, Nat.reduceAdd, Nat.reduceSub, Nat.reduceMul, Nat.reduceLeDiff, Nat.reduceLT, Nat.reduceEqDiff, Int.reduceNeg, Nat.reduceBEq]; done)); simp -implicitDefEqProofs (disch := omega) only [hb, h2, h3, elO, cloneAV, go_sem, ↓reduceIte, Nat.reduceAdd, Nat.reduceSub, Nat.reduceMul, Nat.reduceLeDiff, Nat.reduceLT, Nat.reduceEqDiff, Int.reduceNeg, Nat.reduceBEq]) | (refine c_ctrE (ctr64 s x) ?_ ?_; (focus (simp -implicitDefEqProofs (disch := omega) only [hb, h2, h3, elO, cloneAV, avs, avb, avi, avo, sigCells, opCells, pairCells, go_sem, ↓reduceIte, Nat.reduceAdd, Nat.reduceSub, Nat.reduceMul, Nat.reduceLeDiff, Nat.reduceLT, Nat.reduceEqDiff, Int.reduceNeg, Nat.reduceBEq]; done)); simp -implicitDefEqProofs (disch := omega) only [hb, h2, h3, elO, cloneAV, go_sem, ↓reduceIte, Nat.reduceAdd, Nat.reduceSub, Nat.reduceMul, Nat.reduceLeDiff, Nat.reduceLT, Nat.reduceEqDiff, Int.reduceNeg, Nat.reduceBEq]) | (refine c_ctrE (ctr65 o true 0 (opAt_ok ho h)) ?_ ?_; (focus (simp -implicitDefEqProofs (disch := omega) only [hb, h2, h3, elO, cloneAV, avs, avb, avi, avo, sigCells, opCells, pairCells, go_sem, ↓reduceIte, Nat.reduceAdd, Nat.reduceSub, Nat.reduceMul, Nat.reduceLeDiff, Nat.reduceLT, Nat.reduceEqDiff, Int.reduceNeg, Nat.reduceBEq]; done)); simp -implicitDefEqProofs (disch := omega) only [hb, h2, h3, elO, cloneAV, go_sem, ↓reduceIte, Nat.reduceAdd, Nat.reduceSub, Nat.reduceMul, Nat.reduceLeDiff, Nat.reduceLT, Nat.reduceEqDiff, Int.reduceNeg, Nat.reduceBEq]) | refine And.intro (by omega) ?_ | (intro hr; have hc := hr; (try simp only [decide_eq_true_eq, decide_eq_false_iff_not, Bool.not_eq_true', Bool.not_eq_false'] at hc); simp -implicitDefEqProofs (disch := omega) only [hr, hb, h2, h3, elO, cloneAV, go_sem, ↓reduceIte, Nat.reduceAdd, Nat.reduceSub, Nat.reduceMul, Nat.reduceLeDiff, Nat.reduceLT, Nat.reduceEqDiff, Int.reduceNeg, Nat.reduceBEq]; (try clear hr))))
        have hr : findR s (some o) = .tup [cloneAV o, .i .i64 0] := by simp only [findR, if_pos hv]
        rw [hr]
        exact Held.fin2 (o := o) (i := 3) (j := 4) (k := 5) ⟨by decide, by decide, by decide, rfl, rfl, rfl⟩
    · have hb := bookR_n (xs := []) hv
      (repeat' (first | refine g_true ?_ ?_ | refine g_false ?_ ?_ | refine cond_intro ?_ ?_ | (refine c_ctrE (ctr63 s [] hs ho (by decide)) ?_ ?_; (focus (simp -implicitDefEqProofs (disch := omega) only [hb, avs, avb, avi, avo, sigCells, opCells, pairCells, go_sem, ↓reduceIte, Nat.reduceAdd, Nat.reduceSub, Nat.reduceMul, Nat.reduceLeDiff, Nat.reduceLT, Nat.reduceEqDiff, Int.reduceNeg, Nat.reduceBEq]; done)); simp -implicitDefEqProofs (disch := omega) only [hb, go_sem, ↓reduceIte, Nat.reduceAdd, Nat.reduceSub, Nat.reduceMul, Nat.reduceLeDiff, Nat.reduceLT, Nat.reduceEqDiff, Int.reduceNeg, Nat.reduceBEq]) | refine And.intro (by omega) ?_ | (intro hr; have hc := hr; (try simp only [decide_eq_true_eq, decide_eq_false_iff_not, Bool.not_eq_true', Bool.not_eq_false'] at hc); simp -implicitDefEqProofs (disch := omega) only [hr, hb, go_sem, ↓reduceIte, Nat.reduceAdd, Nat.reduceSub, Nat.reduceMul, Nat.reduceLeDiff, Nat.reduceLT, Nat.reduceEqDiff, Int.reduceNeg, Nat.reduceBEq]; (try clear hr))))
      have hr : findR s (opAt s x) = .tup [elO default, .i .i64 2] := by simp only [findR, if_neg hv]
      rw [hr]
      exact fin_zero
set_option maxHeartbeats 4000000 in
theorem ctr17 (s : LSig) (x : Str) (hs : Small s) (ho : OkS s): Ctr Tryz.prog G0 17 [.agg (sigCells s), .s x] (findR s (funAt s x)) := by
  refine sem_intro (rx := false) mixed Tryz.func17 rfl (by kernel_rfl) (by kernel_rfl) (ac := ?_) ?_ g0 ?_
  rotate_left
  · simp only [strip, stripOps, stripOp, hoist, List.filter_cons, List.filter_nil, List.nil_append, List.cons_append, isFree, anyPre, Region.binds, Bool.not_true, Bool.not_false, Bool.false_eq_true, if_true, if_false, Option.isNone_none, Option.isNone_some, Bool.true_and, Bool.false_and, List.map_nil, List.map_cons, List.isEmpty_nil, List.isEmpty_cons, List.append_nil]
    rfl
  · simp -implicitDefEqProofs (disch := omega) only [Tryz.f17, go_sem, List.replicate, ↓reduceIte, Nat.reduceAdd, Nat.reduceSub, Nat.reduceMul, Nat.reduceLeDiff, Nat.reduceLT, Nat.reduceEqDiff, Int.reduceNeg, Nat.reduceBEq]
    by_cases hv : validB s = true
    · have hb := bookR_0 hv
      cases h : funAt s x with
      | none =>
        have h2 : optR (funAt s x) = .tup [zeroO, .b false] := by rw [h]; rfl
        have h3 : foundR default false 0 = .tup [zeroO, .i .i64 4] := rfl
        (repeat' (first | refine g_true ?_ ?_ | refine g_false ?_ ?_ | refine cond_intro ?_ ?_ | (refine c_ctrE (ctr63 s [] hs ho (by decide)) ?_ ?_; (focus (simp -implicitDefEqProofs (disch := omega) only [hb, h2, h3, avs, avb, avi, avo, sigCells, opCells, pairCells, go_sem, ↓reduceIte, Nat.reduceAdd, Nat.reduceSub, Nat.reduceMul, Nat.reduceLeDiff, Nat.reduceLT, Nat.reduceEqDiff, Int.reduceNeg, Nat.reduceBEq]; done)); simp -implicitDefEqProofs (disch := omega) only [hb, h2, h3, go_sem, ↓reduceIte, Nat.reduceAdd, Nat.reduceSub, Nat.reduceMul, Nat.reduceLeDiff, Nat.reduceLT, Nat.reduceEqDiff, Int.reduceNeg, Nat.reduceBEq]) | (refine c_ctrE (ctr68 s x) ?_ ?_; (focus (simp -implicitDefEqProofs (disch := omega) only [hb, h2, h3, avs, avb, avi, avo, sigCells, opCells, pairCells, go_sem, ↓reduceIte, Nat.reduceAdd, Nat.reduceSub, Nat.reduceMul, Nat.reduceLeDiff, Nat.reduceLT, Nat.reduceEqDiff, Int.reduceNeg, Nat.reduceBEq]; done)); simp -implicitDefEqProofs (disch := omega) only [hb, h2, h3, go_sem, ↓reduceIte, Nat.reduceAdd, Nat.reduceSub, Nat.reduceMul, Nat.reduceLeDiff, Nat.reduceLT, Nat.reduceEqDiff, Int.reduceNeg, Nat.reduceBEq]) | (refine c_ctrE (ctr65z false 0) ?_ ?_; (focus (simp -implicitDefEqProofs (disch := omega) only [hb, h2, h3, avs, avb, avi, avo, sigCells, opCells, pairCells, go_sem, ↓reduceIte, Nat.reduceAdd, Nat.reduceSub, Nat.reduceMul, Nat.reduceLeDiff, Nat.reduceLT, Nat.reduceEqDiff, Int.reduceNeg, Nat.reduceBEq]; done)); simp -implicitDefEqProofs (disch := omega) only [hb, h2, h3, go_sem, ↓reduceIte, Nat.reduceAdd, Nat.reduceSub, Nat.reduceMul, Nat.reduceLeDiff, Nat.reduceLT, Nat.reduceEqDiff, Int.reduceNeg, Nat.reduceBEq]) | refine And.intro (by omega) ?_ | (intro hr; have hc := hr; (try simp only [decide_eq_true_eq, decide_eq_false_iff_not, Bool.not_eq_true', Bool.not_eq_false'] at hc); simp -implicitDefEqProofs (disch := omega) only [hr, hb, h2, h3, go_sem, ↓reduceIte, Nat.reduceAdd, Nat.reduceSub, Nat.reduceMul, Nat.reduceLeDiff, Nat.reduceLT, Nat.reduceEqDiff, Int.reduceNeg, Nat.reduceBEq]; (try clear hr))))
        exact fin_eq (by simp only [findR, if_pos hv, h]; rfl) (by decide)
      | some o =>
        have h2 : optR (funAt s x) = .tup [elO o, .b true] := by rw [h]; rfl
        have h3 : foundR o true 0 = .tup [cloneAV o, .i .i64 0] := rfl
        (repeat' (first | refine g_true ?_ ?_ | refine g_false ?_ ?_ | refine cond_intro ?_ ?_ | (refine c_ctrE (ctr63 s [] hs ho (by decide)) ?_ ?_; (focus (simp -implicitDefEqProofs (disch := omega) only [hb, h2, h3, elO, cloneAV, avs, avb, avi, avo, sigCells, opCells, pairCells, go_sem, ↓reduceIte, Nat.reduceAdd, Nat.reduceSub, Nat.reduceMul, Nat.reduceLeDiff, Nat.reduceLT, Nat.reduceEqDiff, Int.reduceNeg, Nat.reduceBEq]; done)); simp -implicitDefEqProofs (disch := omega) only [hb, h2, h3, elO, cloneAV, go_sem, ↓reduceIte, Nat.reduceAdd, Nat.reduceSub, Nat.reduceMul, Nat.reduceLeDiff, Nat.reduceLT, Nat.reduceEqDiff, Int.reduceNeg, Nat.reduceBEq]) | (refine c_ctrE (ctr68 s x) ?_ ?_; (focus (simp -implicitDefEqProofs (disch := omega) only [hb, h2, h3, elO, cloneAV, avs, avb, avi, avo, sigCells, opCells, pairCells, go_sem, ↓reduceIte, Nat.reduceAdd, Nat.reduceSub, Nat.reduceMul, Nat.reduceLeDiff, Nat.reduceLT, Nat.reduceEqDiff, Int.reduceNeg, Nat.reduceBEq]; done)); simp -implicitDefEqProofs (disch := omega) only [hb, h2, h3, elO, cloneAV, go_sem, ↓reduceIte, Nat.reduceAdd, Nat.reduceSub, Nat.reduceMul, Nat.reduceLeDiff, Nat.reduceLT, Nat.reduceEqDiff, Int.reduceNeg, Nat.reduceBEq]) | (refine c_ctrE (ctr65 o true 0 (funAt_ok ho h)) ?_ ?_; (focus (simp -implicitDefEqProofs (disch := omega) only [hb, h2, h3, elO, cloneAV, avs, avb, avi, avo, sigCells, opCells, pairCells, go_sem, ↓reduceIte, Nat.reduceAdd, Nat.reduceSub, Nat.reduceMul, Nat.reduceLeDiff, Nat.reduceLT, Nat.reduceEqDiff, Int.reduceNeg, Nat.reduceBEq]; done)); simp -implicitDefEqProofs (disch := omega) only [hb, h2, h3, elO, cloneAV, go_sem, ↓reduceIte, Nat.reduceAdd, Nat.reduceSub, Nat.reduceMul, Nat.reduceLeDiff, Nat.reduceLT, Nat.reduceEqDiff, Int.reduceNeg, Nat.reduceBEq]) | refine And.intro (by omega) ?_ | (intro hr; have hc := hr; (try simp only [decide_eq_true_eq, decide_eq_false_iff_not, Bool.not_eq_true', Bool.not_eq_false'] at hc); simp -implicitDefEqProofs (disch := omega) only [hr, hb, h2, h3, elO, cloneAV, go_sem, ↓reduceIte, Nat.reduceAdd, Nat.reduceSub, Nat.reduceMul, Nat.reduceLeDiff, Nat.reduceLT, Nat.reduceEqDiff, Int.reduceNeg, Nat.reduceBEq]; (try clear hr))))
        have hr : findR s (some o) = .tup [cloneAV o, .i .i64 0] := by simp only [findR, if_pos hv]
        rw [hr]
        exact Held.fin2 (o := o) (i := 3) (j := 4) (k := 5) ⟨by decide, by decide, by decide, rfl, rfl, rfl⟩
    · have hb := bookR_n (xs := []) hv
      (repeat' (first | refine g_true ?_ ?_ | refine g_false ?_ ?_ | refine cond_intro ?_ ?_ | (refine c_ctrE (ctr63 s [] hs ho (by decide)) ?_ ?_; (focus (simp -implicitDefEqProofs (disch := omega) only [hb, avs, avb, avi, avo, sigCells, opCells, pairCells, go_sem, ↓reduceIte, Nat.reduceAdd, Nat.reduceSub, Nat.reduceMul, Nat.reduceLeDiff, Nat.reduceLT, Nat.reduceEqDiff, Int.reduceNeg, Nat.reduceBEq]; done)); simp -implicitDefEqProofs (disch := omega) only [hb, go_sem, ↓reduceIte, Nat.reduceAdd, Nat.reduceSub, Nat.reduceMul, Nat.reduceLeDiff, Nat.reduceLT, Nat.reduceEqDiff, Int.reduceNeg, Nat.reduceBEq]) | refine And.intro (by omega) ?_ | (intro hr; have hc := hr; (try simp only [decide_eq_true_eq, decide_eq_false_iff_not, Bool.not_eq_true', Bool.not_eq_false'] at hc); simp -implicitDefEqProofs (disch := omega) only [hr, hb, go_sem, ↓reduceIte, Nat.reduceAdd, Nat.reduceSub, Nat.reduceMul, Nat.reduceLeDiff, Nat.reduceLT, Nat.reduceEqDiff, Int.reduceNeg, Nat.reduceBEq]; (try clear hr))))
      have hr : findR s (funAt s x) = .tup [elO default, .i .i64 2] := by simp only [findR, if_neg hv]
      rw [hr]
      exact fin_zero
theorem bookR_y {s : LSig} {xs : List Str} (h : validB s = true) (h2 : xs.all (existsA s) = true) : bookR s xs = .tup [bookAV s, .i .i64 0] := by simp [bookR, h, h2]
theorem bookR_x {s : LSig} {xs : List Str} (h : validB s = true) (h2 : xs.all (existsA s) = false) : bookR s xs = .tup [nilA, .i .i64 13] := by simp [bookR, h, h2]
/-- an answer, a code -/
def askR (s : LSig) (xs : List Str) (b : Bool) : AV := if validB s then (if xs.all (existsA s) then .tup [.b b, .i .i64 0] else .tup [.b false, .i .i64 13]) else .tup [.b false, .i .i64 2]
set_option maxHeartbeats 4000000 in
theorem ctr25 (s : LSig) (x : Str) (hs : Small s) (ho : OkS s): Ctr Tryz.prog G0 25 [.agg (sigCells s), .s x] (askR s [x] (isValue s x)) := by
  refine sem_intro (rx := false) mixed Tryz.func25 rfl (by kernel_rfl) (by kernel_rfl) (ac := ?_) ?_ g0 ?_
  rotate_left
  · simp only [strip, stripOps, stripOp, hoist, List.filter_cons, List.filter_nil, List.nil_append, List.cons_append, isFree, anyPre, Region.binds, Bool.not_true, Bool.not_false, Bool.false_eq_true, if_true, if_false, Option.isNone_none, Option.isNone_some, Bool.true_and, Bool.false_and, List.map_nil, List.map_cons, List.isEmpty_nil, List.isEmpty_cons, List.append_nil]
    rfl
  · simp -implicitDefEqProofs (disch := omega) only [Tryz.f25, go_sem, List.replicate, ↓reduceIte, Nat.reduceAdd, Nat.reduceSub, Nat.reduceMul, Nat.reduceLeDiff, Nat.reduceLT, Nat.reduceEqDiff, Int.reduceNeg, Nat.reduceBEq]
    by_cases hv : validB s = true
    · by_cases hx : ([x]).all (existsA s) = true
      · have hb := bookR_y hv hx
        (repeat' (first | refine g_true ?_ ?_ | refine g_false ?_ ?_ | refine cond_intro ?_ ?_ | (refine c_ctrE (ctr63 s [x] hs ho (by simp)) ?_ ?_; (focus (simp -implicitDefEqProofs (disch := omega) only [hb, avs, avb, avi, avo, sigCells, opCells, pairCells, go_sem, ↓reduceIte, Nat.reduceAdd, Nat.reduceSub, Nat.reduceMul, Nat.reduceLeDiff, Nat.reduceLT, Nat.reduceEqDiff, Int.reduceNeg, Nat.reduceBEq]; done)); simp -implicitDefEqProofs (disch := omega) only [hb, go_sem, ↓reduceIte, Nat.reduceAdd, Nat.reduceSub, Nat.reduceMul, Nat.reduceLeDiff, Nat.reduceLT, Nat.reduceEqDiff, Int.reduceNeg, Nat.reduceBEq]) | (refine c_ctrE (ctr77 s x hs) ?_ ?_; (focus (simp -implicitDefEqProofs (disch := omega) only [hb, avs, avb, avi, avo, sigCells, opCells, pairCells, go_sem, ↓reduceIte, Nat.reduceAdd, Nat.reduceSub, Nat.reduceMul, Nat.reduceLeDiff, Nat.reduceLT, Nat.reduceEqDiff, Int.reduceNeg, Nat.reduceBEq]; done)); simp -implicitDefEqProofs (disch := omega) only [hb, go_sem, ↓reduceIte, Nat.reduceAdd, Nat.reduceSub, Nat.reduceMul, Nat.reduceLeDiff, Nat.reduceLT, Nat.reduceEqDiff, Int.reduceNeg, Nat.reduceBEq]) | refine And.intro (by omega) ?_ | (intro hr; have hc := hr; (try simp only [decide_eq_true_eq, decide_eq_false_iff_not, Bool.not_eq_true', Bool.not_eq_false'] at hc); simp -implicitDefEqProofs (disch := omega) only [hr, hb, go_sem, ↓reduceIte, Nat.reduceAdd, Nat.reduceSub, Nat.reduceMul, Nat.reduceLeDiff, Nat.reduceLT, Nat.reduceEqDiff, Int.reduceNeg, Nat.reduceBEq]; (try clear hr))))
        exact fin_eq (by simp only [askR, if_pos hv, if_pos hx]) rfl
      · have hx := Bool.eq_false_iff.2 hx
        have hb := bookR_x hv hx
        (repeat' (first | refine g_true ?_ ?_ | refine g_false ?_ ?_ | refine cond_intro ?_ ?_ | (refine c_ctrE (ctr63 s [x] hs ho (by simp)) ?_ ?_; (focus (simp -implicitDefEqProofs (disch := omega) only [hb, avs, avb, avi, avo, sigCells, opCells, pairCells, go_sem, ↓reduceIte, Nat.reduceAdd, Nat.reduceSub, Nat.reduceMul, Nat.reduceLeDiff, Nat.reduceLT, Nat.reduceEqDiff, Int.reduceNeg, Nat.reduceBEq]; done)); simp -implicitDefEqProofs (disch := omega) only [hb, go_sem, ↓reduceIte, Nat.reduceAdd, Nat.reduceSub, Nat.reduceMul, Nat.reduceLeDiff, Nat.reduceLT, Nat.reduceEqDiff, Int.reduceNeg, Nat.reduceBEq]) | refine And.intro (by omega) ?_ | (intro hr; have hc := hr; (try simp only [decide_eq_true_eq, decide_eq_false_iff_not, Bool.not_eq_true', Bool.not_eq_false'] at hc); simp -implicitDefEqProofs (disch := omega) only [hr, hb, go_sem, ↓reduceIte, Nat.reduceAdd, Nat.reduceSub, Nat.reduceMul, Nat.reduceLeDiff, Nat.reduceLT, Nat.reduceEqDiff, Int.reduceNeg, Nat.reduceBEq]; (try clear hr))))
        exact fin_eq (by simp only [askR, if_pos hv, hx]; rfl) rfl
    · have hb := bookR_n (xs := [x]) hv
      (repeat' (first | refine g_true ?_ ?_ | refine g_false ?_ ?_ | refine cond_intro ?_ ?_ | (refine c_ctrE (ctr63 s [x] hs ho (by simp)) ?_ ?_; (focus (simp -implicitDefEqProofs (disch := omega) only [hb, avs, avb, avi, avo, sigCells, opCells, pairCells, go_sem, ↓reduceIte, Nat.reduceAdd, Nat.reduceSub, Nat.reduceMul, Nat.reduceLeDiff, Nat.reduceLT, Nat.reduceEqDiff, Int.reduceNeg, Nat.reduceBEq]; done)); simp -implicitDefEqProofs (disch := omega) only [hb, go_sem, ↓reduceIte, Nat.reduceAdd, Nat.reduceSub, Nat.reduceMul, Nat.reduceLeDiff, Nat.reduceLT, Nat.reduceEqDiff, Int.reduceNeg, Nat.reduceBEq]) | refine And.intro (by omega) ?_ | (intro hr; have hc := hr; (try simp only [decide_eq_true_eq, decide_eq_false_iff_not, Bool.not_eq_true', Bool.not_eq_false'] at hc); simp -implicitDefEqProofs (disch := omega) only [hr, hb, go_sem, ↓reduceIte, Nat.reduceAdd, Nat.reduceSub, Nat.reduceMul, Nat.reduceLeDiff, Nat.reduceLT, Nat.reduceEqDiff, Int.reduceNeg, Nat.reduceBEq]; (try clear hr))))
      exact fin_eq (by simp only [askR, if_neg hv]) rfl
set_option maxHeartbeats 4000000 in
theorem ctr30 (s : LSig) (x y : Str) (hs : Small s) (ho : OkS s): Ctr Tryz.prog G0 30 [.agg (sigCells s), .s x, .s y] (askR s [x, y] (atMost s x y)) := by
  refine sem_intro (rx := false) mixed Tryz.func30 rfl (by kernel_rfl) (by kernel_rfl) (ac := ?_) ?_ g0 ?_
  rotate_left
  · simp only [strip, stripOps, stripOp, hoist, List.filter_cons, List.filter_nil, List.nil_append, List.cons_append, isFree, anyPre, Region.binds, Bool.not_true, Bool.not_false, Bool.false_eq_true, if_true, if_false, Option.isNone_none, Option.isNone_some, Bool.true_and, Bool.false_and, List.map_nil, List.map_cons, List.isEmpty_nil, List.isEmpty_cons, List.append_nil]
    rfl
  · simp -implicitDefEqProofs (disch := omega) only [Tryz.f30, go_sem, List.replicate, ↓reduceIte, Nat.reduceAdd, Nat.reduceSub, Nat.reduceMul, Nat.reduceLeDiff, Nat.reduceLT, Nat.reduceEqDiff, Int.reduceNeg, Nat.reduceBEq]
    by_cases hv : validB s = true
    · by_cases hx : ([x, y]).all (existsA s) = true
      · have hb := bookR_y hv hx
        (repeat' (first | refine g_true ?_ ?_ | refine g_false ?_ ?_ | refine cond_intro ?_ ?_ | (refine c_ctrE (ctr63 s [x, y] hs ho (by simp)) ?_ ?_; (focus (simp -implicitDefEqProofs (disch := omega) only [hb, avs, avb, avi, avo, sigCells, opCells, pairCells, go_sem, ↓reduceIte, Nat.reduceAdd, Nat.reduceSub, Nat.reduceMul, Nat.reduceLeDiff, Nat.reduceLT, Nat.reduceEqDiff, Int.reduceNeg, Nat.reduceBEq]; done)); simp -implicitDefEqProofs (disch := omega) only [hb, go_sem, ↓reduceIte, Nat.reduceAdd, Nat.reduceSub, Nat.reduceMul, Nat.reduceLeDiff, Nat.reduceLT, Nat.reduceEqDiff, Int.reduceNeg, Nat.reduceBEq]) | (refine c_ctrE (ctr71 s x y hs) ?_ ?_; (focus (simp -implicitDefEqProofs (disch := omega) only [hb, avs, avb, avi, avo, sigCells, opCells, pairCells, go_sem, ↓reduceIte, Nat.reduceAdd, Nat.reduceSub, Nat.reduceMul, Nat.reduceLeDiff, Nat.reduceLT, Nat.reduceEqDiff, Int.reduceNeg, Nat.reduceBEq]; done)); simp -implicitDefEqProofs (disch := omega) only [hb, go_sem, ↓reduceIte, Nat.reduceAdd, Nat.reduceSub, Nat.reduceMul, Nat.reduceLeDiff, Nat.reduceLT, Nat.reduceEqDiff, Int.reduceNeg, Nat.reduceBEq]) | refine And.intro (by omega) ?_ | (intro hr; have hc := hr; (try simp only [decide_eq_true_eq, decide_eq_false_iff_not, Bool.not_eq_true', Bool.not_eq_false'] at hc); simp -implicitDefEqProofs (disch := omega) only [hr, hb, go_sem, ↓reduceIte, Nat.reduceAdd, Nat.reduceSub, Nat.reduceMul, Nat.reduceLeDiff, Nat.reduceLT, Nat.reduceEqDiff, Int.reduceNeg, Nat.reduceBEq]; (try clear hr))))
        exact fin_eq (by simp only [askR, if_pos hv, if_pos hx]) rfl
      · have hx := Bool.eq_false_iff.2 hx
        have hb := bookR_x hv hx
        (repeat' (first | refine g_true ?_ ?_ | refine g_false ?_ ?_ | refine cond_intro ?_ ?_ | (refine c_ctrE (ctr63 s [x, y] hs ho (by simp)) ?_ ?_; (focus (simp -implicitDefEqProofs (disch := omega) only [hb, avs, avb, avi, avo, sigCells, opCells, pairCells, go_sem, ↓reduceIte, Nat.reduceAdd, Nat.reduceSub, Nat.reduceMul, Nat.reduceLeDiff, Nat.reduceLT, Nat.reduceEqDiff, Int.reduceNeg, Nat.reduceBEq]; done)); simp -implicitDefEqProofs (disch := omega) only [hb, go_sem, ↓reduceIte, Nat.reduceAdd, Nat.reduceSub, Nat.reduceMul, Nat.reduceLeDiff, Nat.reduceLT, Nat.reduceEqDiff, Int.reduceNeg, Nat.reduceBEq]) | refine And.intro (by omega) ?_ | (intro hr; have hc := hr; (try simp only [decide_eq_true_eq, decide_eq_false_iff_not, Bool.not_eq_true', Bool.not_eq_false'] at hc); simp -implicitDefEqProofs (disch := omega) only [hr, hb, go_sem, ↓reduceIte, Nat.reduceAdd, Nat.reduceSub, Nat.reduceMul, Nat.reduceLeDiff, Nat.reduceLT, Nat.reduceEqDiff, Int.reduceNeg, Nat.reduceBEq]; (try clear hr))))
        exact fin_eq (by simp only [askR, if_pos hv, hx]; rfl) rfl
    · have hb := bookR_n (xs := [x, y]) hv
      (repeat' (first | refine g_true ?_ ?_ | refine g_false ?_ ?_ | refine cond_intro ?_ ?_ | (refine c_ctrE (ctr63 s [x, y] hs ho (by simp)) ?_ ?_; (focus (simp -implicitDefEqProofs (disch := omega) only [hb, avs, avb, avi, avo, sigCells, opCells, pairCells, go_sem, ↓reduceIte, Nat.reduceAdd, Nat.reduceSub, Nat.reduceMul, Nat.reduceLeDiff, Nat.reduceLT, Nat.reduceEqDiff, Int.reduceNeg, Nat.reduceBEq]; done)); simp -implicitDefEqProofs (disch := omega) only [hb, go_sem, ↓reduceIte, Nat.reduceAdd, Nat.reduceSub, Nat.reduceMul, Nat.reduceLeDiff, Nat.reduceLT, Nat.reduceEqDiff, Int.reduceNeg, Nat.reduceBEq]) | refine And.intro (by omega) ?_ | (intro hr; have hc := hr; (try simp only [decide_eq_true_eq, decide_eq_false_iff_not, Bool.not_eq_true', Bool.not_eq_false'] at hc); simp -implicitDefEqProofs (disch := omega) only [hr, hb, go_sem, ↓reduceIte, Nat.reduceAdd, Nat.reduceSub, Nat.reduceMul, Nat.reduceLeDiff, Nat.reduceLT, Nat.reduceEqDiff, Int.reduceNeg, Nat.reduceBEq]; (try clear hr))))
      exact fin_eq (by simp only [askR, if_neg hv]) rfl
set_option maxHeartbeats 4000000 in
theorem ctr32 (s : LSig) (x y : Str) (hs : Small s) (ho : OkS s): Ctr Tryz.prog G0 32 [.agg (sigCells s), .s x, .s y] (askR s [x, y] (meets s x y)) := by
  refine sem_intro (rx := false) mixed Tryz.func32 rfl (by kernel_rfl) (by kernel_rfl) (ac := ?_) ?_ g0 ?_
  rotate_left
  · simp only [strip, stripOps, stripOp, hoist, List.filter_cons, List.filter_nil, List.nil_append, List.cons_append, isFree, anyPre, Region.binds, Bool.not_true, Bool.not_false, Bool.false_eq_true, if_true, if_false, Option.isNone_none, Option.isNone_some, Bool.true_and, Bool.false_and, List.map_nil, List.map_cons, List.isEmpty_nil, List.isEmpty_cons, List.append_nil]
    rfl
  · simp -implicitDefEqProofs (disch := omega) only [Tryz.f32, go_sem, List.replicate, ↓reduceIte, Nat.reduceAdd, Nat.reduceSub, Nat.reduceMul, Nat.reduceLeDiff, Nat.reduceLT, Nat.reduceEqDiff, Int.reduceNeg, Nat.reduceBEq]
    by_cases hv : validB s = true
    · by_cases hx : ([x, y]).all (existsA s) = true
      · have hb := bookR_y hv hx
        (repeat' (first | refine g_true ?_ ?_ | refine g_false ?_ ?_ | refine cond_intro ?_ ?_ | (refine c_ctrE (ctr63 s [x, y] hs ho (by simp)) ?_ ?_; (focus (simp -implicitDefEqProofs (disch := omega) only [hb, avs, avb, avi, avo, sigCells, opCells, pairCells, go_sem, ↓reduceIte, Nat.reduceAdd, Nat.reduceSub, Nat.reduceMul, Nat.reduceLeDiff, Nat.reduceLT, Nat.reduceEqDiff, Int.reduceNeg, Nat.reduceBEq]; done)); simp -implicitDefEqProofs (disch := omega) only [hb, go_sem, ↓reduceIte, Nat.reduceAdd, Nat.reduceSub, Nat.reduceMul, Nat.reduceLeDiff, Nat.reduceLT, Nat.reduceEqDiff, Int.reduceNeg, Nat.reduceBEq]) | (refine c_ctrE (ctr85 s x y hs) ?_ ?_; (focus (simp -implicitDefEqProofs (disch := omega) only [hb, avs, avb, avi, avo, sigCells, opCells, pairCells, go_sem, ↓reduceIte, Nat.reduceAdd, Nat.reduceSub, Nat.reduceMul, Nat.reduceLeDiff, Nat.reduceLT, Nat.reduceEqDiff, Int.reduceNeg, Nat.reduceBEq]; done)); simp -implicitDefEqProofs (disch := omega) only [hb, go_sem, ↓reduceIte, Nat.reduceAdd, Nat.reduceSub, Nat.reduceMul, Nat.reduceLeDiff, Nat.reduceLT, Nat.reduceEqDiff, Int.reduceNeg, Nat.reduceBEq]) | refine And.intro (by omega) ?_ | (intro hr; have hc := hr; (try simp only [decide_eq_true_eq, decide_eq_false_iff_not, Bool.not_eq_true', Bool.not_eq_false'] at hc); simp -implicitDefEqProofs (disch := omega) only [hr, hb, go_sem, ↓reduceIte, Nat.reduceAdd, Nat.reduceSub, Nat.reduceMul, Nat.reduceLeDiff, Nat.reduceLT, Nat.reduceEqDiff, Int.reduceNeg, Nat.reduceBEq]; (try clear hr))))
        exact fin_eq (by simp only [askR, if_pos hv, if_pos hx]) rfl
      · have hx := Bool.eq_false_iff.2 hx
        have hb := bookR_x hv hx
        (repeat' (first | refine g_true ?_ ?_ | refine g_false ?_ ?_ | refine cond_intro ?_ ?_ | (refine c_ctrE (ctr63 s [x, y] hs ho (by simp)) ?_ ?_; (focus (simp -implicitDefEqProofs (disch := omega) only [hb, avs, avb, avi, avo, sigCells, opCells, pairCells, go_sem, ↓reduceIte, Nat.reduceAdd, Nat.reduceSub, Nat.reduceMul, Nat.reduceLeDiff, Nat.reduceLT, Nat.reduceEqDiff, Int.reduceNeg, Nat.reduceBEq]; done)); simp -implicitDefEqProofs (disch := omega) only [hb, go_sem, ↓reduceIte, Nat.reduceAdd, Nat.reduceSub, Nat.reduceMul, Nat.reduceLeDiff, Nat.reduceLT, Nat.reduceEqDiff, Int.reduceNeg, Nat.reduceBEq]) | refine And.intro (by omega) ?_ | (intro hr; have hc := hr; (try simp only [decide_eq_true_eq, decide_eq_false_iff_not, Bool.not_eq_true', Bool.not_eq_false'] at hc); simp -implicitDefEqProofs (disch := omega) only [hr, hb, go_sem, ↓reduceIte, Nat.reduceAdd, Nat.reduceSub, Nat.reduceMul, Nat.reduceLeDiff, Nat.reduceLT, Nat.reduceEqDiff, Int.reduceNeg, Nat.reduceBEq]; (try clear hr))))
        exact fin_eq (by simp only [askR, if_pos hv, hx]; rfl) rfl
    · have hb := bookR_n (xs := [x, y]) hv
      (repeat' (first | refine g_true ?_ ?_ | refine g_false ?_ ?_ | refine cond_intro ?_ ?_ | (refine c_ctrE (ctr63 s [x, y] hs ho (by simp)) ?_ ?_; (focus (simp -implicitDefEqProofs (disch := omega) only [hb, avs, avb, avi, avo, sigCells, opCells, pairCells, go_sem, ↓reduceIte, Nat.reduceAdd, Nat.reduceSub, Nat.reduceMul, Nat.reduceLeDiff, Nat.reduceLT, Nat.reduceEqDiff, Int.reduceNeg, Nat.reduceBEq]; done)); simp -implicitDefEqProofs (disch := omega) only [hb, go_sem, ↓reduceIte, Nat.reduceAdd, Nat.reduceSub, Nat.reduceMul, Nat.reduceLeDiff, Nat.reduceLT, Nat.reduceEqDiff, Int.reduceNeg, Nat.reduceBEq]) | refine And.intro (by omega) ?_ | (intro hr; have hc := hr; (try simp only [decide_eq_true_eq, decide_eq_false_iff_not, Bool.not_eq_true', Bool.not_eq_false'] at hc); simp -implicitDefEqProofs (disch := omega) only [hr, hb, go_sem, ↓reduceIte, Nat.reduceAdd, Nat.reduceSub, Nat.reduceMul, Nat.reduceLeDiff, Nat.reduceLT, Nat.reduceEqDiff, Int.reduceNeg, Nat.reduceBEq]; (try clear hr))))
      exact fin_eq (by simp only [askR, if_neg hv]) rfl
set_option maxHeartbeats 4000000 in
theorem ctr34 (s : LSig) (x : Str) (hs : Small s) (ho : OkS s): Ctr Tryz.prog G0 34 [.agg (sigCells s), .s x] (askR s [] (existsA s x)) := by
  refine sem_intro (rx := false) mixed Tryz.func34 rfl (by kernel_rfl) (by kernel_rfl) (ac := ?_) ?_ g0 ?_
  rotate_left
  · simp only [strip, stripOps, stripOp, hoist, List.filter_cons, List.filter_nil, List.nil_append, List.cons_append, isFree, anyPre, Region.binds, Bool.not_true, Bool.not_false, Bool.false_eq_true, if_true, if_false, Option.isNone_none, Option.isNone_some, Bool.true_and, Bool.false_and, List.map_nil, List.map_cons, List.isEmpty_nil, List.isEmpty_cons, List.append_nil]
    rfl
  · simp -implicitDefEqProofs (disch := omega) only [Tryz.f34, go_sem, List.replicate, ↓reduceIte, Nat.reduceAdd, Nat.reduceSub, Nat.reduceMul, Nat.reduceLeDiff, Nat.reduceLT, Nat.reduceEqDiff, Int.reduceNeg, Nat.reduceBEq]
    by_cases hv : validB s = true
    · by_cases hx : ([]).all (existsA s) = true
      · have hb := bookR_y hv hx
        (repeat' (first | refine g_true ?_ ?_ | refine g_false ?_ ?_ | refine cond_intro ?_ ?_ | (refine c_ctrE (ctr63 s [] hs ho (by simp)) ?_ ?_; (focus (simp -implicitDefEqProofs (disch := omega) only [hb, avs, avb, avi, avo, sigCells, opCells, pairCells, go_sem, ↓reduceIte, Nat.reduceAdd, Nat.reduceSub, Nat.reduceMul, Nat.reduceLeDiff, Nat.reduceLT, Nat.reduceEqDiff, Int.reduceNeg, Nat.reduceBEq]; done)); simp -implicitDefEqProofs (disch := omega) only [hb, go_sem, ↓reduceIte, Nat.reduceAdd, Nat.reduceSub, Nat.reduceMul, Nat.reduceLeDiff, Nat.reduceLT, Nat.reduceEqDiff, Int.reduceNeg, Nat.reduceBEq]) | (refine c_ctrE (ctr54 s x) ?_ ?_; (focus (simp -implicitDefEqProofs (disch := omega) only [hb, avs, avb, avi, avo, sigCells, opCells, pairCells, go_sem, ↓reduceIte, Nat.reduceAdd, Nat.reduceSub, Nat.reduceMul, Nat.reduceLeDiff, Nat.reduceLT, Nat.reduceEqDiff, Int.reduceNeg, Nat.reduceBEq]; done)); simp -implicitDefEqProofs (disch := omega) only [hb, go_sem, ↓reduceIte, Nat.reduceAdd, Nat.reduceSub, Nat.reduceMul, Nat.reduceLeDiff, Nat.reduceLT, Nat.reduceEqDiff, Int.reduceNeg, Nat.reduceBEq]) | refine And.intro (by omega) ?_ | (intro hr; have hc := hr; (try simp only [decide_eq_true_eq, decide_eq_false_iff_not, Bool.not_eq_true', Bool.not_eq_false'] at hc); simp -implicitDefEqProofs (disch := omega) only [hr, hb, go_sem, ↓reduceIte, Nat.reduceAdd, Nat.reduceSub, Nat.reduceMul, Nat.reduceLeDiff, Nat.reduceLT, Nat.reduceEqDiff, Int.reduceNeg, Nat.reduceBEq]; (try clear hr))))
        exact fin_eq (by simp only [askR, if_pos hv, if_pos hx]) rfl
      · have hx := Bool.eq_false_iff.2 hx
        have hb := bookR_x hv hx
        (repeat' (first | refine g_true ?_ ?_ | refine g_false ?_ ?_ | refine cond_intro ?_ ?_ | (refine c_ctrE (ctr63 s [] hs ho (by simp)) ?_ ?_; (focus (simp -implicitDefEqProofs (disch := omega) only [hb, avs, avb, avi, avo, sigCells, opCells, pairCells, go_sem, ↓reduceIte, Nat.reduceAdd, Nat.reduceSub, Nat.reduceMul, Nat.reduceLeDiff, Nat.reduceLT, Nat.reduceEqDiff, Int.reduceNeg, Nat.reduceBEq]; done)); simp -implicitDefEqProofs (disch := omega) only [hb, go_sem, ↓reduceIte, Nat.reduceAdd, Nat.reduceSub, Nat.reduceMul, Nat.reduceLeDiff, Nat.reduceLT, Nat.reduceEqDiff, Int.reduceNeg, Nat.reduceBEq]) | refine And.intro (by omega) ?_ | (intro hr; have hc := hr; (try simp only [decide_eq_true_eq, decide_eq_false_iff_not, Bool.not_eq_true', Bool.not_eq_false'] at hc); simp -implicitDefEqProofs (disch := omega) only [hr, hb, go_sem, ↓reduceIte, Nat.reduceAdd, Nat.reduceSub, Nat.reduceMul, Nat.reduceLeDiff, Nat.reduceLT, Nat.reduceEqDiff, Int.reduceNeg, Nat.reduceBEq]; (try clear hr))))
        exact fin_eq (by simp only [askR, if_pos hv, hx]; rfl) rfl
    · have hb := bookR_n (xs := []) hv
      (repeat' (first | refine g_true ?_ ?_ | refine g_false ?_ ?_ | refine cond_intro ?_ ?_ | (refine c_ctrE (ctr63 s [] hs ho (by simp)) ?_ ?_; (focus (simp -implicitDefEqProofs (disch := omega) only [hb, avs, avb, avi, avo, sigCells, opCells, pairCells, go_sem, ↓reduceIte, Nat.reduceAdd, Nat.reduceSub, Nat.reduceMul, Nat.reduceLeDiff, Nat.reduceLT, Nat.reduceEqDiff, Int.reduceNeg, Nat.reduceBEq]; done)); simp -implicitDefEqProofs (disch := omega) only [hb, go_sem, ↓reduceIte, Nat.reduceAdd, Nat.reduceSub, Nat.reduceMul, Nat.reduceLeDiff, Nat.reduceLT, Nat.reduceEqDiff, Int.reduceNeg, Nat.reduceBEq]) | refine And.intro (by omega) ?_ | (intro hr; have hc := hr; (try simp only [decide_eq_true_eq, decide_eq_false_iff_not, Bool.not_eq_true', Bool.not_eq_false'] at hc); simp -implicitDefEqProofs (disch := omega) only [hr, hb, go_sem, ↓reduceIte, Nat.reduceAdd, Nat.reduceSub, Nat.reduceMul, Nat.reduceLeDiff, Nat.reduceLT, Nat.reduceEqDiff, Int.reduceNeg, Nat.reduceBEq]; (try clear hr))))
      exact fin_eq (by simp only [askR, if_neg hv]) rfl
end Go.Proofs.YtadileniakikeaaGreatDoor
set_option maxRecDepth 100000
set_option linter.unusedSimpArgs false
set_option linter.unusedVariables false
namespace Go.Proofs.YtadileniakikeaaGreatDoor
open Go Go.Vo

def listR (s : LSig) (p : Str → Bool) : List Str := sortS ((keysOf s).filter p)
theorem erase_map {α : Type} {f : α → AV} : ∀ {l : List α} {j : Nat}, (l.map f).eraseIdx j = (l.eraseIdx j).map f
  | [], _ => rfl
  | _ :: _, 0 => rfl
  | a :: l, j + 1 => by simp [erase_map (l := l)]
attribute [go_sem] erase_map entryC
theorem perm_erase : ∀ {l : List Str} {j : Nat} {x : Str}, l[j]? = some x → (x :: l.eraseIdx j).Perm l
  | [], _, _, h => by simp at h
  | a :: l, 0, x, h => by simp at h; subst h; simp
  | a :: l, j + 1, x, h => by
    have h1 := perm_erase (l := l) (j := j) (x := x) (by simpa using h)
    rw [List.eraseIdx_cons_succ]
    exact (List.Perm.swap a x _).trans (h1.cons a)
theorem perm_yes {l L F : List Str} {p : Str → Bool} {j : Nat} {x : Str} (h : l[j]? = some x) (hp : p x = true) (hP : (L ++ l.filter p).Perm F) : (L ++ [x] ++ (l.eraseIdx j).filter p).Perm F := by
  have h1 := ((perm_erase h).filter p).symm
  rw [List.filter_cons_of_pos hp] at h1
  rw [List.append_assoc]
  exact (List.Perm.append_left L h1).symm.trans hP
theorem perm_no {l L F : List Str} {p : Str → Bool} {j : Nat} {x : Str} (h : l[j]? = some x) (hp : p x = false) (hP : (L ++ l.filter p).Perm F) : (L ++ (l.eraseIdx j).filter p).Perm F := by
  have h1 := ((perm_erase h).filter p).symm
  rw [List.filter_cons_of_neg (by simp [hp])] at h1
  exact (List.Perm.append_left L h1).symm.trans hP
theorem erase_len {α : Type} {l : List α} {j : Nat} {x : α} (h : l[j]? = some x) : (l.eraseIdx j).length + 1 = l.length := by
  obtain ⟨hj, _⟩ := List.getElem?_eq_some_iff.1 h
  rw [List.length_eraseIdx_of_lt hj]; omega
theorem sort_perm {L L' : List Str} (h : L.Perm L') : sortS L = sortS L' := by
  unfold sortS
  refine List.Perm.eq_of_pairwise (le := fun x y : Str => x ≤ y) ?_ ?_ ?_ ?_
  · intro a b _ _ h1 h2; exact List.le_antisymm h1 h2
  · have := List.pairwise_mergeSort (le := fun x y : Str => decide (x ≤ y)) (fun a b c h1 h2 => by simp only [decide_eq_true_eq] at *; exact List.le_trans h1 h2) (fun a b => by simp only [Bool.or_eq_true, decide_eq_true_eq]; exact List.le_total a b) L
    simpa using this
  · have := List.pairwise_mergeSort (le := fun x y : Str => decide (x ≤ y)) (fun a b c h1 h2 => by simp only [decide_eq_true_eq] at *; exact List.le_trans h1 h2) (fun a b => by simp only [Bool.or_eq_true, decide_eq_true_eq]; exact List.le_total a b) L'
    simpa using this
  · exact ((List.mergeSort_perm L _).trans h).trans (List.mergeSort_perm L' _).symm
set_option maxHeartbeats 4000000 in
theorem ctr69 (s : LSig) (f : FuncId) (a b : List AV) (p : Str → Bool) (hs : Small s) (ha : persL a = true) (hb : persL b = true) (hw : ∀ x, Ctr Tryz.prog G0 f (a ++ [.s x] ++ b) (.b (p x))) (hne : ∃ x ∈ keysOf s, p x = true): Ctr Tryz.prog G0 69 [bookAV s, .fn f a b] (.own 1 ((listR s p).map .s) (listR s p).length) := by
  refine sem_intro (rx := false) mixed Tryz.func69 rfl (by kernel_rfl) (by kernel_rfl) (ac := ?_) ?_ g0 ?_
  rotate_left
  · simp only [strip, stripOps, stripOp, hoist, List.filter_cons, List.filter_nil, List.nil_append, List.cons_append, isFree, anyPre, Region.binds, Bool.not_true, Bool.not_false, Bool.false_eq_true, if_true, if_false, Option.isNone_none, Option.isNone_some, Bool.true_and, Bool.false_and, List.map_nil, List.map_cons, List.isEmpty_nil, List.isEmpty_cons, List.append_nil]
    rfl
  · simp -implicitDefEqProofs (disch := omega) only [Tryz.f69, go_sem, List.replicate, ↓reduceIte, Nat.reduceAdd, Nat.reduceSub, Nat.reduceMul, Nat.reduceLeDiff, Nat.reduceLT, Nat.reduceEqDiff, Int.reduceNeg, Nat.reduceBEq]
    refine x_loopJ (fun (st : Option (AV × AV) × List Str × List AV × List Str × AV × List AObj) => [.k, .k, .k, .k, .k, .v (st.2.2.2.2.1), .j, .k, .k, .k, .k, .k, .j, .j, .j, .j, .j, .j, .j, .j, .j, .j, .j, .k, .k, .k]) (fun st => .mit st.1 (st.2.1.map .s) st.2.2.1 :: st.2.2.2.2.2) (fun st => st.2.1.length = st.2.2.1.length ∧ (st.2.2.2.1 ++ st.2.1.filter p).Perm ((keysOf s).filter p) ∧ OutIs 1 1 st.2.2.2.2.2 st.2.2.2.2.1 (st.2.2.2.1.map .s) st.2.2.2.1.length) (fun st => st.2.1.length) ((none, keysOf s, (keysOf s).map (ups s), [], .e0, [])) ⟨by simp, by simp, outIs_e0⟩ rfl (by simp [Fits]) ?_
    rintro ⟨cur, R, V, L, out, g⟩ j ⟨hV, hP, ho⟩
    dsimp only at hV hP ho
    have hlenL : L.length ≤ 1000 := by
      have h1 := hP.length_eq
      have h2 := List.length_filter_le p (keysOf s)
      have h3 : (keysOf s).length = 7 + s.sorts.length := by simp [keysOf, alwaysA]; omega
      have h4 := hs.sorts
      rw [List.length_append] at h1
      omega
    simp -implicitDefEqProofs (disch := omega) only [go_sem, ↓reduceIte, Nat.reduceAdd, Nat.reduceSub, Nat.reduceMul, Nat.reduceLeDiff, Nat.reduceLT, Nat.reduceEqDiff, Int.reduceNeg, Nat.reduceBEq]
    refine next_intro rfl ?_ ?_
    · intro hR
      have hR : R = [] := by simpa using hR
      clear hV
      subst hR
      rw [List.filter_nil, List.append_nil] at hP
      obtain ⟨x, hx1, hx2⟩ := hne
      have hm : x ∈ L := hP.mem_iff.2 (List.mem_filter.2 ⟨hx1, hx2⟩)
      have hL : L ≠ [] := fun h => by rw [h] at hm; cases hm
      have hlen : L.length ≤ 1000 := by
        have h1 := hP.length_eq
        have h2 := List.length_filter_le p (keysOf s)
        have h3 : (keysOf s).length = 7 + s.sorts.length := by simp [keysOf, alwaysA]; omega
        have h4 := hs.sorts
        omega
      rcases ho with ⟨_, h0, _⟩ | ⟨i, rfl, hg, hl⟩
      · exact absurd (by simpa using h0) hL
      · have hi := lt_of_some hg
        simp -implicitDefEqProofs (disch := omega) only [go_sem, ↓reduceIte, Nat.reduceAdd, Nat.reduceSub, Nat.reduceMul, Nat.reduceLeDiff, Nat.reduceLT, Nat.reduceEqDiff, Int.reduceNeg, Nat.reduceBEq]
        refine sort_acalls hL (by omega) (by simpa using hg) ?_
        simp -implicitDefEqProofs (disch := omega) only [go_sem, ↓reduceIte, Nat.reduceAdd, Nat.reduceSub, Nat.reduceMul, Nat.reduceLeDiff, Nat.reduceLT, Nat.reduceEqDiff, Int.reduceNeg, Nat.reduceBEq]
        have hs1 : sortS L = listR s p := sort_perm hP
        have hs2 : L.length = (listR s p).length := by rw [← hs1]; simp [sortS]
        exact fin_own (cs := (sortS L).map .s) (by simp [hi]) hs2.symm (by rw [hs1]) (by rw [hs1, hs2]; simp) persL_s
    · intro j k v hk hv
      rw [List.getElem?_map, Option.map_eq_some_iff] at hk
      obtain ⟨x, hx, rfl⟩ := hk
      have he := erase_len hx
      have he2 := erase_len hv
      simp -implicitDefEqProofs (disch := omega) only [go_sem, ↓reduceIte, Nat.reduceAdd, Nat.reduceSub, Nat.reduceMul, Nat.reduceLeDiff, Nat.reduceLT, Nat.reduceEqDiff, Int.reduceNeg, Nat.reduceBEq]
      refine c_ctrE (hw x) ?_ ?_
      · simp -implicitDefEqProofs (disch := omega) only [List.map_append, snapL ha, snapL hb, go_sem, ↓reduceIte, Nat.reduceAdd, Nat.reduceSub, Nat.reduceMul, Nat.reduceLeDiff, Nat.reduceLT, Nat.reduceEqDiff, Int.reduceNeg, Nat.reduceBEq]
      · simp -implicitDefEqProofs (disch := omega) only [go_sem, ↓reduceIte, Nat.reduceAdd, Nat.reduceSub, Nat.reduceMul, Nat.reduceLeDiff, Nat.reduceLT, Nat.reduceEqDiff, Int.reduceNeg, Nat.reduceBEq]
        (repeat' (first | refine g_true ?_ ?_ | refine g_false ?_ ?_ | refine cond_intro ?_ ?_ | refine And.intro (by omega) ?_ | (intro hr; have hc := hr; (try simp only [decide_eq_true_eq, decide_eq_false_iff_not, Bool.not_eq_true', Bool.not_eq_false'] at hc); simp -implicitDefEqProofs (disch := omega) only [hr, go_sem, ↓reduceIte, Nat.reduceAdd, Nat.reduceSub, Nat.reduceMul, Nat.reduceLeDiff, Nat.reduceLT, Nat.reduceEqDiff, Int.reduceNeg, Nat.reduceBEq]; (try clear hr))))
        · refine app_intro' (pre := [_]) (news := [.s x]) (m := 1) ho rfl rfl el22 zo9 sz9 by9 rfl (by decide) (by simp -implicitDefEqProofs (disch := omega) only [go_sem, ↓reduceIte, Nat.reduceAdd, Nat.reduceSub, Nat.reduceMul, Nat.reduceLeDiff, Nat.reduceLT, Nat.reduceEqDiff, Int.reduceNeg, Nat.reduceBEq]) (by simp -implicitDefEqProofs (disch := omega) only [go_sem, ↓reduceIte, Nat.reduceAdd, Nat.reduceSub, Nat.reduceMul, Nat.reduceLeDiff, Nat.reduceLT, Nat.reduceEqDiff, Int.reduceNeg, Nat.reduceBEq]) ⟨by omega, by omega⟩ ?_
          intro out' g' ho' _
          simp -implicitDefEqProofs (disch := omega) only [go_sem, ↓reduceIte, Nat.reduceAdd, Nat.reduceSub, Nat.reduceMul, Nat.reduceLeDiff, Nat.reduceLT, Nat.reduceEqDiff, Int.reduceNeg, Nat.reduceBEq]
          refine ⟨(some (.s x, v), R.eraseIdx j, V.eraseIdx j, L ++ [x], out', g'), ⟨by dsimp only; omega, perm_yes hx (by assumption) hP, ?_⟩, by dsimp only; omega, rfl, by simp⟩
          dsimp only
          rw [List.map_append, List.length_append]
          exact ho'
        · exact ⟨(some (.s x, v), R.eraseIdx j, V.eraseIdx j, L, out, g), ⟨by dsimp only; omega, perm_no hx (by assumption) hP, ho⟩, by dsimp only; omega, rfl, by simp⟩
end Go.Proofs.YtadileniakikeaaGreatDoor
set_option maxRecDepth 100000
set_option linter.unusedSimpArgs false
set_option linter.unusedVariables false
namespace Go.Proofs.YtadileniakikeaaGreatDoor
open Go Go.Vo

set_option maxHeartbeats 4000000 in
theorem ctr70 (s : LSig) (x y : Str) (hs : Small s): Ctr Tryz.prog G0 70 [.s y, .box [bookAV s] 0, .box [.s x] 0] (.b (atMost s x y)) := by
  refine sem_intro (rx := false) mixed Tryz.func70 rfl (by kernel_rfl) (by kernel_rfl) (ac := ?_) ?_ g0 ?_
  rotate_left
  · simp only [strip, stripOps, stripOp, hoist, List.filter_cons, List.filter_nil, List.nil_append, List.cons_append, isFree, anyPre, Region.binds, Bool.not_true, Bool.not_false, Bool.false_eq_true, if_true, if_false, Option.isNone_none, Option.isNone_some, Bool.true_and, Bool.false_and, List.map_nil, List.map_cons, List.isEmpty_nil, List.isEmpty_cons, List.append_nil]
    rfl
  · simp -implicitDefEqProofs (disch := omega) only [Tryz.f70, go_sem, List.replicate, ↓reduceIte, Nat.reduceAdd, Nat.reduceSub, Nat.reduceMul, Nat.reduceLeDiff, Nat.reduceLT, Nat.reduceEqDiff, Int.reduceNeg, Nat.reduceBEq]
    (repeat' (first | refine g_true ?_ ?_ | refine g_false ?_ ?_ | refine cond_intro ?_ ?_ | (refine c_ctrE (ctr71 s x y hs) ?_ ?_; (focus (simp -implicitDefEqProofs (disch := omega) only [avs, avb, avi, avo, sigCells, opCells, pairCells, go_sem, ↓reduceIte, Nat.reduceAdd, Nat.reduceSub, Nat.reduceMul, Nat.reduceLeDiff, Nat.reduceLT, Nat.reduceEqDiff, Int.reduceNeg, Nat.reduceBEq]; done)); simp -implicitDefEqProofs (disch := omega) only [go_sem, ↓reduceIte, Nat.reduceAdd, Nat.reduceSub, Nat.reduceMul, Nat.reduceLeDiff, Nat.reduceLT, Nat.reduceEqDiff, Int.reduceNeg, Nat.reduceBEq]) | refine And.intro (by omega) ?_ | (intro hr; have hc := hr; (try simp only [decide_eq_true_eq, decide_eq_false_iff_not, Bool.not_eq_true', Bool.not_eq_false'] at hc); simp -implicitDefEqProofs (disch := omega) only [hr, go_sem, ↓reduceIte, Nat.reduceAdd, Nat.reduceSub, Nat.reduceMul, Nat.reduceLeDiff, Nat.reduceLT, Nat.reduceEqDiff, Int.reduceNeg, Nat.reduceBEq]; (try clear hr))))
    exact fin_eq rfl rfl
set_option maxHeartbeats 4000000 in
theorem ctr76 (s : LSig) (x y : Str) (hs : Small s): Ctr Tryz.prog G0 76 [.s y, .box [bookAV s] 0, .box [.s x] 0] (.b (atMost s y x)) := by
  refine sem_intro (rx := false) mixed Tryz.func76 rfl (by kernel_rfl) (by kernel_rfl) (ac := ?_) ?_ g0 ?_
  rotate_left
  · simp only [strip, stripOps, stripOp, hoist, List.filter_cons, List.filter_nil, List.nil_append, List.cons_append, isFree, anyPre, Region.binds, Bool.not_true, Bool.not_false, Bool.false_eq_true, if_true, if_false, Option.isNone_none, Option.isNone_some, Bool.true_and, Bool.false_and, List.map_nil, List.map_cons, List.isEmpty_nil, List.isEmpty_cons, List.append_nil]
    rfl
  · simp -implicitDefEqProofs (disch := omega) only [Tryz.f76, go_sem, List.replicate, ↓reduceIte, Nat.reduceAdd, Nat.reduceSub, Nat.reduceMul, Nat.reduceLeDiff, Nat.reduceLT, Nat.reduceEqDiff, Int.reduceNeg, Nat.reduceBEq]
    (repeat' (first | refine g_true ?_ ?_ | refine g_false ?_ ?_ | refine cond_intro ?_ ?_ | (refine c_ctrE (ctr71 s y x hs) ?_ ?_; (focus (simp -implicitDefEqProofs (disch := omega) only [avs, avb, avi, avo, sigCells, opCells, pairCells, go_sem, ↓reduceIte, Nat.reduceAdd, Nat.reduceSub, Nat.reduceMul, Nat.reduceLeDiff, Nat.reduceLT, Nat.reduceEqDiff, Int.reduceNeg, Nat.reduceBEq]; done)); simp -implicitDefEqProofs (disch := omega) only [go_sem, ↓reduceIte, Nat.reduceAdd, Nat.reduceSub, Nat.reduceMul, Nat.reduceLeDiff, Nat.reduceLT, Nat.reduceEqDiff, Int.reduceNeg, Nat.reduceBEq]) | refine And.intro (by omega) ?_ | (intro hr; have hc := hr; (try simp only [decide_eq_true_eq, decide_eq_false_iff_not, Bool.not_eq_true', Bool.not_eq_false'] at hc); simp -implicitDefEqProofs (disch := omega) only [hr, go_sem, ↓reduceIte, Nat.reduceAdd, Nat.reduceSub, Nat.reduceMul, Nat.reduceLeDiff, Nat.reduceLT, Nat.reduceEqDiff, Int.reduceNeg, Nat.reduceBEq]; (try clear hr))))
    exact fin_eq rfl rfl
theorem any_key (s : LSig) (x : Str) : ∃ y ∈ keysOf s, atMost s x y = true := ⟨anyS, by simp [keysOf, alwaysA, anyS], by simp [atMost]⟩
theorem self_key {s : LSig} {x : Str} (h : existsA s x = true) : ∃ y ∈ keysOf s, atMost s y x = true := by
  refine ⟨x, by simpa [existsA] using h, ?_⟩
  have := (climb_climbs s.below x).me
  simp [atMost, above, h, this]
/-- a list of sorts, a code -/
def listAV (s : LSig) (x : Str) (l : List Str) : AV := if validB s then (if existsA s x then .tup [.own 1 (l.map .s) l.length, .i .i64 0] else .tup [.sl [] 0, .i .i64 13]) else .tup [.sl [] 0, .i .i64 2]
theorem fin_list {h : List AObj} {id : Nat} {l : List Str} {c : Int} (hid : h[id]? = some (.arr false 1 (l.map .s))) : Fin h (.tup [.hs id 0 l.length false, .i .i64 c]) (.tup [.own 1 (l.map .s) l.length, .i .i64 c]) := by
  refine .inr ⟨⟨⟨rfl, rfl, _, hid, by simp, win_map _ _, persL_s⟩, rfl, trivial⟩, ?_, ?_⟩
  · simp [finIds, finIdsL]
  · simp [finIds, finIdsL, finRch, finRchL, reach_dep, reachK, reach_8, pers]
theorem fin_none {h : List AObj} {c : Int} : Fin h (.tup [.e0, .i .i64 c]) (.tup [.sl [] 0, .i .i64 c]) := .inr ⟨⟨rfl, rfl, trivial⟩, by simp [finIds, finIdsL], by simp [finIds, finIdsL]⟩
set_option maxHeartbeats 4000000 in
theorem ctr19 (s : LSig) (x : Str) (hs : Small s) (ho : OkS s): Ctr Tryz.prog G0 19 [.agg (sigCells s), .s x] (listAV s x (listR s (atMost s x))) := by
  refine sem_intro (rx := false) mixed Tryz.func19 rfl (by kernel_rfl) (by kernel_rfl) (ac := ?_) ?_ g0 ?_
  rotate_left
  · simp only [strip, stripOps, stripOp, hoist, List.filter_cons, List.filter_nil, List.nil_append, List.cons_append, isFree, anyPre, Region.binds, Bool.not_true, Bool.not_false, Bool.false_eq_true, if_true, if_false, Option.isNone_none, Option.isNone_some, Bool.true_and, Bool.false_and, List.map_nil, List.map_cons, List.isEmpty_nil, List.isEmpty_cons, List.append_nil]
    rfl
  · simp -implicitDefEqProofs (disch := omega) only [Tryz.f19, go_sem, List.replicate, ↓reduceIte, Nat.reduceAdd, Nat.reduceSub, Nat.reduceMul, Nat.reduceLeDiff, Nat.reduceLT, Nat.reduceEqDiff, Int.reduceNeg, Nat.reduceBEq]
    by_cases hv : validB s = true
    · by_cases hx : existsA s x = true
      · have hb := bookR_y (xs := [x]) hv (by simp [hx])
        (repeat' (first | refine g_true ?_ ?_ | refine g_false ?_ ?_ | refine cond_intro ?_ ?_ | (refine c_ctrE (ctr63 s [x] hs ho (by simp)) ?_ ?_; (focus (simp -implicitDefEqProofs (disch := omega) only [hb, avs, avb, avi, avo, sigCells, opCells, pairCells, go_sem, ↓reduceIte, Nat.reduceAdd, Nat.reduceSub, Nat.reduceMul, Nat.reduceLeDiff, Nat.reduceLT, Nat.reduceEqDiff, Int.reduceNeg, Nat.reduceBEq]; done)); simp -implicitDefEqProofs (disch := omega) only [hb, go_sem, ↓reduceIte, Nat.reduceAdd, Nat.reduceSub, Nat.reduceMul, Nat.reduceLeDiff, Nat.reduceLT, Nat.reduceEqDiff, Int.reduceNeg, Nat.reduceBEq]) | (refine c_ctrE (ctr69 s 70 [] [.box [bookAV s] 0, .box [.s x] 0] (atMost s x) hs rfl (by simp only [persL, pers, pers_book, Bool.and_self]) (fun y => ctr70 s x y hs) (any_key s x)) ?_ ?_; (focus (simp -implicitDefEqProofs (disch := omega) only [hb, avs, avb, avi, avo, sigCells, opCells, pairCells, go_sem, ↓reduceIte, Nat.reduceAdd, Nat.reduceSub, Nat.reduceMul, Nat.reduceLeDiff, Nat.reduceLT, Nat.reduceEqDiff, Int.reduceNeg, Nat.reduceBEq]; done)); simp -implicitDefEqProofs (disch := omega) only [hb, go_sem, ↓reduceIte, Nat.reduceAdd, Nat.reduceSub, Nat.reduceMul, Nat.reduceLeDiff, Nat.reduceLT, Nat.reduceEqDiff, Int.reduceNeg, Nat.reduceBEq]) | refine And.intro (by omega) ?_ | (intro hr; have hc := hr; (try simp only [decide_eq_true_eq, decide_eq_false_iff_not, Bool.not_eq_true', Bool.not_eq_false'] at hc); simp -implicitDefEqProofs (disch := omega) only [hr, hb, go_sem, ↓reduceIte, Nat.reduceAdd, Nat.reduceSub, Nat.reduceMul, Nat.reduceLeDiff, Nat.reduceLT, Nat.reduceEqDiff, Int.reduceNeg, Nat.reduceBEq]; (try clear hr))))
        have hr : listAV s x (listR s (atMost s x)) = .tup [.own 1 ((listR s (atMost s x)).map .s) (listR s (atMost s x)).length, .i .i64 0] := by simp only [listAV, hv, hx, if_true]
        rw [hr]
        exact fin_list rfl
      · have hx := Bool.eq_false_iff.2 hx
        have hb := bookR_x (xs := [x]) hv (by simp [hx])
        (repeat' (first | refine g_true ?_ ?_ | refine g_false ?_ ?_ | refine cond_intro ?_ ?_ | (refine c_ctrE (ctr63 s [x] hs ho (by simp)) ?_ ?_; (focus (simp -implicitDefEqProofs (disch := omega) only [hb, avs, avb, avi, avo, sigCells, opCells, pairCells, go_sem, ↓reduceIte, Nat.reduceAdd, Nat.reduceSub, Nat.reduceMul, Nat.reduceLeDiff, Nat.reduceLT, Nat.reduceEqDiff, Int.reduceNeg, Nat.reduceBEq]; done)); simp -implicitDefEqProofs (disch := omega) only [hb, go_sem, ↓reduceIte, Nat.reduceAdd, Nat.reduceSub, Nat.reduceMul, Nat.reduceLeDiff, Nat.reduceLT, Nat.reduceEqDiff, Int.reduceNeg, Nat.reduceBEq]) | refine And.intro (by omega) ?_ | (intro hr; have hc := hr; (try simp only [decide_eq_true_eq, decide_eq_false_iff_not, Bool.not_eq_true', Bool.not_eq_false'] at hc); simp -implicitDefEqProofs (disch := omega) only [hr, hb, go_sem, ↓reduceIte, Nat.reduceAdd, Nat.reduceSub, Nat.reduceMul, Nat.reduceLeDiff, Nat.reduceLT, Nat.reduceEqDiff, Int.reduceNeg, Nat.reduceBEq]; (try clear hr))))
        have hr : listAV s x (listR s (atMost s x)) = .tup [.sl [] 0, .i .i64 13] := by simp only [listAV, hv, hx, if_true, Bool.false_eq_true, if_false]
        rw [hr]
        exact fin_none
    · have hb := bookR_n (xs := [x]) hv
      (repeat' (first | refine g_true ?_ ?_ | refine g_false ?_ ?_ | refine cond_intro ?_ ?_ | (refine c_ctrE (ctr63 s [x] hs ho (by simp)) ?_ ?_; (focus (simp -implicitDefEqProofs (disch := omega) only [hb, avs, avb, avi, avo, sigCells, opCells, pairCells, go_sem, ↓reduceIte, Nat.reduceAdd, Nat.reduceSub, Nat.reduceMul, Nat.reduceLeDiff, Nat.reduceLT, Nat.reduceEqDiff, Int.reduceNeg, Nat.reduceBEq]; done)); simp -implicitDefEqProofs (disch := omega) only [hb, go_sem, ↓reduceIte, Nat.reduceAdd, Nat.reduceSub, Nat.reduceMul, Nat.reduceLeDiff, Nat.reduceLT, Nat.reduceEqDiff, Int.reduceNeg, Nat.reduceBEq]) | refine And.intro (by omega) ?_ | (intro hr; have hc := hr; (try simp only [decide_eq_true_eq, decide_eq_false_iff_not, Bool.not_eq_true', Bool.not_eq_false'] at hc); simp -implicitDefEqProofs (disch := omega) only [hr, hb, go_sem, ↓reduceIte, Nat.reduceAdd, Nat.reduceSub, Nat.reduceMul, Nat.reduceLeDiff, Nat.reduceLT, Nat.reduceEqDiff, Int.reduceNeg, Nat.reduceBEq]; (try clear hr))))
      have hr : listAV s x (listR s (atMost s x)) = .tup [.sl [] 0, .i .i64 2] := by simp only [listAV, if_neg hv]
      rw [hr]
      exact fin_none
set_option maxHeartbeats 4000000 in
theorem ctr22 (s : LSig) (x : Str) (hs : Small s) (ho : OkS s): Ctr Tryz.prog G0 22 [.agg (sigCells s), .s x] (listAV s x (listR s (fun y => atMost s y x))) := by
  refine sem_intro (rx := false) mixed Tryz.func22 rfl (by kernel_rfl) (by kernel_rfl) (ac := ?_) ?_ g0 ?_
  rotate_left
  · simp only [strip, stripOps, stripOp, hoist, List.filter_cons, List.filter_nil, List.nil_append, List.cons_append, isFree, anyPre, Region.binds, Bool.not_true, Bool.not_false, Bool.false_eq_true, if_true, if_false, Option.isNone_none, Option.isNone_some, Bool.true_and, Bool.false_and, List.map_nil, List.map_cons, List.isEmpty_nil, List.isEmpty_cons, List.append_nil]
    rfl
  · simp -implicitDefEqProofs (disch := omega) only [Tryz.f22, go_sem, List.replicate, ↓reduceIte, Nat.reduceAdd, Nat.reduceSub, Nat.reduceMul, Nat.reduceLeDiff, Nat.reduceLT, Nat.reduceEqDiff, Int.reduceNeg, Nat.reduceBEq]
    by_cases hv : validB s = true
    · by_cases hx : existsA s x = true
      · have hb := bookR_y (xs := [x]) hv (by simp [hx])
        (repeat' (first | refine g_true ?_ ?_ | refine g_false ?_ ?_ | refine cond_intro ?_ ?_ | (refine c_ctrE (ctr63 s [x] hs ho (by simp)) ?_ ?_; (focus (simp -implicitDefEqProofs (disch := omega) only [hb, avs, avb, avi, avo, sigCells, opCells, pairCells, go_sem, ↓reduceIte, Nat.reduceAdd, Nat.reduceSub, Nat.reduceMul, Nat.reduceLeDiff, Nat.reduceLT, Nat.reduceEqDiff, Int.reduceNeg, Nat.reduceBEq]; done)); simp -implicitDefEqProofs (disch := omega) only [hb, go_sem, ↓reduceIte, Nat.reduceAdd, Nat.reduceSub, Nat.reduceMul, Nat.reduceLeDiff, Nat.reduceLT, Nat.reduceEqDiff, Int.reduceNeg, Nat.reduceBEq]) | (refine c_ctrE (ctr69 s 76 [] [.box [bookAV s] 0, .box [.s x] 0] (fun y => atMost s y x) hs rfl (by simp only [persL, pers, pers_book, Bool.and_self]) (fun y => ctr76 s x y hs) (self_key hx)) ?_ ?_; (focus (simp -implicitDefEqProofs (disch := omega) only [hb, avs, avb, avi, avo, sigCells, opCells, pairCells, go_sem, ↓reduceIte, Nat.reduceAdd, Nat.reduceSub, Nat.reduceMul, Nat.reduceLeDiff, Nat.reduceLT, Nat.reduceEqDiff, Int.reduceNeg, Nat.reduceBEq]; done)); simp -implicitDefEqProofs (disch := omega) only [hb, go_sem, ↓reduceIte, Nat.reduceAdd, Nat.reduceSub, Nat.reduceMul, Nat.reduceLeDiff, Nat.reduceLT, Nat.reduceEqDiff, Int.reduceNeg, Nat.reduceBEq]) | refine And.intro (by omega) ?_ | (intro hr; have hc := hr; (try simp only [decide_eq_true_eq, decide_eq_false_iff_not, Bool.not_eq_true', Bool.not_eq_false'] at hc); simp -implicitDefEqProofs (disch := omega) only [hr, hb, go_sem, ↓reduceIte, Nat.reduceAdd, Nat.reduceSub, Nat.reduceMul, Nat.reduceLeDiff, Nat.reduceLT, Nat.reduceEqDiff, Int.reduceNeg, Nat.reduceBEq]; (try clear hr))))
        have hr : listAV s x (listR s (fun y => atMost s y x)) = .tup [.own 1 ((listR s (fun y => atMost s y x)).map .s) (listR s (fun y => atMost s y x)).length, .i .i64 0] := by simp only [listAV, hv, hx, if_true]
        rw [hr]
        exact fin_list rfl
      · have hx := Bool.eq_false_iff.2 hx
        have hb := bookR_x (xs := [x]) hv (by simp [hx])
        (repeat' (first | refine g_true ?_ ?_ | refine g_false ?_ ?_ | refine cond_intro ?_ ?_ | (refine c_ctrE (ctr63 s [x] hs ho (by simp)) ?_ ?_; (focus (simp -implicitDefEqProofs (disch := omega) only [hb, avs, avb, avi, avo, sigCells, opCells, pairCells, go_sem, ↓reduceIte, Nat.reduceAdd, Nat.reduceSub, Nat.reduceMul, Nat.reduceLeDiff, Nat.reduceLT, Nat.reduceEqDiff, Int.reduceNeg, Nat.reduceBEq]; done)); simp -implicitDefEqProofs (disch := omega) only [hb, go_sem, ↓reduceIte, Nat.reduceAdd, Nat.reduceSub, Nat.reduceMul, Nat.reduceLeDiff, Nat.reduceLT, Nat.reduceEqDiff, Int.reduceNeg, Nat.reduceBEq]) | refine And.intro (by omega) ?_ | (intro hr; have hc := hr; (try simp only [decide_eq_true_eq, decide_eq_false_iff_not, Bool.not_eq_true', Bool.not_eq_false'] at hc); simp -implicitDefEqProofs (disch := omega) only [hr, hb, go_sem, ↓reduceIte, Nat.reduceAdd, Nat.reduceSub, Nat.reduceMul, Nat.reduceLeDiff, Nat.reduceLT, Nat.reduceEqDiff, Int.reduceNeg, Nat.reduceBEq]; (try clear hr))))
        have hr : listAV s x (listR s (fun y => atMost s y x)) = .tup [.sl [] 0, .i .i64 13] := by simp only [listAV, hv, hx, if_true, Bool.false_eq_true, if_false]
        rw [hr]
        exact fin_none
    · have hb := bookR_n (xs := [x]) hv
      (repeat' (first | refine g_true ?_ ?_ | refine g_false ?_ ?_ | refine cond_intro ?_ ?_ | (refine c_ctrE (ctr63 s [x] hs ho (by simp)) ?_ ?_; (focus (simp -implicitDefEqProofs (disch := omega) only [hb, avs, avb, avi, avo, sigCells, opCells, pairCells, go_sem, ↓reduceIte, Nat.reduceAdd, Nat.reduceSub, Nat.reduceMul, Nat.reduceLeDiff, Nat.reduceLT, Nat.reduceEqDiff, Int.reduceNeg, Nat.reduceBEq]; done)); simp -implicitDefEqProofs (disch := omega) only [hb, go_sem, ↓reduceIte, Nat.reduceAdd, Nat.reduceSub, Nat.reduceMul, Nat.reduceLeDiff, Nat.reduceLT, Nat.reduceEqDiff, Int.reduceNeg, Nat.reduceBEq]) | refine And.intro (by omega) ?_ | (intro hr; have hc := hr; (try simp only [decide_eq_true_eq, decide_eq_false_iff_not, Bool.not_eq_true', Bool.not_eq_false'] at hc); simp -implicitDefEqProofs (disch := omega) only [hr, hb, go_sem, ↓reduceIte, Nat.reduceAdd, Nat.reduceSub, Nat.reduceMul, Nat.reduceLeDiff, Nat.reduceLT, Nat.reduceEqDiff, Int.reduceNeg, Nat.reduceBEq]; (try clear hr))))
      have hr : listAV s x (listR s (fun y => atMost s y x)) = .tup [.sl [] 0, .i .i64 2] := by simp only [listAV, if_neg hv]
      rw [hr]
      exact fin_none
end Go.Proofs.YtadileniakikeaaGreatDoor
set_option maxRecDepth 100000
set_option linter.unusedSimpArgs false
set_option linter.unusedVariables false
namespace Go.Proofs.YtadileniakikeaaGreatDoor
open Go Go.Vo

theorem lenEq {a b : Nat} : ((a : Int) = (b : Int)) ↔ a = b := by omega
set_option maxHeartbeats 4000000 in
theorem ctr92 (l m : List LOp) (hl : l.length ≤ 140737488355328) (hm : m.length ≤ 140737488355328) (hlo : ∀ o ∈ l, OkO o) (hmo : ∀ o ∈ m, OkO o): Ctr Tryz.prog G0 92 [avo l, avo m, .fn 93 [] []] (.b (decide (l = m))) := by
  refine sem_intro (rx := false) mixed Tryz.func92 rfl (by kernel_rfl) (by kernel_rfl) (ac := ?_) ?_ g0 ?_
  rotate_left
  · simp only [strip, stripOps, stripOp, hoist, List.filter_cons, List.filter_nil, List.nil_append, List.cons_append, isFree, anyPre, Region.binds, Bool.not_true, Bool.not_false, Bool.false_eq_true, if_true, if_false, Option.isNone_none, Option.isNone_some, Bool.true_and, Bool.false_and, List.map_nil, List.map_cons, List.isEmpty_nil, List.isEmpty_cons, List.append_nil]
    rfl
  · simp -implicitDefEqProofs (disch := omega) only [Tryz.f92, go_sem, List.replicate, ↓reduceIte, Nat.reduceAdd, Nat.reduceSub, Nat.reduceMul, Nat.reduceLeDiff, Nat.reduceLT, Nat.reduceEqDiff, Int.reduceNeg, Nat.reduceBEq, avo]
    (repeat' (first | refine g_true ?_ ?_ | refine g_false ?_ ?_ | refine cond_intro ?_ ?_ | refine And.intro (by omega) ?_ | (intro hr; have hc := hr; (try simp only [decide_eq_true_eq, decide_eq_false_iff_not, Bool.not_eq_true', Bool.not_eq_false'] at hc); simp -implicitDefEqProofs (disch := omega) only [hr, go_sem, ↓reduceIte, Nat.reduceAdd, Nat.reduceSub, Nat.reduceMul, Nat.reduceLeDiff, Nat.reduceLT, Nat.reduceEqDiff, Int.reduceNeg, Nat.reduceBEq]; (try clear hr))))
    · refine fin_eq ?_ (by rfl)
      have : l ≠ m := fun h => hc (by rw [h])
      rw [decide_eq_false this]
    refine x_loopG (fun (k : Nat) => [.k, .k, .k, .k, .k, .k, .j, .j, .j, .j, .k, .k, .k, .k, .k, .k, .k, .v (.i .i64 k), .j, .j, .j, .j, .j, .j, .j, .j, .j, .j, .j, .j, .j, .j]) (fun k => []) (fun k => k ≤ l.length ∧ ∀ j, j < k → l.getD j default = m.getD j default) (fun k => l.length - k) (0) _ ⟨Nat.zero_le _, fun j h => by omega⟩ rfl (by simp [Fits]) ?_
    rintro k g j ⟨hk, ha⟩
    have o1 : k < l.length → OkO (l.getD k default) := fun h => hlo _ (mem_getD h)
    have o2 : k < m.length → OkO (m.getD k default) := fun h => hmo _ (mem_getD h)
    simp -implicitDefEqProofs (disch := omega) only [go_sem, ↓reduceIte, Nat.reduceAdd, Nat.reduceSub, Nat.reduceMul, Nat.reduceLeDiff, Nat.reduceLT, Nat.reduceEqDiff, Int.reduceNeg, Nat.reduceBEq]
    (repeat' (first | refine g_true ?_ ?_ | refine g_false ?_ ?_ | refine cond_intro ?_ ?_ | (refine c_ctrE (ctr93 (l.getD k default) (m.getD k default) (o1 (by omega)) (o2 (by omega))) ?_ ?_; (focus (simp -implicitDefEqProofs (disch := omega) only [avs, avb, avi, avo, sigCells, opCells, pairCells, go_sem, ↓reduceIte, Nat.reduceAdd, Nat.reduceSub, Nat.reduceMul, Nat.reduceLeDiff, Nat.reduceLT, Nat.reduceEqDiff, Int.reduceNeg, Nat.reduceBEq]; done)); simp -implicitDefEqProofs (disch := omega) only [go_sem, ↓reduceIte, Nat.reduceAdd, Nat.reduceSub, Nat.reduceMul, Nat.reduceLeDiff, Nat.reduceLT, Nat.reduceEqDiff, Int.reduceNeg, Nat.reduceBEq]) | refine And.intro (by omega) ?_ | (intro hr; have hc := hr; (try simp only [decide_eq_true_eq, decide_eq_false_iff_not, Bool.not_eq_true', Bool.not_eq_false'] at hc); simp -implicitDefEqProofs (disch := omega) only [hr, go_sem, ↓reduceIte, Nat.reduceAdd, Nat.reduceSub, Nat.reduceMul, Nat.reduceLeDiff, Nat.reduceLT, Nat.reduceEqDiff, Int.reduceNeg, Nat.reduceBEq]; (try clear hr))))
    · refine fin_eq ?_ (by rfl)
      have : l ≠ m := fun h => by simp [h] at *
      rw [decide_eq_false this]
    · exact ⟨k + 1, _, ⟨by omega, below_succ ha (by simpa using hc)⟩, by omega, rfl, by simp⟩
    · refine fin_eq ?_ (by rfl)
      have : l = m := eq_getD (d := default) (by omega) (fun j hj => ha j (by omega))
      rw [decide_eq_true this]
def sameB (s t : LSig) : Bool := decide (s.sorts = t.sorts) && decide (s.below = t.below) && decide (s.values = t.values) && decide (s.ops = t.ops) && decide (s.funs = t.funs)
theorem same_eq {s t : LSig} : sameB s t = true ↔ s = t := by
  cases s; cases t; simp only [sameB, Bool.and_eq_true, decide_eq_true_eq, LSig.mk.injEq]
  exact ⟨fun ⟨⟨⟨⟨a, b⟩, c⟩, d⟩, e⟩ => ⟨a, b, d, e, c⟩, fun ⟨a, b, d, e, c⟩ => ⟨⟨⟨⟨a, b⟩, c⟩, d⟩, e⟩⟩
set_option maxHeartbeats 4000000 in
theorem ctr38 (s t : LSig) (hs : OkS s) (ht : OkS t): Ctr Tryz.prog G0 38 [.agg (sigCells s), .agg (sigCells t)] (.b (sameB s t)) := by
  refine sem_intro (rx := false) mixed Tryz.func38 rfl (by kernel_rfl) (by kernel_rfl) (ac := ?_) ?_ g0 ?_
  rotate_left
  · simp only [strip, stripOps, stripOp, hoist, List.filter_cons, List.filter_nil, List.nil_append, List.cons_append, isFree, anyPre, Region.binds, Bool.not_true, Bool.not_false, Bool.false_eq_true, if_true, if_false, Option.isNone_none, Option.isNone_some, Bool.true_and, Bool.false_and, List.map_nil, List.map_cons, List.isEmpty_nil, List.isEmpty_cons, List.append_nil]
    rfl
  · simp -implicitDefEqProofs (disch := omega) only [Tryz.f38, go_sem, List.replicate, ↓reduceIte, Nat.reduceAdd, Nat.reduceSub, Nat.reduceMul, Nat.reduceLeDiff, Nat.reduceLT, Nat.reduceEqDiff, Int.reduceNeg, Nat.reduceBEq]
    (repeat' (first | refine g_true ?_ ?_ | refine g_false ?_ ?_ | refine cond_intro ?_ ?_ | (refine c_ctrE (ctr90 s.sorts t.sorts hs.sorts ht.sorts) ?_ ?_; (focus (simp -implicitDefEqProofs (disch := omega) only [avs, avb, avi, avo, sigCells, opCells, pairCells, go_sem, ↓reduceIte, Nat.reduceAdd, Nat.reduceSub, Nat.reduceMul, Nat.reduceLeDiff, Nat.reduceLT, Nat.reduceEqDiff, Int.reduceNeg, Nat.reduceBEq]; done)); simp -implicitDefEqProofs (disch := omega) only [go_sem, ↓reduceIte, Nat.reduceAdd, Nat.reduceSub, Nat.reduceMul, Nat.reduceLeDiff, Nat.reduceLT, Nat.reduceEqDiff, Int.reduceNeg, Nat.reduceBEq]) | (refine c_ctrE (ctr91 s.below t.below hs.below ht.below) ?_ ?_; (focus (simp -implicitDefEqProofs (disch := omega) only [avs, avb, avi, avo, sigCells, opCells, pairCells, go_sem, ↓reduceIte, Nat.reduceAdd, Nat.reduceSub, Nat.reduceMul, Nat.reduceLeDiff, Nat.reduceLT, Nat.reduceEqDiff, Int.reduceNeg, Nat.reduceBEq]; done)); simp -implicitDefEqProofs (disch := omega) only [go_sem, ↓reduceIte, Nat.reduceAdd, Nat.reduceSub, Nat.reduceMul, Nat.reduceLeDiff, Nat.reduceLT, Nat.reduceEqDiff, Int.reduceNeg, Nat.reduceBEq]) | (refine c_ctrE (ctr90 s.values t.values hs.values ht.values) ?_ ?_; (focus (simp -implicitDefEqProofs (disch := omega) only [avs, avb, avi, avo, sigCells, opCells, pairCells, go_sem, ↓reduceIte, Nat.reduceAdd, Nat.reduceSub, Nat.reduceMul, Nat.reduceLeDiff, Nat.reduceLT, Nat.reduceEqDiff, Int.reduceNeg, Nat.reduceBEq]; done)); simp -implicitDefEqProofs (disch := omega) only [go_sem, ↓reduceIte, Nat.reduceAdd, Nat.reduceSub, Nat.reduceMul, Nat.reduceLeDiff, Nat.reduceLT, Nat.reduceEqDiff, Int.reduceNeg, Nat.reduceBEq]) | (refine c_ctrE (ctr92 s.ops t.ops hs.ops ht.ops hs.opsO ht.opsO) ?_ ?_; (focus (simp -implicitDefEqProofs (disch := omega) only [avs, avb, avi, avo, sigCells, opCells, pairCells, go_sem, ↓reduceIte, Nat.reduceAdd, Nat.reduceSub, Nat.reduceMul, Nat.reduceLeDiff, Nat.reduceLT, Nat.reduceEqDiff, Int.reduceNeg, Nat.reduceBEq]; done)); simp -implicitDefEqProofs (disch := omega) only [go_sem, ↓reduceIte, Nat.reduceAdd, Nat.reduceSub, Nat.reduceMul, Nat.reduceLeDiff, Nat.reduceLT, Nat.reduceEqDiff, Int.reduceNeg, Nat.reduceBEq]) | (refine c_ctrE (ctr92 s.funs t.funs hs.funs ht.funs hs.funsO ht.funsO) ?_ ?_; (focus (simp -implicitDefEqProofs (disch := omega) only [avs, avb, avi, avo, sigCells, opCells, pairCells, go_sem, ↓reduceIte, Nat.reduceAdd, Nat.reduceSub, Nat.reduceMul, Nat.reduceLeDiff, Nat.reduceLT, Nat.reduceEqDiff, Int.reduceNeg, Nat.reduceBEq]; done)); simp -implicitDefEqProofs (disch := omega) only [go_sem, ↓reduceIte, Nat.reduceAdd, Nat.reduceSub, Nat.reduceMul, Nat.reduceLeDiff, Nat.reduceLT, Nat.reduceEqDiff, Int.reduceNeg, Nat.reduceBEq]) | refine And.intro (by omega) ?_ | (intro hr; have hc := hr; (try simp only [decide_eq_true_eq, decide_eq_false_iff_not, Bool.not_eq_true', Bool.not_eq_false'] at hc); simp -implicitDefEqProofs (disch := omega) only [hr, go_sem, ↓reduceIte, Nat.reduceAdd, Nat.reduceSub, Nat.reduceMul, Nat.reduceLeDiff, Nat.reduceLT, Nat.reduceEqDiff, Int.reduceNeg, Nat.reduceBEq]; (try clear hr))))
    all_goals (refine fin_eq ?_ (by rfl))
    all_goals simp_all [sameB]
end Go.Proofs.YtadileniakikeaaGreatDoor
set_option maxRecDepth 100000
set_option linter.unusedSimpArgs false
set_option linter.unusedVariables false
namespace Go.Proofs.YtadileniakikeaaGreatDoor
open Go Go.Vo

/-- AN APPEND TO A SLICE OF OUR OWN, of what is not yet such that it stays -/
theorem app_snap {P : Program} {G : Glob} {dr : Option Nat} {d : Option Nat} {os : List AOper} {K : List AV → List AObj → Prop} {env : List AV} {h pre g more : List AObj} {T e by_ sz N : Nat} {z : List AV} {out x : AV} {cells news : List AV} {n m : Nat}
    (ho : OutIs sz N g out cells n) (hN : pre.length = N) (hh : Vo.freeze (reach dep h x) h = pre ++ (g ++ more)) (hT : elemOf? P T = some e) (hz : zeroOf P e = some z) (hs : szOf P e = some sz) (hb : byOf P e = some by_)
    (hzl : z.length = sz) (hpos : 0 < sz) (hw : winPers h x = false) (hx : snap dep h x = .sl news m) (hlen : news.length = m * sz) (hp : persL news = true) (hbd : (n + m) * by_ ≤ 140737488355328 ∧ n + m ≤ 140737488355328)
    (k : ∀ out' g', OutIs sz N g' out' (cells ++ news) (n + m) → (∀ (i : Nat) (o : AObj), g[i]? = some o → (∀ c : List AV, o ≠ .arr false sz c) → g'[i]? = some o) → awops P G dr os K (aput env d out') (pre ++ g')) : contVH P G dr (aappS P h T out x) d os K env := by
  have e : aappS P h T out x = aappS P (pre ++ (g ++ more)) T out (.sl news m) := by
    unfold aappS
    rw [hw, hh, hx]
    simp [winPers, pers, hp]
  rw [e]
  exact app_intro' ho hN rfl hT hz hs hb hzl hpos (by simp [winPers, pers, hp]) (by simp [awin, hlen]) hbd k
/-- what lies before stays -/
theorem freeze_pre : ∀ (ids : List Nat) (g r : List AObj), (∀ i ∈ ids, g.length ≤ i) → ∃ r', Vo.freeze ids (g ++ r) = g ++ r' := by
  intro ids
  induction ids with
  | nil => exact fun g r _ => ⟨r, rfl⟩
  | cons i ids ih =>
    intro g r h
    have h0 := h i (by simp)
    have e : (g ++ r).modify i AObj.fz = g ++ r.modify (i - g.length) AObj.fz := by
      have := fz_off (l := g) (m := r) (n := i - g.length) (f := AObj.fz)
      rwa [show g.length + (i - g.length) = i by omega] at this
    obtain ⟨r', hr⟩ := ih g (r.modify (i - g.length) AObj.fz) (fun j hj => h j (by simp [hj]))
    refine ⟨r', ?_⟩
    rw [← hr, ← e]
    rfl
theorem app_snap' {P : Program} {G : Glob} {dr : Option Nat} {d : Option Nat} {os : List AOper} {K : List AV → List AObj → Prop} {env : List AV} {g r : List AObj} {T e by_ sz : Nat} {z : List AV} {out x : AV} {cells news : List AV} {n m : Nat}
    (ho : OutIs sz 0 g out cells n) (hid : ∀ i ∈ reach dep (g ++ r) x, g.length ≤ i) (hT : elemOf? P T = some e) (hz : zeroOf P e = some z) (hs : szOf P e = some sz) (hb : byOf P e = some by_)
    (hzl : z.length = sz) (hpos : 0 < sz) (hw : winPers (g ++ r) x = false) (hx : snap dep (g ++ r) x = .sl news m) (hlen : news.length = m * sz) (hp : persL news = true) (hbd : (n + m) * by_ ≤ 140737488355328 ∧ n + m ≤ 140737488355328)
    (k : ∀ out' g', OutIs sz 0 g' out' (cells ++ news) (n + m) → (∀ (i : Nat) (o : AObj), g[i]? = some o → (∀ c : List AV, o ≠ .arr false sz c) → g'[i]? = some o) → awops P G dr os K (aput env d out') g') : contVH P G dr (aappS P (g ++ r) T out x) d os K env := by
  obtain ⟨r', hr⟩ := freeze_pre _ _ _ hid
  exact app_snap (pre := []) ho rfl hr hT hz hs hb hzl hpos hw hx hlen hp hbd k
/-- an operator whose parts lie in slices of our own, as it reads -/
theorem snap_op {H : List AObj} {i a p st la lp ls : Nat} {nm so : Str} {pr as_ : Int} {ca cp cs : List AV} (hi : H[i]? = some (.arr false 7 [.s nm, .hs a 0 la false, .s so, .hs p 0 lp false, .i .i64 pr, .i .i64 as_, .hs st 0 ls false]))
    (ha : H[a]? = some (.arr false 1 ca)) (hp : H[p]? = some (.arr false 2 cp)) (hs : H[st]? = some (.arr false 1 cs)) (pa : persL ca = true) (pp : persL cp = true) (ps : persL cs = true) (la' : ca.length = la) (lp' : cp.length = lp * 2) (ls' : cs.length = ls) :
    snap dep H (.hs i 0 1 false) = .sl [.s nm, .sl ca la, .s so, .sl cp lp, .i .i64 pr, .i .i64 as_, .sl cs ls] 1 ∧ reach dep H (.hs i 0 1 false) = [i, a, p, st] ∧ winPers H (.hs i 0 1 false) = false := by
  have w1 : (ca.drop 0).take (la * 1) = ca := by rw [List.drop_zero, List.take_of_length_le (by omega)]
  have w2 : (cp.drop 0).take (lp * 2) = cp := by rw [List.drop_zero, List.take_of_length_le (by omega)]
  have w3 : (cs.drop 0).take (ls * 1) = cs := by rw [List.drop_zero, List.take_of_length_le (by omega)]
  refine ⟨?_, ?_, ?_⟩
  · simp only [snap_dep, snapS, snap_8, snapK, hi, ha, hp, hs, pa, pp, ps, w1, w2, w3, pers, persL]
    simp [snap_8, snapK, ha, hp, hs, pa, pp, ps, pers, persL, la', lp', ls', List.take_of_length_le]
  · simp only [reach_dep, reachK, hi, pers, persL]
    simp [reach_8, reachK, ha, hp, hs, pa, pp, ps, pers, persL, la', lp', ls', List.take_of_length_le]
  · simp [winPers, hi, persL, pers]
theorem app_op {P : Program} {G : Glob} {dr : Option Nat} {d : Option Nat} {os : List AOper} {K : List AV → List AObj → Prop} {env : List AV} {g r : List AObj} {T e by_ : Nat} {z : List AV} {out : AV} {cells : List AV} {n : Nat} {o : LOp} {i a p st la lp ls : Nat}
    (ho : OutIs 7 0 g out cells n) (hi : (g ++ r)[i]? = some (.arr false 7 [.s o.name, .hs a 0 la false, .s o.sort, .hs p 0 lp false, .i .i64 o.prec, .i .i64 o.assoc, .hs st 0 ls false]))
    (ha : (g ++ r)[a]? = some (.arr false 1 (o.args.map .s))) (hp : (g ++ r)[p]? = some (.arr false 2 (o.pieces.flatMap pairCells))) (hs : (g ++ r)[st]? = some (.arr false 1 (o.strict.map (.i .i64))))
    (la' : o.args.length = la) (lp' : o.pieces.length = lp) (ls' : o.strict.length = ls) (hge : g.length ≤ i ∧ g.length ≤ a ∧ g.length ≤ p ∧ g.length ≤ st) (hT : elemOf? P T = some e) (hz : zeroOf P e = some z) (hsz : szOf P e = some 7) (hb : byOf P e = some by_)
    (hzl : z.length = 7) (hbd : (n + 1) * by_ ≤ 140737488355328 ∧ n + 1 ≤ 140737488355328)
    (k : ∀ out' g', OutIs 7 0 g' out' (cells ++ opCells o) (n + 1) → (∀ (i : Nat) (o : AObj), g[i]? = some o → (∀ c : List AV, o ≠ .arr false 7 c) → g'[i]? = some o) → awops P G dr os K (aput env d out') g') : contVH P G dr (aappS P (g ++ r) T out (.hs i 0 1 false)) d os K env := by
  subst la' lp' ls'
  obtain ⟨h1, h2, h3⟩ := snap_op hi ha hp hs persL_s persL_pair persL_i (by simp) pair_flat_len (by simp)
  refine app_snap' (news := opCells o) (m := 1) ho ?_ hT hz hsz hb hzl (by decide) h3 h1 rfl (persL_ops o) hbd k
  rw [h2]
  simp only [List.mem_cons, List.not_mem_nil, or_false]
  omega
end Go.Proofs.YtadileniakikeaaGreatDoor
set_option maxRecDepth 100000
set_option linter.unusedSimpArgs false
set_option linter.unusedVariables false
namespace Go.Proofs.YtadileniakikeaaGreatDoor
open Go Go.Vo

/-! ## a signature changed -/
def changeP (ps : Str → Str) (p : Str × Str) : Str × Str := (p.1, if p.2 = [] then [] else ps p.2)
def changeO (po ps : Str → Str) (o : LOp) : LOp := ⟨po o.name, o.args.map ps, ps o.sort, o.pieces.map (changeP ps), o.prec, o.assoc, o.strict⟩
/-- some pieces are changed already -/
def chg (ps : Str → Str) (l : List (Str × Str)) (m : Nat) : List (Str × Str) := (l.take m).map (changeP ps) ++ l.drop m
theorem chg_len {ps : Str → Str} {l : List (Str × Str)} {m : Nat} : (chg ps l m).length = l.length := by simp [chg]; omega
theorem chg_get {ps : Str → Str} {l : List (Str × Str)} {m : Nat} (h : m < l.length) : (chg ps l m).getD m ([], []) = l.getD m ([], []) := by
  unfold chg
  simp only [List.getD]
  rw [List.getElem?_append_right (by simp; omega)]
  simp [h, show min m l.length = m by omega]
theorem chg_all {ps : Str → Str} {l : List (Str × Str)} {m : Nat} (h : l.length ≤ m) : chg ps l m = l.map (changeP ps) := by
  unfold chg
  rw [List.take_of_length_le h, List.drop_of_length_le h, List.append_nil]
theorem chg_succ {ps : Str → Str} {l : List (Str × Str)} {m : Nat} (h : m < l.length) : chg ps l (m + 1) = (l.take m).map (changeP ps) ++ (changeP ps (l.getD m ([], [])) :: l.drop (m + 1)) := by
  unfold chg
  rw [take_getD (d := ([], [])) h, List.map_append, List.append_assoc]; rfl
theorem chg_this {ps : Str → Str} {l : List (Str × Str)} {m : Nat} (h : m < l.length) : chg ps l m = (l.take m).map (changeP ps) ++ (l.getD m ([], []) :: l.drop (m + 1)) := by
  unfold chg
  congr 1
  rw [List.drop_eq_getElem_cons h]
  simp [List.getD, h]
theorem chg_same {ps : Str → Str} {l : List (Str × Str)} {m : Nat} (h : m < l.length) (h2 : (l.getD m ([], [])).2 = []) : chg ps l m = chg ps l (m + 1) := by
  rw [chg_succ h, chg_this h]
  have : changeP ps (l.getD m ([], [])) = l.getD m ([], []) := by
    generalize l.getD m ([], []) = x at h2
    obtain ⟨a, b⟩ := x
    simp only at h2
    subst h2
    rfl
  rw [this]
theorem chg_set {ps : Str → Str} {l : List (Str × Str)} {m : Nat} (h : m < l.length) (h2 : ¬ (l.getD m ([], [])).2 = []) :
    List.take (m * 2 + 1) ((chg ps l m).flatMap pairCells) ++ (.s (ps (l.getD m ([], [])).2) :: List.drop (m * 2 + 1 + 1) ((chg ps l m).flatMap pairCells)) = (chg ps l (m + 1)).flatMap pairCells := by
  rw [chg_succ h, chg_this h, List.flatMap_append, List.flatMap_append, List.flatMap_cons, List.flatMap_cons]
  have hl : (((l.take m).map (changeP ps)).flatMap pairCells).length = m * 2 := by
    rw [pair_flat_len, List.length_map, List.length_take]; omega
  generalize ((l.take m).map (changeP ps)).flatMap pairCells = A at hl
  generalize (l.drop (m + 1)).flatMap pairCells = B
  generalize l.getD m ([], []) = x at h2
  rw [List.take_append, List.drop_append, List.take_of_length_le (l := A) (by omega), List.drop_of_length_le (l := A) (by omega), hl]
  have e1 : m * 2 + 1 - m * 2 = 1 := by omega
  have e2 : m * 2 + 1 + 1 - m * 2 = 2 := by omega
  rw [e1, e2]
  simp [pairCells, changeP, h2]
theorem rep1 {α : Type} {x : List α} : (List.replicate 1 x).flatten = x := by simp
set_option maxHeartbeats 4000000 in
theorem ctr124 (l : List LOp) (fo fs : FuncId) (a1 b1 a2 b2 : List AV) (po ps : Str → Str) (hl : l.length ≤ 1000) (hlo : ∀ o ∈ l, OkO o) (hln : ∀ o ∈ l, o.args.length ≤ 1000000 ∧ o.pieces.length ≤ 1000000) (ha1 : persL a1 = true) (hb1 : persL b1 = true) (ha2 : persL a2 = true) (hb2 : persL b2 = true) (hwo : ∀ o ∈ l, Ctr Tryz.prog G0 fo (a1 ++ [.s o.name] ++ b1) (.s (po o.name))) (hws : ∀ o ∈ l, ∀ x ∈ o.sort :: (o.args ++ o.pieces.map (·.2)), Ctr Tryz.prog G0 fs (a2 ++ [.s x] ++ b2) (.s (ps x))): Ctr Tryz.prog G0 124 [avo l, .box [.fn fo a1 b1] 0, .box [.fn 123 [] []] 0, .box [.fn fs a2 b2] 0] (.own 7 ((l.map (changeO po ps)).flatMap opCells) l.length) := by
  refine sem_intro (rx := false) mixed Tryz.func124 rfl (by kernel_rfl) (by kernel_rfl) (ac := ?_) ?_ g0 ?_
  rotate_left
  · simp only [strip, stripOps, stripOp, hoist, List.filter_cons, List.filter_nil, List.nil_append, List.cons_append, isFree, anyPre, Region.binds, Bool.not_true, Bool.not_false, Bool.false_eq_true, if_true, if_false, Option.isNone_none, Option.isNone_some, Bool.true_and, Bool.false_and, List.map_nil, List.map_cons, List.isEmpty_nil, List.isEmpty_cons, List.append_nil]
    rfl
  · simp -implicitDefEqProofs (disch := omega) only [Tryz.f124, go_sem, List.replicate, ↓reduceIte, Nat.reduceAdd, Nat.reduceSub, Nat.reduceMul, Nat.reduceLeDiff, Nat.reduceLT, Nat.reduceEqDiff, Int.reduceNeg, Nat.reduceBEq]
    refine x_loopJ (fun (t : Nat × AV × List AObj) => [.k, .k, .k, .k, .k, .k, .v (t.2.1), .k, .j, .j, .j, .k, .k, .v (.i .i64 (t.1 : Nat)), .j, .j, .j, .j, .j, .j, .j, .j, .j, .j, .j, .j, .j, .j, .j, .j, .j, .j, .j, .j, .j, .j, .j, .j, .j, .j, .j, .j, .j, .j, .j, .j, .j, .j, .j, .j, .j, .j, .j, .j, .j, .j, .j, .j, .j, .j, .j, .k]) (fun t => t.2.2) (fun t => t.1 ≤ l.length ∧ OutIs 7 0 t.2.2 t.2.1 (((l.take t.1).map (changeO po ps)).flatMap opCells) t.1) (fun t => l.length - t.1) ((0, .e0, [])) ⟨Nat.zero_le _, outIs_e0⟩ rfl (by simp [Fits]) ?_
    rintro ⟨k, out, g⟩ j ⟨hk, ho⟩
    dsimp only at hk ho
    have o1 : k < l.length → OkO (l.getD k default) := fun h => hlo _ (mem_getD h)
    simp -implicitDefEqProofs (disch := omega) only [go_sem, ↓reduceIte, Nat.reduceAdd, Nat.reduceSub, Nat.reduceMul, Nat.reduceLeDiff, Nat.reduceLT, Nat.reduceEqDiff, Int.reduceNeg, Nat.reduceBEq]
    have hmk : k < l.length → l.getD k default ∈ l := fun h => mem_getD h
    (repeat' (first | refine g_true ?_ ?_ | refine g_false ?_ ?_ | refine cond_intro ?_ ?_ | (refine c_ctrE (ctr119 (l.getD k default) (o1 (by omega))) ?_ ?_; (focus (simp -implicitDefEqProofs (disch := omega) only [cloneAV, avs, avb, avi, avo, sigCells, opCells, pairCells, go_sem, ↓reduceIte, Nat.reduceAdd, Nat.reduceSub, Nat.reduceMul, Nat.reduceLeDiff, Nat.reduceLT, Nat.reduceEqDiff, Int.reduceNeg, Nat.reduceBEq]; done)); simp -implicitDefEqProofs (disch := omega) only [cloneAV, go_sem, ↓reduceIte, Nat.reduceAdd, Nat.reduceSub, Nat.reduceMul, Nat.reduceLeDiff, Nat.reduceLT, Nat.reduceEqDiff, Int.reduceNeg, Nat.reduceBEq]) | refine And.intro (by omega) ?_ | (intro hr; have hc := hr; (try simp only [decide_eq_true_eq, decide_eq_false_iff_not, Bool.not_eq_true', Bool.not_eq_false'] at hc); simp -implicitDefEqProofs (disch := omega) only [hr, cloneAV, go_sem, ↓reduceIte, Nat.reduceAdd, Nat.reduceSub, Nat.reduceMul, Nat.reduceLeDiff, Nat.reduceLT, Nat.reduceEqDiff, Int.reduceNeg, Nat.reduceBEq]; (try clear hr))))
    · have hmk := hmk (by omega)
      have hwk := hws _ hmk
      refine c_ctrE (hwo _ hmk) ?_ ?_
      · simp -implicitDefEqProofs (disch := omega) only [List.map_append, snapL ha1, snapL hb1, go_sem, ↓reduceIte, Nat.reduceAdd, Nat.reduceSub, Nat.reduceMul, Nat.reduceLeDiff, Nat.reduceLT, Nat.reduceEqDiff, Int.reduceNeg, Nat.reduceBEq]
      · simp -implicitDefEqProofs (disch := omega) only [go_sem, ↓reduceIte, Nat.reduceAdd, Nat.reduceSub, Nat.reduceMul, Nat.reduceLeDiff, Nat.reduceLT, Nat.reduceEqDiff, Int.reduceNeg, Nat.reduceBEq]
        refine c_ctrE (ctr123 (l.getD k default).args fs a2 b2 ps (hln _ hmk).1 ha2 hb2 (fun j hj => hwk _ (List.mem_cons_of_mem _ (List.mem_append_left _ (mem_getD hj))))) ?_ ?_
        · simp -implicitDefEqProofs (disch := omega) only [ha2, hb2, avs, go_sem, ↓reduceIte, Nat.reduceAdd, Nat.reduceSub, Nat.reduceMul, Nat.reduceLeDiff, Nat.reduceLT, Nat.reduceEqDiff, Int.reduceNeg, Nat.reduceBEq]
        · simp -implicitDefEqProofs (disch := omega) only [ha2, hb2, go_sem, ↓reduceIte, Nat.reduceAdd, Nat.reduceSub, Nat.reduceMul, Nat.reduceLeDiff, Nat.reduceLT, Nat.reduceEqDiff, Int.reduceNeg, Nat.reduceBEq]
          refine c_ctrE (hwk (l.getD k default).sort (List.mem_cons_self ..)) ?_ ?_
          · simp -implicitDefEqProofs (disch := omega) only [List.map_append, snapL ha2, snapL hb2, go_sem, ↓reduceIte, Nat.reduceAdd, Nat.reduceSub, Nat.reduceMul, Nat.reduceLeDiff, Nat.reduceLT, Nat.reduceEqDiff, Int.reduceNeg, Nat.reduceBEq]
          · simp -implicitDefEqProofs (disch := omega) only [go_sem, ↓reduceIte, Nat.reduceAdd, Nat.reduceSub, Nat.reduceMul, Nat.reduceLeDiff, Nat.reduceLT, Nat.reduceEqDiff, Int.reduceNeg, Nat.reduceBEq]
            refine x_loopJ (fun (t : Nat × List AObj) => [.k, .k, .k, .k, .k, .k, .k, .k, .k, .j, .j, .k, .k, .k, .k, .k, .k, .k, .k, .k, .k, .k, .k, .k, .k, .k, .k, .k, .k, .k, .k, .k, .k, .k, .k, .k, .k, .k, .v (.i .i64 (t.1 : Nat)), .j, .j, .j, .j, .j, .j, .j, .j, .j, .j, .j, .j, .j, .j, .j, .j, .j, .k, .k, .k, .k, .k, .k]) (fun t => g ++ (.box false [.s (po (l.getD k default).name), .hs (g.length + 4) 0 (l.getD k default).args.length false, .s (ps (l.getD k default).sort), .hs (g.length + 2) 0 (l.getD k default).pieces.length false, .i .i64 (l.getD k default).prec, .i .i64 (l.getD k default).assoc, .hs (g.length + 3) 0 (l.getD k default).strict.length false] :: .arr false 1 ((l.getD k default).args.map .s) :: .arr false 2 ((chg ps (l.getD k default).pieces t.1).flatMap pairCells) :: .arr false 1 ((l.getD k default).strict.map (.i .i64)) :: .arr false 1 (((l.getD k default).args.map ps).map .s) :: t.2)) (fun t => t.1 ≤ (l.getD k default).pieces.length) (fun t => (l.getD k default).pieces.length - t.1) ((0, [])) (Nat.zero_le _) rfl (by simp [Fits]) ?_
            rintro ⟨m, g2⟩ j hm
            dsimp only at hm
            have hcl := chg_len (ps := ps) (l := (l.getD k default).pieces) (m := m)
            have hpl := (hln _ hmk).2
            simp -implicitDefEqProofs (disch := omega) only [chg_len, go_sem, ↓reduceIte, Nat.reduceAdd, Nat.reduceSub, Nat.reduceMul, Nat.reduceLeDiff, Nat.reduceLT, Nat.reduceEqDiff, Int.reduceNeg, Nat.reduceBEq]
            (repeat' (first | refine g_true ?_ ?_ | refine g_false ?_ ?_ | refine cond_intro ?_ ?_ | refine And.intro (by omega) ?_ | (intro hr; have hc := hr; (try simp only [decide_eq_true_eq, decide_eq_false_iff_not, Bool.not_eq_true', Bool.not_eq_false'] at hc); simp -implicitDefEqProofs (disch := omega) only [hr, chg_len, go_sem, ↓reduceIte, Nat.reduceAdd, Nat.reduceSub, Nat.reduceMul, Nat.reduceLeDiff, Nat.reduceLT, Nat.reduceEqDiff, Int.reduceNeg, Nat.reduceBEq]; (try clear hr))))
            · have hlt : m < (l.getD k default).pieces.length := by omega
              rw [chg_get hlt] at hc ⊢
              have h2 : ¬ ((l.getD k default).pieces.getD m ([], [])).2 = [] := fun h => hc (by rw [h]; rfl)
              refine c_ctrE (hwk ((l.getD k default).pieces.getD m ([], [])).2 (List.mem_cons_of_mem _ (List.mem_append_right _ (List.mem_map_of_mem (mem_getD hlt))))) ?_ ?_
              · simp -implicitDefEqProofs (disch := omega) only [List.map_append, snapL ha2, snapL hb2, go_sem, ↓reduceIte, Nat.reduceAdd, Nat.reduceSub, Nat.reduceMul, Nat.reduceLeDiff, Nat.reduceLT, Nat.reduceEqDiff, Int.reduceNeg, Nat.reduceBEq]
              · simp -implicitDefEqProofs (disch := omega) only [chg_len, go_sem, ↓reduceIte, Nat.reduceAdd, Nat.reduceSub, Nat.reduceMul, Nat.reduceLeDiff, Nat.reduceLT, Nat.reduceEqDiff, Int.reduceNeg, Nat.reduceBEq]
                rw [chg_set hlt h2]
                exact ⟨⟨by omega, by omega⟩, by omega, (m + 1, _), by dsimp only; omega, by dsimp only; omega, rfl, by simp⟩
            · have hlt : m < (l.getD k default).pieces.length := by omega
              have h2 : ((l.getD k default).pieces.getD m ([], [])).2 = [] := by
                rw [chg_get hlt] at hc
                exact List.eq_nil_of_length_eq_zero hc
              rw [chg_same hlt h2]
              exact ⟨(m + 1, _), by dsimp only; omega, by dsimp only; omega, rfl, by simp⟩
            · rw [chg_all (by omega)]
              simp -implicitDefEqProofs (disch := omega) only [rep1, go_sem, ↓reduceIte, Nat.reduceAdd, Nat.reduceSub, Nat.reduceMul, Nat.reduceLeDiff, Nat.reduceLT, Nat.reduceEqDiff, Int.reduceNeg, Nat.reduceBEq]
              refine app_op (P := Tryz.prog) (o := changeO po ps (l.getD k default)) (a := g.length + 4) (p := g.length + 2) (st := g.length + 3) (la := (l.getD k default).args.length) (lp := (l.getD k default).pieces.length) (ls := (l.getD k default).strict.length) ho ?_ ?_ ?_ ?_ (by simp [changeO]) (by simp [changeO]) rfl ⟨by omega, by omega, by omega, by omega⟩ el24 zo33 sz33 by33 rfl ⟨by omega, by omega⟩ ?_
              · simp -implicitDefEqProofs (disch := omega) only [changeO, go_sem, ↓reduceIte, Nat.reduceAdd, Nat.reduceSub, Nat.reduceMul, Nat.reduceLeDiff, Nat.reduceLT, Nat.reduceEqDiff, Int.reduceNeg, Nat.reduceBEq]
              · simp -implicitDefEqProofs (disch := omega) only [changeO, go_sem, ↓reduceIte, Nat.reduceAdd, Nat.reduceSub, Nat.reduceMul, Nat.reduceLeDiff, Nat.reduceLT, Nat.reduceEqDiff, Int.reduceNeg, Nat.reduceBEq]
              · simp -implicitDefEqProofs (disch := omega) only [changeO, go_sem, ↓reduceIte, Nat.reduceAdd, Nat.reduceSub, Nat.reduceMul, Nat.reduceLeDiff, Nat.reduceLT, Nat.reduceEqDiff, Int.reduceNeg, Nat.reduceBEq]
              · simp -implicitDefEqProofs (disch := omega) only [changeO, go_sem, ↓reduceIte, Nat.reduceAdd, Nat.reduceSub, Nat.reduceMul, Nat.reduceLeDiff, Nat.reduceLT, Nat.reduceEqDiff, Int.reduceNeg, Nat.reduceBEq]
              · intro out' g' ho' _
                simp -implicitDefEqProofs (disch := omega) only [go_sem, ↓reduceIte, Nat.reduceAdd, Nat.reduceSub, Nat.reduceMul, Nat.reduceLeDiff, Nat.reduceLT, Nat.reduceEqDiff, Int.reduceNeg, Nat.reduceBEq]
                refine ⟨(k + 1, out', g'), ⟨by dsimp only; omega, ?_⟩, by dsimp only; omega, rfl, rfl, by simp⟩
                dsimp only
                rw [take_getD (d := default) (by omega), List.map_append, List.flatMap_append]
                simpa using ho'
    · have hk2 : k = l.length := by omega
      subst hk2
      rw [List.take_length] at ho
      exact fin_out (pre := []) ho persL_op
end Go.Proofs.YtadileniakikeaaGreatDoor
set_option maxRecDepth 100000
set_option linter.unusedSimpArgs false
set_option linter.unusedVariables false
namespace Go.Proofs.YtadileniakikeaaGreatDoor
open Go Go.Vo

def changeB (ps : Str → Str) (b : Str × Str) : Str × Str := (ps b.1, ps b.2)
def changeS (po ps : Str → Str) (s : LSig) : LSig := ⟨s.sorts.map ps, s.below.map (changeB ps), s.ops.map (changeO po ps), s.funs.map (changeO po ps), s.values.map ps⟩
/-- parts that are short -/
structure Short (s : LSig) : Prop where
  ops : ∀ o ∈ s.ops, o.args.length ≤ 1000000 ∧ o.pieces.length ≤ 1000000
  funs : ∀ o ∈ s.funs, o.args.length ≤ 1000000 ∧ o.pieces.length ≤ 1000000
/-- all names of sorts -/
def sortNames (s : LSig) : List Str := s.sorts ++ s.values ++ s.below.map (·.1) ++ s.below.map (·.2) ++ (s.ops ++ s.funs).flatMap fun o => o.sort :: (o.args ++ o.pieces.map (·.2))
theorem sn_sorts {s : LSig} {x : Str} (h : x ∈ s.sorts) : x ∈ sortNames s := by
  simp only [sortNames, List.mem_append]; exact .inl (.inl (.inl (.inl h)))
theorem sn_values {s : LSig} {x : Str} (h : x ∈ s.values) : x ∈ sortNames s := by
  simp only [sortNames, List.mem_append]; exact .inl (.inl (.inl (.inr h)))
theorem sn_low {s : LSig} {b : Str × Str} (h : b ∈ s.below) : b.1 ∈ sortNames s := by
  simp only [sortNames, List.mem_append]; exact .inl (.inl (.inr (List.mem_map_of_mem h)))
theorem sn_high {s : LSig} {b : Str × Str} (h : b ∈ s.below) : b.2 ∈ sortNames s := by
  simp only [sortNames, List.mem_append]; exact .inl (.inr (List.mem_map_of_mem h))
theorem sn_op {s : LSig} {o : LOp} {x : Str} (h : o ∈ s.ops ++ s.funs) (hx : x ∈ o.sort :: (o.args ++ o.pieces.map (·.2))) : x ∈ sortNames s := by
  simp only [sortNames, List.mem_append]; exact .inr (List.mem_flatMap.2 ⟨o, h, hx⟩)
theorem snap_hs {h : List AObj} {id n sz : Nat} {fz : Bool} {cells : List AV} (hid : h[id]? = some (.arr fz sz cells)) (hp : persL cells = true) (hl : cells.length = n * sz) : snap dep h (.hs id 0 n false) = .sl cells n := by
  simp only [snap_dep, pers, snapS, hid]
  simp [hp, hl, List.take_of_length_le]
theorem fin_sig {h : List AObj} {s' : LSig} {n0 n2 n3 n4 : Nat} {out : AV} (f0 : h[6]? = some (.arr false 1 (s'.sorts.map .s))) (f4 : h[7]? = some (.arr false 1 (s'.values.map .s))) (f2 : h[8]? = some (.arr false 7 (s'.ops.flatMap opCells))) (f3 : h[9]? = some (.arr false 7 (s'.funs.flatMap opCells)))
    (l0 : s'.sorts.length = n0) (l2 : s'.ops.length = n2) (l3 : s'.funs.length = n3) (l4 : s'.values.length = n4) (fo : (out = .e0 ∧ s'.below = []) ∨ ∃ i, out = .hs i 0 s'.below.length false ∧ h[i]? = some (.arr false 2 (s'.below.flatMap pairCells))) :
    Fin h (.agg [.hs 6 0 n0 false, out, .hs 8 0 n2 false, .hs 9 0 n3 false, .hs 7 0 n4 false]) (.agg (sigCells s')) := by
  subst l0 l2 l3 l4
  have e0 := (snap_hs (n := s'.sorts.length) f0 persL_s (by simp)).symm
  have e4 := (snap_hs (n := s'.values.length) f4 persL_s (by simp)).symm
  have e2 := (snap_hs (n := s'.ops.length) f2 persL_op op_flat_len).symm
  have e3 := (snap_hs (n := s'.funs.length) f3 persL_op op_flat_len).symm
  rcases fo with ⟨rfl, hb⟩ | ⟨i, rfl, f1⟩
  · refine .inr ⟨⟨e0, ?_, e2, e3, e4, trivial⟩, by simp [sigCells, avs, avb, avo, finIds, finIdsL], by simp [sigCells, avs, avb, avo, finIds, finIdsL]⟩
    rw [hb]; rfl
  · have e1 := (snap_hs (n := s'.below.length) f1 persL_pair pair_flat_len).symm
    exact .inr ⟨⟨e0, e1, e2, e3, e4, trivial⟩, by simp [sigCells, avs, avb, avo, finIds, finIdsL], by simp [sigCells, avs, avb, avo, finIds, finIdsL]⟩
set_option maxHeartbeats 4000000 in
theorem ctr81 (s : LSig) (fo fs : FuncId) (a1 b1 a2 b2 : List AV) (po ps : Str → Str) (hm : Small s) (hs : OkS s) (hh : Short s) (ha1 : persL a1 = true) (hb1 : persL b1 = true) (ha2 : persL a2 = true) (hb2 : persL b2 = true) (hwo : ∀ o ∈ s.ops ++ s.funs, Ctr Tryz.prog G0 fo (a1 ++ [.s o.name] ++ b1) (.s (po o.name))) (hws : ∀ x ∈ sortNames s, Ctr Tryz.prog G0 fs (a2 ++ [.s x] ++ b2) (.s (ps x))): Ctr Tryz.prog G0 81 [.agg (sigCells s), .fn fs a2 b2, .fn fo a1 b1] (.agg (sigCells (changeS po ps s))) := by
  refine sem_intro (rx := false) mixed Tryz.func81 rfl (by kernel_rfl) (by kernel_rfl) (ac := ?_) ?_ g0 ?_
  rotate_left
  · simp only [strip, stripOps, stripOp, hoist, List.filter_cons, List.filter_nil, List.nil_append, List.cons_append, isFree, anyPre, Region.binds, Bool.not_true, Bool.not_false, Bool.false_eq_true, if_true, if_false, Option.isNone_none, Option.isNone_some, Bool.true_and, Bool.false_and, List.map_nil, List.map_cons, List.isEmpty_nil, List.isEmpty_cons, List.append_nil]
    rfl
  · simp -implicitDefEqProofs (disch := omega) only [Tryz.f81, go_sem, List.replicate, ↓reduceIte, Nat.reduceAdd, Nat.reduceSub, Nat.reduceMul, Nat.reduceLeDiff, Nat.reduceLT, Nat.reduceEqDiff, Int.reduceNeg, Nat.reduceBEq]
    have h1 := hm.sorts
    have h2 := hm.below
    have h3 := hm.ops
    have h4 := hm.funs
    have h5 := hm.values
    have c1 := ctr123 s.sorts fs a2 b2 ps (by omega) ha2 hb2 (fun k hk => hws _ (sn_sorts (mem_getD hk)))
    have c2 := ctr123 s.values fs a2 b2 ps (by omega) ha2 hb2 (fun k hk => hws _ (sn_values (mem_getD hk)))
    have c3 := ctr124 s.ops fo fs a1 b1 a2 b2 po ps h3 hs.opsO hh.ops ha1 hb1 ha2 hb2 (fun o ho => hwo o (List.mem_append_left _ ho)) (fun o ho x hx => hws x (sn_op (List.mem_append_left _ ho) hx))
    have c4 := ctr124 s.funs fo fs a1 b1 a2 b2 po ps h4 hs.funsO hh.funs ha1 hb1 ha2 hb2 (fun o ho => hwo o (List.mem_append_right _ ho)) (fun o ho x hx => hws x (sn_op (List.mem_append_right _ ho) hx))
    rcases Bool.eq_false_or_eq_true (flatL ((s.ops.map (changeO po ps)).flatMap opCells)) with hf1 | hf1
    all_goals rcases Bool.eq_false_or_eq_true (flatL ((s.funs.map (changeO po ps)).flatMap opCells)) with hf2 | hf2
    all_goals (repeat' (first | refine g_true ?_ ?_ | refine g_false ?_ ?_ | refine cond_intro ?_ ?_ | (refine c_ctrE (c1) ?_ ?_; (focus (simp -implicitDefEqProofs (disch := omega) only [ha1, hb1, ha2, hb2, hf1, hf2, avs, avb, avi, avo, sigCells, opCells, pairCells, go_sem, ↓reduceIte, Nat.reduceAdd, Nat.reduceSub, Nat.reduceMul, Nat.reduceLeDiff, Nat.reduceLT, Nat.reduceEqDiff, Int.reduceNeg, Nat.reduceBEq]; done)); simp -implicitDefEqProofs (disch := omega) only [ha1, hb1, ha2, hb2, hf1, hf2, go_sem, ↓reduceIte, Nat.reduceAdd, Nat.reduceSub, Nat.reduceMul, Nat.reduceLeDiff, Nat.reduceLT, Nat.reduceEqDiff, Int.reduceNeg, Nat.reduceBEq]) | (refine c_ctrE (c2) ?_ ?_; (focus (simp -implicitDefEqProofs (disch := omega) only [ha1, hb1, ha2, hb2, hf1, hf2, avs, avb, avi, avo, sigCells, opCells, pairCells, go_sem, ↓reduceIte, Nat.reduceAdd, Nat.reduceSub, Nat.reduceMul, Nat.reduceLeDiff, Nat.reduceLT, Nat.reduceEqDiff, Int.reduceNeg, Nat.reduceBEq]; done)); simp -implicitDefEqProofs (disch := omega) only [ha1, hb1, ha2, hb2, hf1, hf2, go_sem, ↓reduceIte, Nat.reduceAdd, Nat.reduceSub, Nat.reduceMul, Nat.reduceLeDiff, Nat.reduceLT, Nat.reduceEqDiff, Int.reduceNeg, Nat.reduceBEq]) | (refine c_ctrE (c3) ?_ ?_; (focus (simp -implicitDefEqProofs (disch := omega) only [ha1, hb1, ha2, hb2, hf1, hf2, avs, avb, avi, avo, sigCells, opCells, pairCells, go_sem, ↓reduceIte, Nat.reduceAdd, Nat.reduceSub, Nat.reduceMul, Nat.reduceLeDiff, Nat.reduceLT, Nat.reduceEqDiff, Int.reduceNeg, Nat.reduceBEq]; done)); simp -implicitDefEqProofs (disch := omega) only [ha1, hb1, ha2, hb2, hf1, hf2, go_sem, ↓reduceIte, Nat.reduceAdd, Nat.reduceSub, Nat.reduceMul, Nat.reduceLeDiff, Nat.reduceLT, Nat.reduceEqDiff, Int.reduceNeg, Nat.reduceBEq]) | (refine c_ctrE (c4) ?_ ?_; (focus (simp -implicitDefEqProofs (disch := omega) only [ha1, hb1, ha2, hb2, hf1, hf2, avs, avb, avi, avo, sigCells, opCells, pairCells, go_sem, ↓reduceIte, Nat.reduceAdd, Nat.reduceSub, Nat.reduceMul, Nat.reduceLeDiff, Nat.reduceLT, Nat.reduceEqDiff, Int.reduceNeg, Nat.reduceBEq]; done)); simp -implicitDefEqProofs (disch := omega) only [ha1, hb1, ha2, hb2, hf1, hf2, go_sem, ↓reduceIte, Nat.reduceAdd, Nat.reduceSub, Nat.reduceMul, Nat.reduceLeDiff, Nat.reduceLT, Nat.reduceEqDiff, Int.reduceNeg, Nat.reduceBEq]) | refine And.intro (by omega) ?_ | (intro hr; have hc := hr; (try simp only [decide_eq_true_eq, decide_eq_false_iff_not, Bool.not_eq_true', Bool.not_eq_false'] at hc); simp -implicitDefEqProofs (disch := omega) only [hr, ha1, hb1, ha2, hb2, hf1, hf2, go_sem, ↓reduceIte, Nat.reduceAdd, Nat.reduceSub, Nat.reduceMul, Nat.reduceLeDiff, Nat.reduceLT, Nat.reduceEqDiff, Int.reduceNeg, Nat.reduceBEq]; (try clear hr))))
    all_goals first
      | refine x_loopJ (fun (t : Nat × AV × List AObj) => [.k, .k, .k, .k, .k, .k, .k, .k, .k, .k, .k, .j, .k, .k, .k, .k, .k, .k, .k, .k, .k, .k, .k, .k, .k, .k, .k, .k, .k, .k, .k, .k, .k, .k, .k, .v (.i .i64 (t.1 : Nat)), .j, .j, .j, .j, .j, .j, .j, .j, .j, .j, .j, .j, .j, .j, .j, .j, .j, .j, .k]) (fun t => .box false [.sl (s.sorts.map .s) s.sorts.length, .sl (s.below.flatMap pairCells) s.below.length, .sl (s.ops.flatMap opCells) s.ops.length, .sl (s.funs.flatMap opCells) s.funs.length, .sl (s.values.map .s) s.values.length] :: .box true [.fn fs a2 b2] :: .box true [.fn fo a1 b1] :: .box false [.e0, .e0, .e0, .e0, .e0] :: .box true [.fn 123 [] []] :: .box false [.hs 6 0 s.sorts.length false, t.2.1, .hs 8 0 s.ops.length false, .hs 9 0 s.funs.length false, .hs 7 0 s.values.length false] :: .arr false 1 ((s.sorts.map ps).map .s) :: .arr false 1 ((s.values.map ps).map .s) :: .arr false 7 ((s.ops.map (changeO po ps)).flatMap opCells) :: .arr false 7 ((s.funs.map (changeO po ps)).flatMap opCells) :: t.2.2) (fun t => t.1 ≤ s.below.length ∧ OutIs 2 10 t.2.2 t.2.1 (((s.below.take t.1).map (changeB ps)).flatMap pairCells) t.1) (fun t => s.below.length - t.1) ((0, .e0, [])) ⟨Nat.zero_le _, outIs_e0⟩ rfl (by simp [Fits]) ?_
      | refine x_loopJ (fun (t : Nat × AV × List AObj) => [.k, .k, .k, .k, .k, .k, .k, .k, .k, .k, .k, .j, .k, .k, .k, .k, .k, .k, .k, .k, .k, .k, .k, .k, .k, .k, .k, .k, .k, .k, .k, .k, .k, .k, .k, .v (.i .i64 (t.1 : Nat)), .j, .j, .j, .j, .j, .j, .j, .j, .j, .j, .j, .j, .j, .j, .j, .j, .j, .j, .k]) (fun t => .box false [.sl (s.sorts.map .s) s.sorts.length, .sl (s.below.flatMap pairCells) s.below.length, .sl (s.ops.flatMap opCells) s.ops.length, .sl (s.funs.flatMap opCells) s.funs.length, .sl (s.values.map .s) s.values.length] :: .box false [.fn fs a2 b2] :: .box false [.fn fo a1 b1] :: .box false [.e0, .e0, .e0, .e0, .e0] :: .box false [.fn 123 [] []] :: .box false [.hs 6 0 s.sorts.length false, t.2.1, .hs 8 0 s.ops.length false, .hs 9 0 s.funs.length false, .hs 7 0 s.values.length false] :: .arr false 1 ((s.sorts.map ps).map .s) :: .arr false 1 ((s.values.map ps).map .s) :: .arr false 7 ((s.ops.map (changeO po ps)).flatMap opCells) :: .arr false 7 ((s.funs.map (changeO po ps)).flatMap opCells) :: t.2.2) (fun t => t.1 ≤ s.below.length ∧ OutIs 2 10 t.2.2 t.2.1 (((s.below.take t.1).map (changeB ps)).flatMap pairCells) t.1) (fun t => s.below.length - t.1) ((0, .e0, [])) ⟨Nat.zero_le _, outIs_e0⟩ rfl (by simp [Fits]) ?_
    all_goals rintro ⟨k, out, g⟩ j ⟨hk, ho⟩
    all_goals dsimp only at hk ho
    all_goals have hbm : k < s.below.length → s.below.getD k ([], []) ∈ s.below := fun h => mem_getD h
    all_goals simp -implicitDefEqProofs (disch := omega) only [go_sem, ↓reduceIte, Nat.reduceAdd, Nat.reduceSub, Nat.reduceMul, Nat.reduceLeDiff, Nat.reduceLT, Nat.reduceEqDiff, Int.reduceNeg, Nat.reduceBEq]
    all_goals (repeat' (first | refine g_true ?_ ?_ | refine g_false ?_ ?_ | refine cond_intro ?_ ?_ | refine And.intro (by omega) ?_ | (intro hr; have hc := hr; (try simp only [decide_eq_true_eq, decide_eq_false_iff_not, Bool.not_eq_true', Bool.not_eq_false'] at hc); simp -implicitDefEqProofs (disch := omega) only [hr, go_sem, ↓reduceIte, Nat.reduceAdd, Nat.reduceSub, Nat.reduceMul, Nat.reduceLeDiff, Nat.reduceLT, Nat.reduceEqDiff, Int.reduceNeg, Nat.reduceBEq]; (try clear hr))))
    · have hlt : k < s.below.length := by omega
      have hbm := hbm hlt
      refine c_ctrE (hws _ (sn_low hbm)) ?_ ?_
      · simp -implicitDefEqProofs (disch := omega) only [List.map_append, snapL ha2, snapL hb2, go_sem, ↓reduceIte, Nat.reduceAdd, Nat.reduceSub, Nat.reduceMul, Nat.reduceLeDiff, Nat.reduceLT, Nat.reduceEqDiff, Int.reduceNeg, Nat.reduceBEq]
      · simp -implicitDefEqProofs (disch := omega) only [go_sem, ↓reduceIte, Nat.reduceAdd, Nat.reduceSub, Nat.reduceMul, Nat.reduceLeDiff, Nat.reduceLT, Nat.reduceEqDiff, Int.reduceNeg, Nat.reduceBEq]
        refine c_ctrE (hws _ (sn_high hbm)) ?_ ?_
        · simp -implicitDefEqProofs (disch := omega) only [List.map_append, snapL ha2, snapL hb2, go_sem, ↓reduceIte, Nat.reduceAdd, Nat.reduceSub, Nat.reduceMul, Nat.reduceLeDiff, Nat.reduceLT, Nat.reduceEqDiff, Int.reduceNeg, Nat.reduceBEq]
        · simp -implicitDefEqProofs (disch := omega) only [rep1, go_sem, ↓reduceIte, Nat.reduceAdd, Nat.reduceSub, Nat.reduceMul, Nat.reduceLeDiff, Nat.reduceLT, Nat.reduceEqDiff, Int.reduceNeg, Nat.reduceBEq]
          refine app_intro' (pre := [_, _, _, _, _, _, _, _, _, _]) (news := [.s (ps (s.below.getD k ([], [])).1), .s (ps (s.below.getD k ([], [])).2)]) (m := 1) ho rfl rfl el23 zo57 sz57 by57 rfl (by decide) (by simp -implicitDefEqProofs (disch := omega) only [go_sem, ↓reduceIte, Nat.reduceAdd, Nat.reduceSub, Nat.reduceMul, Nat.reduceLeDiff, Nat.reduceLT, Nat.reduceEqDiff, Int.reduceNeg, Nat.reduceBEq]) (by simp -implicitDefEqProofs (disch := omega) only [go_sem, ↓reduceIte, Nat.reduceAdd, Nat.reduceSub, Nat.reduceMul, Nat.reduceLeDiff, Nat.reduceLT, Nat.reduceEqDiff, Int.reduceNeg, Nat.reduceBEq]) ⟨by omega, by omega⟩ ?_
          intro out' g' ho' _
          have ho2 := ho'
          rcases ho' with ⟨rfl, hn, _⟩ | ⟨i, rfl, _, _⟩
          · exfalso; simp at hn
          · simp -implicitDefEqProofs (disch := omega) only [go_sem, ↓reduceIte, Nat.reduceAdd, Nat.reduceSub, Nat.reduceMul, Nat.reduceLeDiff, Nat.reduceLT, Nat.reduceEqDiff, Int.reduceNeg, Nat.reduceBEq]
            refine ⟨(k + 1, _, g'), ⟨by dsimp only; omega, ?_⟩, by dsimp only; omega, rfl, by simp⟩
            dsimp only
            rw [take_getD (d := ([], [])) (by omega), List.map_append, List.flatMap_append]
            exact ho2
    · have hk2 : k = s.below.length := by omega
      subst hk2
      rw [List.take_length] at ho
      refine fin_sig (s' := changeS po ps s) rfl rfl rfl rfl (by simp [changeS]) (by simp [changeS]) (by simp [changeS]) (by simp [changeS]) ?_
      rcases ho with ⟨rfl, _, h0⟩ | ⟨i, rfl, hg, hl⟩
      · have hb0 : s.below = [] := List.eq_nil_of_length_eq_zero h0
        exact .inl ⟨rfl, by simp [changeS, hb0]⟩
      · exact .inr ⟨i + 10, by simp [changeS], hg⟩
    · have hlt : k < s.below.length := by omega
      have hbm := hbm hlt
      refine c_ctrE (hws _ (sn_low hbm)) ?_ ?_
      · simp -implicitDefEqProofs (disch := omega) only [List.map_append, snapL ha2, snapL hb2, go_sem, ↓reduceIte, Nat.reduceAdd, Nat.reduceSub, Nat.reduceMul, Nat.reduceLeDiff, Nat.reduceLT, Nat.reduceEqDiff, Int.reduceNeg, Nat.reduceBEq]
      · simp -implicitDefEqProofs (disch := omega) only [go_sem, ↓reduceIte, Nat.reduceAdd, Nat.reduceSub, Nat.reduceMul, Nat.reduceLeDiff, Nat.reduceLT, Nat.reduceEqDiff, Int.reduceNeg, Nat.reduceBEq]
        refine c_ctrE (hws _ (sn_high hbm)) ?_ ?_
        · simp -implicitDefEqProofs (disch := omega) only [List.map_append, snapL ha2, snapL hb2, go_sem, ↓reduceIte, Nat.reduceAdd, Nat.reduceSub, Nat.reduceMul, Nat.reduceLeDiff, Nat.reduceLT, Nat.reduceEqDiff, Int.reduceNeg, Nat.reduceBEq]
        · simp -implicitDefEqProofs (disch := omega) only [rep1, go_sem, ↓reduceIte, Nat.reduceAdd, Nat.reduceSub, Nat.reduceMul, Nat.reduceLeDiff, Nat.reduceLT, Nat.reduceEqDiff, Int.reduceNeg, Nat.reduceBEq]
          refine app_intro' (pre := [_, _, _, _, _, _, _, _, _, _]) (news := [.s (ps (s.below.getD k ([], [])).1), .s (ps (s.below.getD k ([], [])).2)]) (m := 1) ho rfl rfl el23 zo57 sz57 by57 rfl (by decide) (by simp -implicitDefEqProofs (disch := omega) only [go_sem, ↓reduceIte, Nat.reduceAdd, Nat.reduceSub, Nat.reduceMul, Nat.reduceLeDiff, Nat.reduceLT, Nat.reduceEqDiff, Int.reduceNeg, Nat.reduceBEq]) (by simp -implicitDefEqProofs (disch := omega) only [go_sem, ↓reduceIte, Nat.reduceAdd, Nat.reduceSub, Nat.reduceMul, Nat.reduceLeDiff, Nat.reduceLT, Nat.reduceEqDiff, Int.reduceNeg, Nat.reduceBEq]) ⟨by omega, by omega⟩ ?_
          intro out' g' ho' _
          have ho2 := ho'
          rcases ho' with ⟨rfl, hn, _⟩ | ⟨i, rfl, _, _⟩
          · exfalso; simp at hn
          · simp -implicitDefEqProofs (disch := omega) only [go_sem, ↓reduceIte, Nat.reduceAdd, Nat.reduceSub, Nat.reduceMul, Nat.reduceLeDiff, Nat.reduceLT, Nat.reduceEqDiff, Int.reduceNeg, Nat.reduceBEq]
            refine ⟨(k + 1, _, g'), ⟨by dsimp only; omega, ?_⟩, by dsimp only; omega, rfl, by simp⟩
            dsimp only
            rw [take_getD (d := ([], [])) (by omega), List.map_append, List.flatMap_append]
            exact ho2
    · have hk2 : k = s.below.length := by omega
      subst hk2
      rw [List.take_length] at ho
      refine fin_sig (s' := changeS po ps s) rfl rfl rfl rfl (by simp [changeS]) (by simp [changeS]) (by simp [changeS]) (by simp [changeS]) ?_
      rcases ho with ⟨rfl, _, h0⟩ | ⟨i, rfl, hg, hl⟩
      · have hb0 : s.below = [] := List.eq_nil_of_length_eq_zero h0
        exact .inl ⟨rfl, by simp [changeS, hb0]⟩
      · exact .inr ⟨i + 10, by simp [changeS], hg⟩
    · have hlt : k < s.below.length := by omega
      have hbm := hbm hlt
      refine c_ctrE (hws _ (sn_low hbm)) ?_ ?_
      · simp -implicitDefEqProofs (disch := omega) only [List.map_append, snapL ha2, snapL hb2, go_sem, ↓reduceIte, Nat.reduceAdd, Nat.reduceSub, Nat.reduceMul, Nat.reduceLeDiff, Nat.reduceLT, Nat.reduceEqDiff, Int.reduceNeg, Nat.reduceBEq]
      · simp -implicitDefEqProofs (disch := omega) only [go_sem, ↓reduceIte, Nat.reduceAdd, Nat.reduceSub, Nat.reduceMul, Nat.reduceLeDiff, Nat.reduceLT, Nat.reduceEqDiff, Int.reduceNeg, Nat.reduceBEq]
        refine c_ctrE (hws _ (sn_high hbm)) ?_ ?_
        · simp -implicitDefEqProofs (disch := omega) only [List.map_append, snapL ha2, snapL hb2, go_sem, ↓reduceIte, Nat.reduceAdd, Nat.reduceSub, Nat.reduceMul, Nat.reduceLeDiff, Nat.reduceLT, Nat.reduceEqDiff, Int.reduceNeg, Nat.reduceBEq]
        · simp -implicitDefEqProofs (disch := omega) only [rep1, go_sem, ↓reduceIte, Nat.reduceAdd, Nat.reduceSub, Nat.reduceMul, Nat.reduceLeDiff, Nat.reduceLT, Nat.reduceEqDiff, Int.reduceNeg, Nat.reduceBEq]
          refine app_intro' (pre := [_, _, _, _, _, _, _, _, _, _]) (news := [.s (ps (s.below.getD k ([], [])).1), .s (ps (s.below.getD k ([], [])).2)]) (m := 1) ho rfl rfl el23 zo57 sz57 by57 rfl (by decide) (by simp -implicitDefEqProofs (disch := omega) only [go_sem, ↓reduceIte, Nat.reduceAdd, Nat.reduceSub, Nat.reduceMul, Nat.reduceLeDiff, Nat.reduceLT, Nat.reduceEqDiff, Int.reduceNeg, Nat.reduceBEq]) (by simp -implicitDefEqProofs (disch := omega) only [go_sem, ↓reduceIte, Nat.reduceAdd, Nat.reduceSub, Nat.reduceMul, Nat.reduceLeDiff, Nat.reduceLT, Nat.reduceEqDiff, Int.reduceNeg, Nat.reduceBEq]) ⟨by omega, by omega⟩ ?_
          intro out' g' ho' _
          have ho2 := ho'
          rcases ho' with ⟨rfl, hn, _⟩ | ⟨i, rfl, _, _⟩
          · exfalso; simp at hn
          · simp -implicitDefEqProofs (disch := omega) only [go_sem, ↓reduceIte, Nat.reduceAdd, Nat.reduceSub, Nat.reduceMul, Nat.reduceLeDiff, Nat.reduceLT, Nat.reduceEqDiff, Int.reduceNeg, Nat.reduceBEq]
            refine ⟨(k + 1, _, g'), ⟨by dsimp only; omega, ?_⟩, by dsimp only; omega, rfl, by simp⟩
            dsimp only
            rw [take_getD (d := ([], [])) (by omega), List.map_append, List.flatMap_append]
            exact ho2
    · have hk2 : k = s.below.length := by omega
      subst hk2
      rw [List.take_length] at ho
      refine fin_sig (s' := changeS po ps s) rfl rfl rfl rfl (by simp [changeS]) (by simp [changeS]) (by simp [changeS]) (by simp [changeS]) ?_
      rcases ho with ⟨rfl, _, h0⟩ | ⟨i, rfl, hg, hl⟩
      · have hb0 : s.below = [] := List.eq_nil_of_length_eq_zero h0
        exact .inl ⟨rfl, by simp [changeS, hb0]⟩
      · exact .inr ⟨i + 10, by simp [changeS], hg⟩
    · have hlt : k < s.below.length := by omega
      have hbm := hbm hlt
      refine c_ctrE (hws _ (sn_low hbm)) ?_ ?_
      · simp -implicitDefEqProofs (disch := omega) only [List.map_append, snapL ha2, snapL hb2, go_sem, ↓reduceIte, Nat.reduceAdd, Nat.reduceSub, Nat.reduceMul, Nat.reduceLeDiff, Nat.reduceLT, Nat.reduceEqDiff, Int.reduceNeg, Nat.reduceBEq]
      · simp -implicitDefEqProofs (disch := omega) only [go_sem, ↓reduceIte, Nat.reduceAdd, Nat.reduceSub, Nat.reduceMul, Nat.reduceLeDiff, Nat.reduceLT, Nat.reduceEqDiff, Int.reduceNeg, Nat.reduceBEq]
        refine c_ctrE (hws _ (sn_high hbm)) ?_ ?_
        · simp -implicitDefEqProofs (disch := omega) only [List.map_append, snapL ha2, snapL hb2, go_sem, ↓reduceIte, Nat.reduceAdd, Nat.reduceSub, Nat.reduceMul, Nat.reduceLeDiff, Nat.reduceLT, Nat.reduceEqDiff, Int.reduceNeg, Nat.reduceBEq]
        · simp -implicitDefEqProofs (disch := omega) only [rep1, go_sem, ↓reduceIte, Nat.reduceAdd, Nat.reduceSub, Nat.reduceMul, Nat.reduceLeDiff, Nat.reduceLT, Nat.reduceEqDiff, Int.reduceNeg, Nat.reduceBEq]
          refine app_intro' (pre := [_, _, _, _, _, _, _, _, _, _]) (news := [.s (ps (s.below.getD k ([], [])).1), .s (ps (s.below.getD k ([], [])).2)]) (m := 1) ho rfl rfl el23 zo57 sz57 by57 rfl (by decide) (by simp -implicitDefEqProofs (disch := omega) only [go_sem, ↓reduceIte, Nat.reduceAdd, Nat.reduceSub, Nat.reduceMul, Nat.reduceLeDiff, Nat.reduceLT, Nat.reduceEqDiff, Int.reduceNeg, Nat.reduceBEq]) (by simp -implicitDefEqProofs (disch := omega) only [go_sem, ↓reduceIte, Nat.reduceAdd, Nat.reduceSub, Nat.reduceMul, Nat.reduceLeDiff, Nat.reduceLT, Nat.reduceEqDiff, Int.reduceNeg, Nat.reduceBEq]) ⟨by omega, by omega⟩ ?_
          intro out' g' ho' _
          have ho2 := ho'
          rcases ho' with ⟨rfl, hn, _⟩ | ⟨i, rfl, _, _⟩
          · exfalso; simp at hn
          · simp -implicitDefEqProofs (disch := omega) only [go_sem, ↓reduceIte, Nat.reduceAdd, Nat.reduceSub, Nat.reduceMul, Nat.reduceLeDiff, Nat.reduceLT, Nat.reduceEqDiff, Int.reduceNeg, Nat.reduceBEq]
            refine ⟨(k + 1, _, g'), ⟨by dsimp only; omega, ?_⟩, by dsimp only; omega, rfl, by simp⟩
            dsimp only
            rw [take_getD (d := ([], [])) (by omega), List.map_append, List.flatMap_append]
            exact ho2
    · have hk2 : k = s.below.length := by omega
      subst hk2
      rw [List.take_length] at ho
      refine fin_sig (s' := changeS po ps s) rfl rfl rfl rfl (by simp [changeS]) (by simp [changeS]) (by simp [changeS]) (by simp [changeS]) ?_
      rcases ho with ⟨rfl, _, h0⟩ | ⟨i, rfl, hg, hl⟩
      · have hb0 : s.below = [] := List.eq_nil_of_length_eq_zero h0
        exact .inl ⟨rfl, by simp [changeS, hb0]⟩
      · exact .inr ⟨i + 10, by simp [changeS], hg⟩
end Go.Proofs.YtadileniakikeaaGreatDoor
set_option maxRecDepth 100000
set_option linter.unusedSimpArgs false
set_option linter.unusedVariables false
namespace Go.Proofs.YtadileniakikeaaGreatDoor
open Go Go.Vo

/-- the signature with two names exchanged -/
def renamed (s : LSig) (a b : Str) : LSig := changeS (fun x => swapOp x a b) (sortSw s a b) s
def sigZ : LSig := ⟨[], [], [], [], []⟩
def renameR (s : LSig) (a b : Str) : AV := if validB s && isName a && isName b then (if validB (renamed s a b) then .tup [.agg (sigCells (renamed s a b)), .i .i64 0] else .tup [.agg (sigCells sigZ), .i .i64 14]) else .tup [.agg (sigCells sigZ), .i .i64 2]
theorem name_len {s : Str} (h : isName s = true) : s.length ≤ 40 := by
  simp only [isName, Bool.and_eq_true, decide_eq_true_eq] at h
  omega
theorem swap_len {s a b : Str} {n : Nat} (hs : s.length ≤ n) (ha : a.length ≤ n) (hb : b.length ≤ n) : (swap s a b).length ≤ n := by
  unfold swap
  split
  · exact hb
  · split
    · exact ha
    · exact hs
theorem sortSw_len {s : LSig} {a b x : Str} {n : Nat} (hs : x.length ≤ n) (ha : a.length ≤ n) (hb : b.length ≤ n) : (sortSw s a b x).length ≤ n := by
  unfold sortSw
  split
  · exact swap_len hs ha hb
  · exact hs
theorem swapOp_len' {s a b : Str} (hs : s.length ≤ 140737488355328) (ha : a.length ≤ 1000) (hb : b.length ≤ 1000) : (swapOp s a b).length ≤ 140737488355328 := by
  unfold swapOp
  rw [List.length_append]
  exact swapOp_len hs ha hb
theorem changeO_ok {s : LSig} {a b : Str} {o : LOp} (h : OkO o) (ha : a.length ≤ 1000) (hb : b.length ≤ 1000) : OkO (changeO (fun x => swapOp x a b) (sortSw s a b) o) := by
  refine ⟨swapOp_len' h.name ha hb, by simpa [changeO] using h.args, ?_, sortSw_len h.sort (by omega) (by omega), by simpa [changeO] using h.pieces, ?_, h.strict, by simpa [changeO] using h.piecesT, by simpa [changeO] using h.argsT, h.strictT⟩
  · intro x hx
    obtain ⟨y, hy, rfl⟩ := List.mem_map.1 hx
    exact sortSw_len (h.argsS y hy) (by omega) (by omega)
  · intro x hx
    obtain ⟨y, hy, rfl⟩ := List.mem_map.1 hx
    refine ⟨(h.piecesS y hy).1, ?_⟩
    unfold changeP
    simp only
    split
    · simp
    · exact sortSw_len (h.piecesS y hy).2 (by omega) (by omega)
theorem renamed_ok {s : LSig} {a b : Str} (h : OkS s) (ha : a.length ≤ 1000) (hb : b.length ≤ 1000) : OkS (renamed s a b) := by
  refine ⟨by simpa [renamed, changeS] using h.sorts, ?_, by simpa [renamed, changeS] using h.below, ?_, by simpa [renamed, changeS] using h.ops, ?_, by simpa [renamed, changeS] using h.funs, ?_, by simpa [renamed, changeS] using h.values, by simpa [renamed, changeS] using h.opsT, by simpa [renamed, changeS] using h.funsT, ?_⟩
  · intro x hx
    obtain ⟨y, hy, rfl⟩ := List.mem_map.1 hx
    exact sortSw_len (h.sortsS y hy) (by omega) (by omega)
  · intro x hx
    obtain ⟨y, hy, rfl⟩ := List.mem_map.1 hx
    exact ⟨sortSw_len (h.belowS y hy).1 (by omega) (by omega), sortSw_len (h.belowS y hy).2 (by omega) (by omega)⟩
  · intro x hx
    obtain ⟨y, hy, rfl⟩ := List.mem_map.1 hx
    exact changeO_ok (h.opsO y hy) ha hb
  · intro x hx
    obtain ⟨y, hy, rfl⟩ := List.mem_map.1 hx
    exact changeO_ok (h.funsO y hy) ha hb
  · intro x hx
    obtain ⟨y, hy, rfl⟩ := List.mem_map.1 hx
    exact sortSw_len (h.valuesS y hy) (by omega) (by omega)
theorem renamed_small {s : LSig} {a b : Str} (h : Small s) : Small (renamed s a b) :=
  ⟨by simpa [renamed, changeS] using h.sorts, by simpa [renamed, changeS] using h.below, by simpa [renamed, changeS] using h.ops, by simpa [renamed, changeS] using h.funs, by simpa [renamed, changeS] using h.values⟩
theorem persL_sig {s : LSig} : persL (sigCells s) = true := by
  simp only [sigCells, persL, persL_avs, avb, avo, pers, persL_pair, persL_op, Bool.and_self]
theorem ctr81r (s : LSig) (a b : Str) (hm : Small s) (hs : OkS s) (hh : Short s) (ha : a.length ≤ 1000) (hb : b.length ≤ 1000) : Ctr Tryz.prog G0 81 [.agg (sigCells s), .fn 79 [] [.box (sigCells s) 0, .box [.s a] 0, .box [.s b] 0], .fn 82 [] [.box [.s a] 0, .box [.s b] 0]] (.agg (sigCells (renamed s a b))) := by
  refine ctr81 s 82 79 [] [.box [.s a] 0, .box [.s b] 0] [] [.box (sigCells s) 0, .box [.s a] 0, .box [.s b] 0] (fun x => swapOp x a b) (sortSw s a b) hm hs hh rfl rfl rfl ?_ (fun o ho => ?_) (fun x hx => ?_)
  · simp only [persL, pers, persL_sig, Bool.and_self]
  · refine ctr82 o.name a b ?_ ha hb
    rcases List.mem_append.1 ho with h | h
    · exact (hs.opsO o h).name
    · exact (hs.funsO o h).name
  · exact ctr79 s x a b hs.sorts
theorem fin_z {h : List AObj} {c : Int} : Fin h (.tup [.agg [.e0, .e0, .e0, .e0, .e0], .i .i64 c]) (.tup [.agg (sigCells sigZ), .i .i64 c]) :=
  .inr ⟨⟨⟨rfl, rfl, rfl, rfl, rfl, trivial⟩, rfl, trivial⟩, by simp [sigCells, avs, avb, avo, finIds, finIdsL], by simp [sigCells, avs, avb, avo, finIds, finIdsL]⟩
theorem renameR_n {s : LSig} {a b : Str} (h : (validB s && isName a && isName b) = false) : renameR s a b = .tup [.agg (sigCells sigZ), .i .i64 2] := by simp [renameR, h]
theorem renameR_t {s : LSig} {a b : Str} (h : (validB s && isName a && isName b) = true) (h2 : validB (renamed s a b) = false) : renameR s a b = .tup [.agg (sigCells sigZ), .i .i64 14] := by simp [renameR, h, h2]
theorem renameR_y {s : LSig} {a b : Str} (h : (validB s && isName a && isName b) = true) (h2 : validB (renamed s a b) = true) : renameR s a b = .tup [.agg (sigCells (renamed s a b)), .i .i64 0] := by simp [renameR, h, h2]
theorem box_8 {H : List AObj} {i : Nat} {fz : Bool} {c : List AV} (h : H[i]? = some (.box fz c)) (hp : persL c = true) : snap 8 H (.ptr i 0) = .box c 0 ∧ reach 8 H (.ptr i 0) = [i] := by
  constructor
  · simp only [snap_8, pers, snapK, h, hp, if_true]; rfl
  · simp only [reach_8, pers, reachK, h, hp, if_true]; rfl
theorem fn3 {H : List AObj} {f i j k : Nat} {a b c : List AV} {x y z : Bool} (h1 : H[i]? = some (.box x a)) (h2 : H[j]? = some (.box y b)) (h3 : H[k]? = some (.box z c)) (p1 : persL a = true) (p2 : persL b = true) (p3 : persL c = true) :
    snap dep H (.fn f [] [.ptr i 0, .ptr j 0, .ptr k 0]) = .fn f [] [.box a 0, .box b 0, .box c 0] ∧ reach dep H (.fn f [] [.ptr i 0, .ptr j 0, .ptr k 0]) = [i, j, k] := by
  have e1 := box_8 h1 p1
  have e2 := box_8 h2 p2
  have e3 := box_8 h3 p3
  constructor
  · rw [snap_dep]
    simp only [pers, persL, Bool.false_and, Bool.and_false, Bool.false_eq_true, if_false, snapS, List.map_cons, List.map_nil, if_true, e1.1, e2.1, e3.1]
  · rw [reach_dep]
    simp only [pers, persL, Bool.false_and, Bool.and_false, Bool.false_eq_true, if_false, reachK, List.flatMap_cons, List.flatMap_nil, if_true, e1.2, e2.2, e3.2]; rfl
theorem fn2 {H : List AObj} {f j k : Nat} {b c : List AV} {y z : Bool} (h2 : H[j]? = some (.box y b)) (h3 : H[k]? = some (.box z c)) (p2 : persL b = true) (p3 : persL c = true) :
    snap dep H (.fn f [] [.ptr j 0, .ptr k 0]) = .fn f [] [.box b 0, .box c 0] ∧ reach dep H (.fn f [] [.ptr j 0, .ptr k 0]) = [j, k] := by
  have e2 := box_8 h2 p2
  have e3 := box_8 h3 p3
  constructor
  · rw [snap_dep]
    simp only [pers, persL, Bool.false_and, Bool.and_false, Bool.false_eq_true, if_false, snapS, List.map_cons, List.map_nil, if_true, e2.1, e3.1]
  · rw [reach_dep]
    simp only [pers, persL, Bool.false_and, Bool.and_false, Bool.false_eq_true, if_false, reachK, List.flatMap_cons, List.flatMap_nil, if_true, e2.2, e3.2]; rfl
theorem snap_sig {H : List AObj} {s : LSig} : snap dep H (.agg (sigCells s)) = .agg (sigCells s) ∧ reach dep H (.agg (sigCells s)) = [] := by
  constructor
  · rw [snap_dep, if_pos (by simp only [pers, persL_sig])]
  · rw [reach_dep, if_pos (by simp only [pers, persL_sig])]
set_option maxHeartbeats 4000000 in
theorem ctr28 (s : LSig) (a b : Str) (hm : Small s) (hs : OkS s) (hh : Short s) (ha : a.length ≤ 140737488355328) (hb : b.length ≤ 140737488355328): Ctr Tryz.prog G0 28 [.agg (sigCells s), .s a, .s b] (renameR s a b) := by
  refine sem_intro (rx := false) mixed Tryz.func28 rfl (by kernel_rfl) (by kernel_rfl) (ac := ?_) ?_ g0 ?_
  rotate_left
  · simp only [strip, stripOps, stripOp, hoist, List.filter_cons, List.filter_nil, List.nil_append, List.cons_append, isFree, anyPre, Region.binds, Bool.not_true, Bool.not_false, Bool.false_eq_true, if_true, if_false, Option.isNone_none, Option.isNone_some, Bool.true_and, Bool.false_and, List.map_nil, List.map_cons, List.isEmpty_nil, List.isEmpty_cons, List.append_nil]
    rfl
  · simp -implicitDefEqProofs (disch := omega) only [Tryz.f28, go_sem, List.replicate, ↓reduceIte, Nat.reduceAdd, Nat.reduceSub, Nat.reduceMul, Nat.reduceLeDiff, Nat.reduceLT, Nat.reduceEqDiff, Int.reduceNeg, Nat.reduceBEq]
    (repeat' (first | refine g_true ?_ ?_ | refine g_false ?_ ?_ | refine cond_intro ?_ ?_ | (refine c_ctrE (ctr12 s hm hs) ?_ ?_; (focus (simp -implicitDefEqProofs (disch := omega) only [avs, avb, avi, avo, sigCells, opCells, pairCells, go_sem, ↓reduceIte, Nat.reduceAdd, Nat.reduceSub, Nat.reduceMul, Nat.reduceLeDiff, Nat.reduceLT, Nat.reduceEqDiff, Int.reduceNeg, Nat.reduceBEq]; done)); simp -implicitDefEqProofs (disch := omega) only [go_sem, ↓reduceIte, Nat.reduceAdd, Nat.reduceSub, Nat.reduceMul, Nat.reduceLeDiff, Nat.reduceLT, Nat.reduceEqDiff, Int.reduceNeg, Nat.reduceBEq]) | (refine c_ctrE (ctr41 a ha) ?_ ?_; (focus (simp -implicitDefEqProofs (disch := omega) only [avs, avb, avi, avo, sigCells, opCells, pairCells, go_sem, ↓reduceIte, Nat.reduceAdd, Nat.reduceSub, Nat.reduceMul, Nat.reduceLeDiff, Nat.reduceLT, Nat.reduceEqDiff, Int.reduceNeg, Nat.reduceBEq]; done)); simp -implicitDefEqProofs (disch := omega) only [go_sem, ↓reduceIte, Nat.reduceAdd, Nat.reduceSub, Nat.reduceMul, Nat.reduceLeDiff, Nat.reduceLT, Nat.reduceEqDiff, Int.reduceNeg, Nat.reduceBEq]) | (refine c_ctrE (ctr41 b hb) ?_ ?_; (focus (simp -implicitDefEqProofs (disch := omega) only [avs, avb, avi, avo, sigCells, opCells, pairCells, go_sem, ↓reduceIte, Nat.reduceAdd, Nat.reduceSub, Nat.reduceMul, Nat.reduceLeDiff, Nat.reduceLT, Nat.reduceEqDiff, Int.reduceNeg, Nat.reduceBEq]; done)); simp -implicitDefEqProofs (disch := omega) only [go_sem, ↓reduceIte, Nat.reduceAdd, Nat.reduceSub, Nat.reduceMul, Nat.reduceLeDiff, Nat.reduceLT, Nat.reduceEqDiff, Int.reduceNeg, Nat.reduceBEq]) | refine And.intro (by omega) ?_ | (intro hr; have hc := hr; (try simp only [decide_eq_true_eq, decide_eq_false_iff_not, Bool.not_eq_true', Bool.not_eq_false'] at hc); simp -implicitDefEqProofs (disch := omega) only [hr, go_sem, ↓reduceIte, Nat.reduceAdd, Nat.reduceSub, Nat.reduceMul, Nat.reduceLeDiff, Nat.reduceLT, Nat.reduceEqDiff, Int.reduceNeg, Nat.reduceBEq]; (try clear hr))))
    all_goals first | (rw [renameR_n (by simp only [*, Bool.and_false, Bool.false_and])]; exact fin_z) | skip
    have la := name_len (s := a) (by assumption)
    have lb := name_len (s := b) (by assumption)
    have hall : (validB s && isName a && isName b) = true := by simp only [*, Bool.and_self]
    generalize hH : [AObj.box false _, AObj.box false [AV.s a], AObj.box false [AV.s b], AObj.box false [AV.e0, AV.e0, AV.e0, AV.e0, AV.e0]] = H
    have g0 : H[0]? = some (.box false (sigCells s)) := by rw [← hH]; rfl
    have g1 : H[1]? = some (.box false [.s a]) := by rw [← hH]; rfl
    have g2 : H[2]? = some (.box false [.s b]) := by rw [← hH]; rfl
    have e1 := fn3 (f := 79) g0 g1 g2 persL_sig rfl rfl
    have e2 := fn2 (f := 82) g1 g2 rfl rfl
    have e0 := snap_sig (H := H) (s := s)
    simp only [sigCells, avs, avb, avo] at e0 e1
    refine c_ctrE (ctr81r s a b hm hs hh (by omega) (by omega)) ?_ ?_
    · simp only [List.map_cons, List.map_nil, e0.1, e1.1, e2.1, sigCells, avs, avb, avo]
    · have hA : ∃ x y z, hAfter (.agg (sigCells (renamed s a b))) H [.agg (sigCells s), .fn 79 [] [.ptr 0 0, .ptr 1 0, .ptr 2 0], .fn 82 [] [.ptr 1 0, .ptr 2 0]] = [.box x (sigCells s), .box y [.s a], .box z [.s b], .box false [.e0, .e0, .e0, .e0, .e0]] := by
        unfold hAfter
        split
        · exact ⟨false, false, false, hH.symm⟩
        · refine ⟨true, true, true, ?_⟩
          simp only [List.flatMap_cons, List.flatMap_nil, e0.2, e1.2, e2.2, sigCells, avs, avb, avo]
          rw [← hH]; rfl
      obtain ⟨x, y, z, hA⟩ := hA
      simp only [sigCells, avs, avb, avo] at hA
      simp only [sigCells, avs, avb, avo]
      rw [hA]
      simp -implicitDefEqProofs (disch := omega) only [go_sem, ↓reduceIte, Nat.reduceAdd, Nat.reduceSub, Nat.reduceMul, Nat.reduceLeDiff, Nat.reduceLT, Nat.reduceEqDiff, Int.reduceNeg, Nat.reduceBEq]
      (repeat' (first | refine g_true ?_ ?_ | refine g_false ?_ ?_ | refine cond_intro ?_ ?_ | (refine c_ctrE (ctr12 (renamed s a b) (renamed_small hm) (renamed_ok hs (by omega) (by omega))) ?_ ?_; (focus (simp -implicitDefEqProofs (disch := omega) only [avs, avb, avi, avo, sigCells, opCells, pairCells, go_sem, ↓reduceIte, Nat.reduceAdd, Nat.reduceSub, Nat.reduceMul, Nat.reduceLeDiff, Nat.reduceLT, Nat.reduceEqDiff, Int.reduceNeg, Nat.reduceBEq]; done)); simp -implicitDefEqProofs (disch := omega) only [go_sem, ↓reduceIte, Nat.reduceAdd, Nat.reduceSub, Nat.reduceMul, Nat.reduceLeDiff, Nat.reduceLT, Nat.reduceEqDiff, Int.reduceNeg, Nat.reduceBEq]) | refine And.intro (by omega) ?_ | (intro hr; have hc := hr; (try simp only [decide_eq_true_eq, decide_eq_false_iff_not, Bool.not_eq_true', Bool.not_eq_false'] at hc); simp -implicitDefEqProofs (disch := omega) only [hr, go_sem, ↓reduceIte, Nat.reduceAdd, Nat.reduceSub, Nat.reduceMul, Nat.reduceLeDiff, Nat.reduceLT, Nat.reduceEqDiff, Int.reduceNeg, Nat.reduceBEq]; (try clear hr))))
      · rw [renameR_t hall hc]
        exact fin_z
      · rw [renameR_y hall hc]
        exact fin_eq rfl (by simp only [pers, persL, persL_s, persL_pair, persL_op, Bool.and_self])
end Go.Proofs.YtadileniakikeaaGreatDoor

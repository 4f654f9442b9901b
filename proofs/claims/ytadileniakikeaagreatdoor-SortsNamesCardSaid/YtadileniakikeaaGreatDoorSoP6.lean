/-
  What functions of the chapter return, as plain functions of what they are given; no condition beyond those that each theorem names.
-/
import Derived.Test.YtadileniakikeaaGreatDoorSoP5
import Derived.Sort.Walk0
set_option maxRecDepth 100000
set_option linter.unusedSimpArgs false
set_option linter.unusedVariables false
namespace Go.Proofs.YtadileniakikeaaGreatDoor
open Go Go.Vo

/-! ## the reference: operators found, sorts listed -/
theorem ne_of {a b : LOp} {α : Type} (f : LOp → α) (h : ¬ f a = f b) : decide (a = b) = false := decide_eq_false fun e => h (by rw [e])
set_option maxHeartbeats 4000000 in
theorem ctr16 (a b : LOp) (ha : OkO a) (hb : OkO b): Ctr Tryz.prog G0 16 [elO a, elO b] (.b (decide (a = b))) := by
  refine sem_intro (rx := false) mixed Tryz.func16 rfl (by kernel_rfl) (by kernel_rfl) (ac := ?_) ?_ g0 ?_
  rotate_left
  · simp only [strip, stripOps, stripOp, hoist, List.filter_cons, List.filter_nil, List.nil_append, List.cons_append, isFree, anyPre, Region.binds, Bool.not_true, Bool.not_false, Bool.false_eq_true, if_true, if_false, Option.isNone_none, Option.isNone_some, Bool.true_and, Bool.false_and, List.map_nil, List.map_cons, List.isEmpty_nil, List.isEmpty_cons, List.append_nil]
    rfl
  · simp -implicitDefEqProofs (disch := omega) only [Tryz.f16, go_sem, List.replicate, ↓reduceIte, Nat.reduceAdd, Nat.reduceSub, Nat.reduceMul, Nat.reduceLeDiff, Nat.reduceLT, Nat.reduceEqDiff, Int.reduceNeg, Nat.reduceBEq]
    have a1 := ha.args
    have a2 := ha.pieces
    have a3 := ha.strict
    have b1 := hb.args
    have b2 := hb.pieces
    have b3 := hb.strict
    (repeat' (first | refine g_true ?_ ?_ | refine g_false ?_ ?_ | refine cond_intro ?_ ?_ | (refine c_ctrE (ctr67 a.args b.args a1 b1) ?_ ?_; (focus (simp -implicitDefEqProofs (disch := omega) only [avs, avb, avi, avo, sigCells, opCells, pairCells, go_sem, ↓reduceIte, Nat.reduceAdd, Nat.reduceSub, Nat.reduceMul, Nat.reduceLeDiff, Nat.reduceLT, Nat.reduceEqDiff, Int.reduceNeg, Nat.reduceBEq]; done)); simp -implicitDefEqProofs (disch := omega) only [go_sem, ↓reduceIte, Nat.reduceAdd, Nat.reduceSub, Nat.reduceMul, Nat.reduceLeDiff, Nat.reduceLT, Nat.reduceEqDiff, Int.reduceNeg, Nat.reduceBEq]) | refine And.intro (by omega) ?_ | (intro hr; have hc := hr; (try simp only [decide_eq_true_eq, decide_eq_false_iff_not, Bool.not_eq_true', Bool.not_eq_false'] at hc); simp -implicitDefEqProofs (disch := omega) only [hr, go_sem, ↓reduceIte, Nat.reduceAdd, Nat.reduceSub, Nat.reduceMul, Nat.reduceLeDiff, Nat.reduceLT, Nat.reduceEqDiff, Int.reduceNeg, Nat.reduceBEq]; (try clear hr))))
    all_goals first | (refine fin_eq ?_ (by rfl); rw [← opSame_eq]; simp_all [opSame]; done) | (refine fin_eq ?_ (by rfl); first | rw [ne_of LOp.pieces (fun h => hc (by rw [h]))] | rw [ne_of LOp.strict (fun h => hc (by rw [h]))]) | skip
    refine x_loopJ (fun (k : Nat) => [.k, .k, .k, .k, .j, .j, .k, .k, .k, .k, .k, .k, .k, .k, .k, .k, .k, .k, .k, .k, .k, .k, .k, .k, .k, .k, .k, .k, .k, .k, .k, .k, .k, .k, .k, .k, .k, .k, .k, .k, .k, .k, .k, .k, .k, .k, .k, .k, .k, .k, .k, .k, .k, .k, .k, .k, .k, .k, .k, .k, .k, .k, .v (.i .i64 k), .j, .j, .j, .j, .j, .j, .j, .j, .j, .j, .j, .j, .j, .j, .k, .k, .k, .k, .k, .k, .k, .k, .k, .k, .k, .k, .k, .k, .k, .k, .k, .k]) (fun k => [.box false (opCells a), .box false (opCells b)]) (fun k => k ≤ a.pieces.length ∧ ∀ j, j < k → a.pieces.getD j ([], []) = b.pieces.getD j ([], [])) (fun k => a.pieces.length - k) (0) ⟨Nat.zero_le _, fun j h => by omega⟩ rfl (by simp [Fits]) ?_
    rintro k j ⟨hk, hp⟩
    simp -implicitDefEqProofs (disch := omega) only [pairB, go_sem, ↓reduceIte, Nat.reduceAdd, Nat.reduceSub, Nat.reduceMul, Nat.reduceLeDiff, Nat.reduceLT, Nat.reduceEqDiff, Int.reduceNeg, Nat.reduceBEq]
    (repeat' (first | refine g_true ?_ ?_ | refine g_false ?_ ?_ | refine cond_intro ?_ ?_ | refine And.intro (by omega) ?_ | (intro hr; have hc := hr; (try simp only [decide_eq_true_eq, decide_eq_false_iff_not, Bool.not_eq_true', Bool.not_eq_false'] at hc); simp -implicitDefEqProofs (disch := omega) only [hr, pairB, go_sem, ↓reduceIte, Nat.reduceAdd, Nat.reduceSub, Nat.reduceMul, Nat.reduceLeDiff, Nat.reduceLT, Nat.reduceEqDiff, Int.reduceNeg, Nat.reduceBEq]; (try clear hr))))
    · refine fin_eq ?_ (by rfl)
      rw [ne_of LOp.pieces (fun h => by simp [h] at *)]
    · exact ⟨k + 1, ⟨by omega, below_succ hp (Prod.ext_iff.2 (by simpa using hc))⟩, by omega, by simp⟩
    · have hpe : a.pieces = b.pieces := eq_getD (d := ([], [])) (by omega) (fun j hj => hp j (by omega))
      refine x_loopJ (fun (k : Nat) => [.k, .k, .k, .k, .j, .k, .j, .k, .k, .k, .k, .k, .k, .k, .k, .k, .k, .k, .k, .k, .k, .k, .k, .k, .k, .k, .k, .k, .k, .k, .k, .k, .k, .k, .k, .k, .k, .k, .k, .k, .k, .k, .k, .k, .k, .k, .k, .k, .k, .k, .k, .k, .k, .k, .k, .k, .k, .k, .k, .k, .k, .k, .k, .k, .k, .k, .k, .k, .k, .k, .k, .k, .k, .k, .k, .k, .k, .k, .k, .k, .v (.i .i64 k), .j, .j, .j, .j, .j, .j, .j, .j, .j, .j, .j, .j, .j, .j]) (fun k => [.box false (opCells a), .box false (opCells b)]) (fun k => k ≤ a.strict.length ∧ ∀ j, j < k → a.strict.getD j 0 = b.strict.getD j 0) (fun k => a.strict.length - k) (0) ⟨Nat.zero_le _, fun j h => by omega⟩ rfl (by simp [Fits]) ?_
      rintro k j ⟨hk, hp⟩
      simp -implicitDefEqProofs (disch := omega) only [go_sem, ↓reduceIte, Nat.reduceAdd, Nat.reduceSub, Nat.reduceMul, Nat.reduceLeDiff, Nat.reduceLT, Nat.reduceEqDiff, Int.reduceNeg, Nat.reduceBEq]
      (repeat' (first | refine g_true ?_ ?_ | refine g_false ?_ ?_ | refine cond_intro ?_ ?_ | refine And.intro (by omega) ?_ | (intro hr; have hc := hr; (try simp only [decide_eq_true_eq, decide_eq_false_iff_not, Bool.not_eq_true', Bool.not_eq_false'] at hc); simp -implicitDefEqProofs (disch := omega) only [hr, go_sem, ↓reduceIte, Nat.reduceAdd, Nat.reduceSub, Nat.reduceMul, Nat.reduceLeDiff, Nat.reduceLT, Nat.reduceEqDiff, Int.reduceNeg, Nat.reduceBEq]; (try clear hr))))
      · refine fin_eq ?_ (by rfl)
        rw [ne_of LOp.strict (fun h => by simp [h] at *)]
      · exact ⟨k + 1, ⟨by omega, below_succ hp (by simpa using hc)⟩, by omega, by simp⟩
      · have hse : a.strict = b.strict := eq_getD (d := 0) (by omega) (fun j hj => hp j (by omega))
        refine fin_eq ?_ (by rfl)
        rw [← opSame_eq]
        simp_all [opSame]
theorem find_at {α : Type} {l : List α} {p : α → Bool} {k : Nat} {d : α} (hk : k < l.length) (h : p (l.getD k d) = true) (hb : ∀ j, j < k → (!p (l.getD j d)) = true) : l.find? p = some (l.getD k d) := by
  rw [List.find?_eq_some_iff_getElem]
  refine ⟨h, k, hk, by simp [List.getD, hk], fun j hj => ?_⟩
  have := hb j hj
  simpa [List.getD, show j < l.length by omega] using this
theorem find_no {α : Type} {l : List α} {p : α → Bool} {d : α} (hb : ∀ j, j < l.length → (!p (l.getD j d)) = true) : l.find? p = none := by
  rw [List.find?_eq_none]
  intro x hx
  obtain ⟨j, hj, rfl⟩ := List.mem_iff_getElem.1 hx
  have := hb j hj
  simpa [List.getD, hj] using this
theorem fin_zeroB {h : List AObj} {b : Bool} : Fin h (.tup [.agg [.s [], .e0, .s [], .e0, .i .i64 0, .i .i64 0, .e0], .b b]) (.tup [elO default, .b b]) :=
  .inr ⟨⟨⟨rfl, rfl, rfl, rfl, rfl, rfl, rfl, trivial⟩, rfl, trivial⟩, by simp [elO, opCells, finIds, finIdsL, avs, avb, avi], by simp [elO, opCells, finIds, finIdsL, avs, avb, avi]⟩
def namedR (r : Option LOp) : AV := match r with
  | some o => .tup [elO o, .b true]
  | none => .tup [elO default, .b false]
set_option maxHeartbeats 4000000 in
theorem ctr120 (l : List LOp) (x : Str) (hl : l.length ≤ 140737488355328): Ctr Tryz.prog G0 120 [avo l, .s x] (namedR (l.find? fun o => decide (o.name = x))) := by
  refine sem_intro (rx := false) mixed Tryz.func120 rfl (by kernel_rfl) (by kernel_rfl) (ac := ?_) ?_ g0 ?_
  rotate_left
  · simp only [strip, stripOps, stripOp, hoist, List.filter_cons, List.filter_nil, List.nil_append, List.cons_append, isFree, anyPre, Region.binds, Bool.not_true, Bool.not_false, Bool.false_eq_true, if_true, if_false, Option.isNone_none, Option.isNone_some, Bool.true_and, Bool.false_and, List.map_nil, List.map_cons, List.isEmpty_nil, List.isEmpty_cons, List.append_nil]
    rfl
  · simp -implicitDefEqProofs (disch := omega) only [Tryz.f120, go_sem, List.replicate, ↓reduceIte, Nat.reduceAdd, Nat.reduceSub, Nat.reduceMul, Nat.reduceLeDiff, Nat.reduceLT, Nat.reduceEqDiff, Int.reduceNeg, Nat.reduceBEq, avo]
    refine x_loopG (fun (k : Nat) => [.k, .k, .k, .k, .k, .j, .k, .j, .k, .k, .v (.i .i64 k), .j, .j, .j, .j, .j, .j, .j, .j, .j, .k]) (fun k => [.box false [.s [], .e0, .s [], .e0, .i .i64 0, .i .i64 0, .e0]]) (fun k => k ≤ l.length ∧ ∀ j, j < k → (!decide ((l.getD j default).name = x)) = true) (fun k => l.length - k) (0) _ ⟨Nat.zero_le _, fun j h => by omega⟩ rfl (by simp [Fits]) ?_
    rintro k g j ⟨hk, ha⟩
    simp -implicitDefEqProofs (disch := omega) only [go_sem, ↓reduceIte, Nat.reduceAdd, Nat.reduceSub, Nat.reduceMul, Nat.reduceLeDiff, Nat.reduceLT, Nat.reduceEqDiff, Int.reduceNeg, Nat.reduceBEq]
    (repeat' (first | refine g_true ?_ ?_ | refine g_false ?_ ?_ | refine cond_intro ?_ ?_ | refine And.intro (by omega) ?_ | (intro hr; have hc := hr; (try simp only [decide_eq_true_eq, decide_eq_false_iff_not, Bool.not_eq_true', Bool.not_eq_false'] at hc); simp -implicitDefEqProofs (disch := omega) only [hr, go_sem, ↓reduceIte, Nat.reduceAdd, Nat.reduceSub, Nat.reduceMul, Nat.reduceLeDiff, Nat.reduceLT, Nat.reduceEqDiff, Int.reduceNeg, Nat.reduceBEq]; (try clear hr))))
    · have e : (l.find? fun o => decide (o.name = x)) = some (l.getD k default) := find_at (by omega) (decide_eq_true hc) ha
      rw [e]
      exact fin_eq rfl (by simp only [namedR, elO, pers, persL, persL_ops, opCells, avs, avb, avi, persL_s, persL_i, persL_pair, Bool.and_self])
    · exact ⟨k + 1, _, ⟨by omega, below_succ ha (by rw [decide_eq_false hc]; rfl)⟩, by omega, rfl, by simp⟩
    · have e : (l.find? fun o => decide (o.name = x)) = none := find_no (d := default) (fun j hj => ha j (by omega))
      rw [e]
      exact fin_zeroB
def findE (s : LSig) (r : Option LOp) : AV := if validB s then (match r with | some o => .tup [elO o, .i .i64 0] | none => .tup [elO default, .i .i64 4]) else .tup [elO default, .i .i64 2]
theorem findE_n {s : LSig} {r : Option LOp} (h : validB s = false) : findE s r = .tup [elO default, .i .i64 2] := by simp [findE, h]
theorem findE_y {s : LSig} {o : LOp} (h : validB s = true) : findE s (some o) = .tup [elO o, .i .i64 0] := by simp [findE, h]
theorem findE_0 {s : LSig} (h : validB s = true) : findE s none = .tup [elO default, .i .i64 4] := by simp [findE, h]
theorem pers_elO (o : LOp) : pers (elO o) = true := by
  have := persL_ops o
  simpa [elO, pers] using this
theorem pers_find {o : LOp} {c : Int} : pers (.tup [elO o, .i .i64 c]) = true := by
  show (pers (elO o) && (true && true)) = true
  rw [pers_elO]; rfl
set_option maxHeartbeats 4000000 in
theorem ctr66 (s : LSig) (l : List LOp) (x : Str) (hm : Small s) (hs : OkS s) (hl : l.length ≤ 140737488355328): Ctr Tryz.prog G0 66 [.agg (sigCells s), avo l, .s x] (findE s (l.find? fun o => decide (o.name = x))) := by
  refine sem_intro (rx := false) mixed Tryz.func66 rfl (by kernel_rfl) (by kernel_rfl) (ac := ?_) ?_ g0 ?_
  rotate_left
  · simp only [strip, stripOps, stripOp, hoist, List.filter_cons, List.filter_nil, List.nil_append, List.cons_append, isFree, anyPre, Region.binds, Bool.not_true, Bool.not_false, Bool.false_eq_true, if_true, if_false, Option.isNone_none, Option.isNone_some, Bool.true_and, Bool.false_and, List.map_nil, List.map_cons, List.isEmpty_nil, List.isEmpty_cons, List.append_nil]
    rfl
  · simp -implicitDefEqProofs (disch := omega) only [Tryz.f66, go_sem, List.replicate, ↓reduceIte, Nat.reduceAdd, Nat.reduceSub, Nat.reduceMul, Nat.reduceLeDiff, Nat.reduceLT, Nat.reduceEqDiff, Int.reduceNeg, Nat.reduceBEq, avo]
    cases hv : validB s with
    | false =>
      (repeat' (first | refine g_true ?_ ?_ | refine g_false ?_ ?_ | refine cond_intro ?_ ?_ | (refine c_ctrE (ctr13 s hm hs) ?_ ?_; (focus (simp -implicitDefEqProofs (disch := omega) only [hv, avs, avb, avi, avo, sigCells, opCells, pairCells, go_sem, ↓reduceIte, Nat.reduceAdd, Nat.reduceSub, Nat.reduceMul, Nat.reduceLeDiff, Nat.reduceLT, Nat.reduceEqDiff, Int.reduceNeg, Nat.reduceBEq]; done)); simp -implicitDefEqProofs (disch := omega) only [hv, go_sem, ↓reduceIte, Nat.reduceAdd, Nat.reduceSub, Nat.reduceMul, Nat.reduceLeDiff, Nat.reduceLT, Nat.reduceEqDiff, Int.reduceNeg, Nat.reduceBEq]) | refine And.intro (by omega) ?_ | (intro hr; have hc := hr; (try simp only [decide_eq_true_eq, decide_eq_false_iff_not, Bool.not_eq_true', Bool.not_eq_false'] at hc); simp -implicitDefEqProofs (disch := omega) only [hr, hv, go_sem, ↓reduceIte, Nat.reduceAdd, Nat.reduceSub, Nat.reduceMul, Nat.reduceLeDiff, Nat.reduceLT, Nat.reduceEqDiff, Int.reduceNeg, Nat.reduceBEq]; (try clear hr))))
      rw [findE_n hv]
      exact fin_zero
    | true =>
      have h120 := ctr120 l x hl
      cases hr : l.find? (fun o => decide (o.name = x)) with
      | none =>
        rw [hr] at h120
        rw [findE_0 hv]
        (repeat' (first | refine g_true ?_ ?_ | refine g_false ?_ ?_ | refine cond_intro ?_ ?_ | (refine c_ctrE (ctr13 s hm hs) ?_ ?_; (focus (simp -implicitDefEqProofs (disch := omega) only [hv, namedR, elO, avs, avb, avi, avo, sigCells, opCells, pairCells, go_sem, ↓reduceIte, Nat.reduceAdd, Nat.reduceSub, Nat.reduceMul, Nat.reduceLeDiff, Nat.reduceLT, Nat.reduceEqDiff, Int.reduceNeg, Nat.reduceBEq]; done)); simp -implicitDefEqProofs (disch := omega) only [hv, namedR, elO, go_sem, ↓reduceIte, Nat.reduceAdd, Nat.reduceSub, Nat.reduceMul, Nat.reduceLeDiff, Nat.reduceLT, Nat.reduceEqDiff, Int.reduceNeg, Nat.reduceBEq]) | (refine c_ctrE (h120) ?_ ?_; (focus (simp -implicitDefEqProofs (disch := omega) only [hv, namedR, elO, avs, avb, avi, avo, sigCells, opCells, pairCells, go_sem, ↓reduceIte, Nat.reduceAdd, Nat.reduceSub, Nat.reduceMul, Nat.reduceLeDiff, Nat.reduceLT, Nat.reduceEqDiff, Int.reduceNeg, Nat.reduceBEq]; done)); simp -implicitDefEqProofs (disch := omega) only [hv, namedR, elO, go_sem, ↓reduceIte, Nat.reduceAdd, Nat.reduceSub, Nat.reduceMul, Nat.reduceLeDiff, Nat.reduceLT, Nat.reduceEqDiff, Int.reduceNeg, Nat.reduceBEq]) | refine And.intro (by omega) ?_ | (intro hr; have hc := hr; (try simp only [decide_eq_true_eq, decide_eq_false_iff_not, Bool.not_eq_true', Bool.not_eq_false'] at hc); simp -implicitDefEqProofs (disch := omega) only [hr, hv, namedR, elO, go_sem, ↓reduceIte, Nat.reduceAdd, Nat.reduceSub, Nat.reduceMul, Nat.reduceLeDiff, Nat.reduceLT, Nat.reduceEqDiff, Int.reduceNeg, Nat.reduceBEq]; (try clear hr))))
        exact fin_zero
      | some o =>
        rw [hr] at h120
        rw [findE_y hv]
        (repeat' (first | refine g_true ?_ ?_ | refine g_false ?_ ?_ | refine cond_intro ?_ ?_ | (refine c_ctrE (ctr13 s hm hs) ?_ ?_; (focus (simp -implicitDefEqProofs (disch := omega) only [hv, namedR, elO, avs, avb, avi, avo, sigCells, opCells, pairCells, go_sem, ↓reduceIte, Nat.reduceAdd, Nat.reduceSub, Nat.reduceMul, Nat.reduceLeDiff, Nat.reduceLT, Nat.reduceEqDiff, Int.reduceNeg, Nat.reduceBEq]; done)); simp -implicitDefEqProofs (disch := omega) only [hv, namedR, elO, go_sem, ↓reduceIte, Nat.reduceAdd, Nat.reduceSub, Nat.reduceMul, Nat.reduceLeDiff, Nat.reduceLT, Nat.reduceEqDiff, Int.reduceNeg, Nat.reduceBEq]) | (refine c_ctrE (h120) ?_ ?_; (focus (simp -implicitDefEqProofs (disch := omega) only [hv, namedR, elO, avs, avb, avi, avo, sigCells, opCells, pairCells, go_sem, ↓reduceIte, Nat.reduceAdd, Nat.reduceSub, Nat.reduceMul, Nat.reduceLeDiff, Nat.reduceLT, Nat.reduceEqDiff, Int.reduceNeg, Nat.reduceBEq]; done)); simp -implicitDefEqProofs (disch := omega) only [hv, namedR, elO, go_sem, ↓reduceIte, Nat.reduceAdd, Nat.reduceSub, Nat.reduceMul, Nat.reduceLeDiff, Nat.reduceLT, Nat.reduceEqDiff, Int.reduceNeg, Nat.reduceBEq]) | refine And.intro (by omega) ?_ | (intro hr; have hc := hr; (try simp only [decide_eq_true_eq, decide_eq_false_iff_not, Bool.not_eq_true', Bool.not_eq_false'] at hc); simp -implicitDefEqProofs (disch := omega) only [hr, hv, namedR, elO, go_sem, ↓reduceIte, Nat.reduceAdd, Nat.reduceSub, Nat.reduceMul, Nat.reduceLeDiff, Nat.reduceLT, Nat.reduceEqDiff, Int.reduceNeg, Nat.reduceBEq]; (try clear hr))))
        exact fin_eq rfl pers_find
theorem fin_find {h : List AObj} {o : LOp} {c : Int} : Fin h (.tup [.agg (opCells o), .i .i64 c]) (.tup [elO o, .i .i64 c]) := fin_eq rfl pers_find
set_option maxHeartbeats 4000000 in
theorem ctr15 (s : LSig) (x : Str) (hm : Small s) (hs : OkS s): Ctr Tryz.prog G0 15 [.agg (sigCells s), .s x] (findE s (opAt s x)) := by
  refine sem_intro (rx := false) mixed Tryz.func15 rfl (by kernel_rfl) (by kernel_rfl) (ac := ?_) ?_ g0 ?_
  rotate_left
  · simp only [strip, stripOps, stripOp, hoist, List.filter_cons, List.filter_nil, List.nil_append, List.cons_append, isFree, anyPre, Region.binds, Bool.not_true, Bool.not_false, Bool.false_eq_true, if_true, if_false, Option.isNone_none, Option.isNone_some, Bool.true_and, Bool.false_and, List.map_nil, List.map_cons, List.isEmpty_nil, List.isEmpty_cons, List.append_nil]
    rfl
  · simp -implicitDefEqProofs (disch := omega) only [Tryz.f15, go_sem, List.replicate, ↓reduceIte, Nat.reduceAdd, Nat.reduceSub, Nat.reduceMul, Nat.reduceLeDiff, Nat.reduceLT, Nat.reduceEqDiff, Int.reduceNeg, Nat.reduceBEq]
    have c := ctr66 s s.ops x hm hs hs.ops
    change Ctr _ _ _ _ (findE s (opAt s x)) at c
    cases hv : validB s with
    | false =>
      rw [findE_n hv] at c ⊢
      (repeat' (first | refine g_true ?_ ?_ | refine g_false ?_ ?_ | refine cond_intro ?_ ?_ | (refine c_ctrE (c) ?_ ?_; (focus (simp -implicitDefEqProofs (disch := omega) only [elO, avs, avb, avi, avo, sigCells, opCells, pairCells, go_sem, ↓reduceIte, Nat.reduceAdd, Nat.reduceSub, Nat.reduceMul, Nat.reduceLeDiff, Nat.reduceLT, Nat.reduceEqDiff, Int.reduceNeg, Nat.reduceBEq]; done)); simp -implicitDefEqProofs (disch := omega) only [elO, go_sem, ↓reduceIte, Nat.reduceAdd, Nat.reduceSub, Nat.reduceMul, Nat.reduceLeDiff, Nat.reduceLT, Nat.reduceEqDiff, Int.reduceNeg, Nat.reduceBEq]) | refine And.intro (by omega) ?_ | (intro hr; have hc := hr; (try simp only [decide_eq_true_eq, decide_eq_false_iff_not, Bool.not_eq_true', Bool.not_eq_false'] at hc); simp -implicitDefEqProofs (disch := omega) only [hr, elO, go_sem, ↓reduceIte, Nat.reduceAdd, Nat.reduceSub, Nat.reduceMul, Nat.reduceLeDiff, Nat.reduceLT, Nat.reduceEqDiff, Int.reduceNeg, Nat.reduceBEq]; (try clear hr))))
      exact fin_find
    | true =>
      cases hr : opAt s x with
      | none =>
        rw [hr, findE_0 hv] at c
        rw [findE_0 hv]
        (repeat' (first | refine g_true ?_ ?_ | refine g_false ?_ ?_ | refine cond_intro ?_ ?_ | (refine c_ctrE (c) ?_ ?_; (focus (simp -implicitDefEqProofs (disch := omega) only [elO, avs, avb, avi, avo, sigCells, opCells, pairCells, go_sem, ↓reduceIte, Nat.reduceAdd, Nat.reduceSub, Nat.reduceMul, Nat.reduceLeDiff, Nat.reduceLT, Nat.reduceEqDiff, Int.reduceNeg, Nat.reduceBEq]; done)); simp -implicitDefEqProofs (disch := omega) only [elO, go_sem, ↓reduceIte, Nat.reduceAdd, Nat.reduceSub, Nat.reduceMul, Nat.reduceLeDiff, Nat.reduceLT, Nat.reduceEqDiff, Int.reduceNeg, Nat.reduceBEq]) | refine And.intro (by omega) ?_ | (intro hr; have hc := hr; (try simp only [decide_eq_true_eq, decide_eq_false_iff_not, Bool.not_eq_true', Bool.not_eq_false'] at hc); simp -implicitDefEqProofs (disch := omega) only [hr, elO, go_sem, ↓reduceIte, Nat.reduceAdd, Nat.reduceSub, Nat.reduceMul, Nat.reduceLeDiff, Nat.reduceLT, Nat.reduceEqDiff, Int.reduceNeg, Nat.reduceBEq]; (try clear hr))))
        exact fin_find
      | some o =>
        rw [hr, findE_y hv] at c
        rw [findE_y hv]
        (repeat' (first | refine g_true ?_ ?_ | refine g_false ?_ ?_ | refine cond_intro ?_ ?_ | (refine c_ctrE (c) ?_ ?_; (focus (simp -implicitDefEqProofs (disch := omega) only [elO, avs, avb, avi, avo, sigCells, opCells, pairCells, go_sem, ↓reduceIte, Nat.reduceAdd, Nat.reduceSub, Nat.reduceMul, Nat.reduceLeDiff, Nat.reduceLT, Nat.reduceEqDiff, Int.reduceNeg, Nat.reduceBEq]; done)); simp -implicitDefEqProofs (disch := omega) only [elO, go_sem, ↓reduceIte, Nat.reduceAdd, Nat.reduceSub, Nat.reduceMul, Nat.reduceLeDiff, Nat.reduceLT, Nat.reduceEqDiff, Int.reduceNeg, Nat.reduceBEq]) | refine And.intro (by omega) ?_ | (intro hr; have hc := hr; (try simp only [decide_eq_true_eq, decide_eq_false_iff_not, Bool.not_eq_true', Bool.not_eq_false'] at hc); simp -implicitDefEqProofs (disch := omega) only [hr, elO, go_sem, ↓reduceIte, Nat.reduceAdd, Nat.reduceSub, Nat.reduceMul, Nat.reduceLeDiff, Nat.reduceLT, Nat.reduceEqDiff, Int.reduceNeg, Nat.reduceBEq]; (try clear hr))))
        exact fin_find
set_option maxHeartbeats 4000000 in
theorem ctr18 (s : LSig) (x : Str) (hm : Small s) (hs : OkS s): Ctr Tryz.prog G0 18 [.agg (sigCells s), .s x] (findE s (funAt s x)) := by
  refine sem_intro (rx := false) mixed Tryz.func18 rfl (by kernel_rfl) (by kernel_rfl) (ac := ?_) ?_ g0 ?_
  rotate_left
  · simp only [strip, stripOps, stripOp, hoist, List.filter_cons, List.filter_nil, List.nil_append, List.cons_append, isFree, anyPre, Region.binds, Bool.not_true, Bool.not_false, Bool.false_eq_true, if_true, if_false, Option.isNone_none, Option.isNone_some, Bool.true_and, Bool.false_and, List.map_nil, List.map_cons, List.isEmpty_nil, List.isEmpty_cons, List.append_nil]
    rfl
  · simp -implicitDefEqProofs (disch := omega) only [Tryz.f18, go_sem, List.replicate, ↓reduceIte, Nat.reduceAdd, Nat.reduceSub, Nat.reduceMul, Nat.reduceLeDiff, Nat.reduceLT, Nat.reduceEqDiff, Int.reduceNeg, Nat.reduceBEq]
    have c := ctr66 s s.funs x hm hs hs.funs
    change Ctr _ _ _ _ (findE s (funAt s x)) at c
    cases hv : validB s with
    | false =>
      rw [findE_n hv] at c ⊢
      (repeat' (first | refine g_true ?_ ?_ | refine g_false ?_ ?_ | refine cond_intro ?_ ?_ | (refine c_ctrE (c) ?_ ?_; (focus (simp -implicitDefEqProofs (disch := omega) only [elO, avs, avb, avi, avo, sigCells, opCells, pairCells, go_sem, ↓reduceIte, Nat.reduceAdd, Nat.reduceSub, Nat.reduceMul, Nat.reduceLeDiff, Nat.reduceLT, Nat.reduceEqDiff, Int.reduceNeg, Nat.reduceBEq]; done)); simp -implicitDefEqProofs (disch := omega) only [elO, go_sem, ↓reduceIte, Nat.reduceAdd, Nat.reduceSub, Nat.reduceMul, Nat.reduceLeDiff, Nat.reduceLT, Nat.reduceEqDiff, Int.reduceNeg, Nat.reduceBEq]) | refine And.intro (by omega) ?_ | (intro hr; have hc := hr; (try simp only [decide_eq_true_eq, decide_eq_false_iff_not, Bool.not_eq_true', Bool.not_eq_false'] at hc); simp -implicitDefEqProofs (disch := omega) only [hr, elO, go_sem, ↓reduceIte, Nat.reduceAdd, Nat.reduceSub, Nat.reduceMul, Nat.reduceLeDiff, Nat.reduceLT, Nat.reduceEqDiff, Int.reduceNeg, Nat.reduceBEq]; (try clear hr))))
      exact fin_find
    | true =>
      cases hr : funAt s x with
      | none =>
        rw [hr, findE_0 hv] at c
        rw [findE_0 hv]
        (repeat' (first | refine g_true ?_ ?_ | refine g_false ?_ ?_ | refine cond_intro ?_ ?_ | (refine c_ctrE (c) ?_ ?_; (focus (simp -implicitDefEqProofs (disch := omega) only [elO, avs, avb, avi, avo, sigCells, opCells, pairCells, go_sem, ↓reduceIte, Nat.reduceAdd, Nat.reduceSub, Nat.reduceMul, Nat.reduceLeDiff, Nat.reduceLT, Nat.reduceEqDiff, Int.reduceNeg, Nat.reduceBEq]; done)); simp -implicitDefEqProofs (disch := omega) only [elO, go_sem, ↓reduceIte, Nat.reduceAdd, Nat.reduceSub, Nat.reduceMul, Nat.reduceLeDiff, Nat.reduceLT, Nat.reduceEqDiff, Int.reduceNeg, Nat.reduceBEq]) | refine And.intro (by omega) ?_ | (intro hr; have hc := hr; (try simp only [decide_eq_true_eq, decide_eq_false_iff_not, Bool.not_eq_true', Bool.not_eq_false'] at hc); simp -implicitDefEqProofs (disch := omega) only [hr, elO, go_sem, ↓reduceIte, Nat.reduceAdd, Nat.reduceSub, Nat.reduceMul, Nat.reduceLeDiff, Nat.reduceLT, Nat.reduceEqDiff, Int.reduceNeg, Nat.reduceBEq]; (try clear hr))))
        exact fin_find
      | some o =>
        rw [hr, findE_y hv] at c
        rw [findE_y hv]
        (repeat' (first | refine g_true ?_ ?_ | refine g_false ?_ ?_ | refine cond_intro ?_ ?_ | (refine c_ctrE (c) ?_ ?_; (focus (simp -implicitDefEqProofs (disch := omega) only [elO, avs, avb, avi, avo, sigCells, opCells, pairCells, go_sem, ↓reduceIte, Nat.reduceAdd, Nat.reduceSub, Nat.reduceMul, Nat.reduceLeDiff, Nat.reduceLT, Nat.reduceEqDiff, Int.reduceNeg, Nat.reduceBEq]; done)); simp -implicitDefEqProofs (disch := omega) only [elO, go_sem, ↓reduceIte, Nat.reduceAdd, Nat.reduceSub, Nat.reduceMul, Nat.reduceLeDiff, Nat.reduceLT, Nat.reduceEqDiff, Int.reduceNeg, Nat.reduceBEq]) | refine And.intro (by omega) ?_ | (intro hr; have hc := hr; (try simp only [decide_eq_true_eq, decide_eq_false_iff_not, Bool.not_eq_true', Bool.not_eq_false'] at hc); simp -implicitDefEqProofs (disch := omega) only [hr, elO, go_sem, ↓reduceIte, Nat.reduceAdd, Nat.reduceSub, Nat.reduceMul, Nat.reduceLeDiff, Nat.reduceLT, Nat.reduceEqDiff, Int.reduceNeg, Nat.reduceBEq]; (try clear hr))))
        exact fin_find
end Go.Proofs.YtadileniakikeaaGreatDoor
set_option maxRecDepth 100000
set_option linter.unusedSimpArgs false
set_option linter.unusedVariables false
namespace Go.Proofs.YtadileniakikeaaGreatDoor
open Go Go.Vo

/-! ## the reference: the same -/
set_option maxHeartbeats 4000000 in
theorem ctr84 (l m : List LOp) (hl : l.length ≤ 140737488355328) (hm : m.length ≤ 140737488355328) (hlo : ∀ o ∈ l, OkO o) (hmo : ∀ o ∈ m, OkO o): Ctr Tryz.prog G0 84 [avo l, avo m] (.b (decide (l = m))) := by
  refine sem_intro (rx := false) mixed Tryz.func84 rfl (by kernel_rfl) (by kernel_rfl) (ac := ?_) ?_ g0 ?_
  rotate_left
  · simp only [strip, stripOps, stripOp, hoist, List.filter_cons, List.filter_nil, List.nil_append, List.cons_append, isFree, anyPre, Region.binds, Bool.not_true, Bool.not_false, Bool.false_eq_true, if_true, if_false, Option.isNone_none, Option.isNone_some, Bool.true_and, Bool.false_and, List.map_nil, List.map_cons, List.isEmpty_nil, List.isEmpty_cons, List.append_nil]
    rfl
  · simp -implicitDefEqProofs (disch := omega) only [Tryz.f84, go_sem, List.replicate, ↓reduceIte, Nat.reduceAdd, Nat.reduceSub, Nat.reduceMul, Nat.reduceLeDiff, Nat.reduceLT, Nat.reduceEqDiff, Int.reduceNeg, Nat.reduceBEq, avo]
    (repeat' (first | refine g_true ?_ ?_ | refine g_false ?_ ?_ | refine cond_intro ?_ ?_ | refine And.intro (by omega) ?_ | (intro hr; have hc := hr; (try simp only [decide_eq_true_eq, decide_eq_false_iff_not, Bool.not_eq_true', Bool.not_eq_false'] at hc); simp -implicitDefEqProofs (disch := omega) only [hr, go_sem, ↓reduceIte, Nat.reduceAdd, Nat.reduceSub, Nat.reduceMul, Nat.reduceLeDiff, Nat.reduceLT, Nat.reduceEqDiff, Int.reduceNeg, Nat.reduceBEq]; (try clear hr))))
    · refine fin_eq ?_ (by rfl)
      have : l ≠ m := fun h => hc (by rw [h])
      rw [decide_eq_false this]
    refine x_loopJ (fun (k : Nat) => [.k, .k, .k, .k, .j, .j, .k, .k, .k, .k, .k, .k, .k, .v (.i .i64 k), .j, .j, .j, .j, .j, .j, .j, .j, .j, .j, .j, .j, .j]) (fun k => []) (fun k => k ≤ l.length ∧ ∀ j, j < k → l.getD j default = m.getD j default) (fun k => l.length - k) (0) ⟨Nat.zero_le _, fun j h => by omega⟩ rfl (by simp [Fits]) ?_
    rintro k j ⟨hk, ha⟩
    have o1 : k < l.length → OkO (l.getD k default) := fun h => hlo _ (mem_getD h)
    have o2 : k < m.length → OkO (m.getD k default) := fun h => hmo _ (mem_getD h)
    simp -implicitDefEqProofs (disch := omega) only [go_sem, ↓reduceIte, Nat.reduceAdd, Nat.reduceSub, Nat.reduceMul, Nat.reduceLeDiff, Nat.reduceLT, Nat.reduceEqDiff, Int.reduceNeg, Nat.reduceBEq]
    (repeat' (first | refine g_true ?_ ?_ | refine g_false ?_ ?_ | refine cond_intro ?_ ?_ | (refine c_ctrE (ctr16 (l.getD k default) (m.getD k default) (o1 (by omega)) (o2 (by omega))) ?_ ?_; (focus (simp -implicitDefEqProofs (disch := omega) only [avs, avb, avi, avo, sigCells, opCells, pairCells, go_sem, ↓reduceIte, Nat.reduceAdd, Nat.reduceSub, Nat.reduceMul, Nat.reduceLeDiff, Nat.reduceLT, Nat.reduceEqDiff, Int.reduceNeg, Nat.reduceBEq]; done)); simp -implicitDefEqProofs (disch := omega) only [go_sem, ↓reduceIte, Nat.reduceAdd, Nat.reduceSub, Nat.reduceMul, Nat.reduceLeDiff, Nat.reduceLT, Nat.reduceEqDiff, Int.reduceNeg, Nat.reduceBEq]) | refine And.intro (by omega) ?_ | (intro hr; have hc := hr; (try simp only [decide_eq_true_eq, decide_eq_false_iff_not, Bool.not_eq_true', Bool.not_eq_false'] at hc); simp -implicitDefEqProofs (disch := omega) only [hr, go_sem, ↓reduceIte, Nat.reduceAdd, Nat.reduceSub, Nat.reduceMul, Nat.reduceLeDiff, Nat.reduceLT, Nat.reduceEqDiff, Int.reduceNeg, Nat.reduceBEq]; (try clear hr))))
    · refine fin_eq ?_ (by rfl)
      have : l ≠ m := fun h => by simp [h] at *
      rw [decide_eq_false this]
    · exact ⟨k + 1, ⟨by omega, below_succ ha (by simpa using hc)⟩, by omega, by simp⟩
    · refine fin_eq ?_ (by rfl)
      have : l = m := eq_getD (d := default) (by omega) (fun j hj => ha j (by omega))
      rw [decide_eq_true this]
theorem same_no {s t : LSig} {α : Type} (f : LSig → α) (h : ¬ f s = f t) : sameB s t = false := by
  rw [← Bool.not_eq_true, same_eq]
  exact fun e => h (by rw [e])
set_option maxHeartbeats 4000000 in
theorem ctr29 (s t : LSig) (hs : OkS s) (ht : OkS t): Ctr Tryz.prog G0 29 [.agg (sigCells s), .agg (sigCells t)] (.b (sameB s t)) := by
  refine sem_intro (rx := false) mixed Tryz.func29 rfl (by kernel_rfl) (by kernel_rfl) (ac := ?_) ?_ g0 ?_
  rotate_left
  · simp only [strip, stripOps, stripOp, hoist, List.filter_cons, List.filter_nil, List.nil_append, List.cons_append, isFree, anyPre, Region.binds, Bool.not_true, Bool.not_false, Bool.false_eq_true, if_true, if_false, Option.isNone_none, Option.isNone_some, Bool.true_and, Bool.false_and, List.map_nil, List.map_cons, List.isEmpty_nil, List.isEmpty_cons, List.append_nil]
    rfl
  · simp -implicitDefEqProofs (disch := omega) only [Tryz.f29, go_sem, List.replicate, ↓reduceIte, Nat.reduceAdd, Nat.reduceSub, Nat.reduceMul, Nat.reduceLeDiff, Nat.reduceLT, Nat.reduceEqDiff, Int.reduceNeg, Nat.reduceBEq]
    have b1 := hs.below
    have b2 := ht.below
    (repeat' (first | refine g_true ?_ ?_ | refine g_false ?_ ?_ | refine cond_intro ?_ ?_ | (refine c_ctrE (ctr67 s.sorts t.sorts hs.sorts ht.sorts) ?_ ?_; (focus (simp -implicitDefEqProofs (disch := omega) only [avs, avb, avi, avo, sigCells, opCells, pairCells, go_sem, ↓reduceIte, Nat.reduceAdd, Nat.reduceSub, Nat.reduceMul, Nat.reduceLeDiff, Nat.reduceLT, Nat.reduceEqDiff, Int.reduceNeg, Nat.reduceBEq]; done)); simp -implicitDefEqProofs (disch := omega) only [go_sem, ↓reduceIte, Nat.reduceAdd, Nat.reduceSub, Nat.reduceMul, Nat.reduceLeDiff, Nat.reduceLT, Nat.reduceEqDiff, Int.reduceNeg, Nat.reduceBEq]) | (refine c_ctrE (ctr67 s.values t.values hs.values ht.values) ?_ ?_; (focus (simp -implicitDefEqProofs (disch := omega) only [avs, avb, avi, avo, sigCells, opCells, pairCells, go_sem, ↓reduceIte, Nat.reduceAdd, Nat.reduceSub, Nat.reduceMul, Nat.reduceLeDiff, Nat.reduceLT, Nat.reduceEqDiff, Int.reduceNeg, Nat.reduceBEq]; done)); simp -implicitDefEqProofs (disch := omega) only [go_sem, ↓reduceIte, Nat.reduceAdd, Nat.reduceSub, Nat.reduceMul, Nat.reduceLeDiff, Nat.reduceLT, Nat.reduceEqDiff, Int.reduceNeg, Nat.reduceBEq]) | (refine c_ctrE (ctr84 s.ops t.ops hs.ops ht.ops hs.opsO ht.opsO) ?_ ?_; (focus (simp -implicitDefEqProofs (disch := omega) only [avs, avb, avi, avo, sigCells, opCells, pairCells, go_sem, ↓reduceIte, Nat.reduceAdd, Nat.reduceSub, Nat.reduceMul, Nat.reduceLeDiff, Nat.reduceLT, Nat.reduceEqDiff, Int.reduceNeg, Nat.reduceBEq]; done)); simp -implicitDefEqProofs (disch := omega) only [go_sem, ↓reduceIte, Nat.reduceAdd, Nat.reduceSub, Nat.reduceMul, Nat.reduceLeDiff, Nat.reduceLT, Nat.reduceEqDiff, Int.reduceNeg, Nat.reduceBEq]) | (refine c_ctrE (ctr84 s.funs t.funs hs.funs ht.funs hs.funsO ht.funsO) ?_ ?_; (focus (simp -implicitDefEqProofs (disch := omega) only [avs, avb, avi, avo, sigCells, opCells, pairCells, go_sem, ↓reduceIte, Nat.reduceAdd, Nat.reduceSub, Nat.reduceMul, Nat.reduceLeDiff, Nat.reduceLT, Nat.reduceEqDiff, Int.reduceNeg, Nat.reduceBEq]; done)); simp -implicitDefEqProofs (disch := omega) only [go_sem, ↓reduceIte, Nat.reduceAdd, Nat.reduceSub, Nat.reduceMul, Nat.reduceLeDiff, Nat.reduceLT, Nat.reduceEqDiff, Int.reduceNeg, Nat.reduceBEq]) | refine And.intro (by omega) ?_ | (intro hr; have hc := hr; (try simp only [decide_eq_true_eq, decide_eq_false_iff_not, Bool.not_eq_true', Bool.not_eq_false'] at hc); simp -implicitDefEqProofs (disch := omega) only [hr, go_sem, ↓reduceIte, Nat.reduceAdd, Nat.reduceSub, Nat.reduceMul, Nat.reduceLeDiff, Nat.reduceLT, Nat.reduceEqDiff, Int.reduceNeg, Nat.reduceBEq]; (try clear hr))))
    all_goals first | (refine fin_eq ?_ (by rfl); first | rw [same_no LSig.sorts hc] | rw [same_no LSig.values hc] | rw [same_no LSig.ops hc] | rw [same_no LSig.funs hc] | rw [same_no (fun s => (s.below.length : Int)) hc]; done) | skip
    refine x_loopJ (fun (k : Nat) => [.k, .k, .k, .k, .j, .j, .k, .k, .k, .k, .k, .k, .k, .k, .k, .k, .k, .k, .k, .k, .k, .k, .k, .k, .k, .k, .k, .k, .k, .k, .k, .k, .k, .k, .k, .k, .k, .k, .k, .k, .k, .k, .k, .k, .k, .k, .k, .k, .v (.i .i64 k), .j, .j, .j, .j, .j, .j, .j, .j, .j, .j, .j, .j, .j, .j]) (fun k => [.box false [.sl (s.sorts.map .s) s.sorts.length, .sl (s.below.flatMap pairCells) s.below.length, .sl (s.ops.flatMap opCells) s.ops.length, .sl (s.funs.flatMap opCells) s.funs.length, .sl (s.values.map .s) s.values.length], .box false (sigCells t)]) (fun k => k ≤ s.below.length ∧ ∀ j, j < k → s.below.getD j ([], []) = t.below.getD j ([], [])) (fun k => s.below.length - k) (0) ⟨Nat.zero_le _, fun j h => by omega⟩ rfl (by simp [Fits]) ?_
    rintro k j ⟨hk, hp⟩
    simp -implicitDefEqProofs (disch := omega) only [pairB, go_sem, ↓reduceIte, Nat.reduceAdd, Nat.reduceSub, Nat.reduceMul, Nat.reduceLeDiff, Nat.reduceLT, Nat.reduceEqDiff, Int.reduceNeg, Nat.reduceBEq]
    (repeat' (first | refine g_true ?_ ?_ | refine g_false ?_ ?_ | refine cond_intro ?_ ?_ | refine And.intro (by omega) ?_ | (intro hr; have hc := hr; (try simp only [decide_eq_true_eq, decide_eq_false_iff_not, Bool.not_eq_true', Bool.not_eq_false'] at hc); simp -implicitDefEqProofs (disch := omega) only [hr, pairB, go_sem, ↓reduceIte, Nat.reduceAdd, Nat.reduceSub, Nat.reduceMul, Nat.reduceLeDiff, Nat.reduceLT, Nat.reduceEqDiff, Int.reduceNeg, Nat.reduceBEq]; (try clear hr))))
    · refine fin_eq ?_ (by rfl)
      rw [same_no LSig.below (fun h => by simp [h] at *)]
    · exact ⟨k + 1, ⟨by omega, below_succ hp (Prod.ext_iff.2 (by simpa using hc))⟩, by omega, by simp⟩
    · have hpe : s.below = t.below := eq_getD (d := ([], [])) (by omega) (fun j hj => hp j (by omega))
      refine fin_eq ?_ (by rfl)
      simp_all [sameB]
end Go.Proofs.YtadileniakikeaaGreatDoor
set_option maxRecDepth 100000
set_option linter.unusedSimpArgs false
set_option linter.unusedVariables false
namespace Go.Proofs.YtadileniakikeaaGreatDoor
open Go Go.Vo

/-! ## SortsRenamed -/
theorem rename_cases (s : LSig) (a b : Str) : (∃ c : Int, (c = 2 ∨ c = 14) ∧ renameR s a b = .tup [.agg (sigCells sigZ), .i .i64 c]) ∨ (validB s = true ∧ isName a = true ∧ isName b = true ∧ validB (renamed s a b) = true ∧ renameR s a b = .tup [.agg (sigCells (renamed s a b)), .i .i64 0]) := by
  cases h : validB s && isName a && isName b with
  | false => exact .inl ⟨2, .inl rfl, renameR_n h⟩
  | true =>
    cases h2 : validB (renamed s a b) with
    | false => exact .inl ⟨14, .inr rfl, renameR_t h h2⟩
    | true =>
      simp only [Bool.and_eq_true] at h
      exact .inr ⟨h.1.1, h.1.2, h.2, rfl, renameR_y (by simp [h]) h2⟩
theorem short_renamed {s : LSig} {a b : Str} (h : Short s) : Short (renamed s a b) := by
  constructor
  · intro o ho
    obtain ⟨o', h', rfl⟩ := List.mem_map.1 ho
    simpa [changeO] using h.ops o' h'
  · intro o ho
    obtain ⟨o', h', rfl⟩ := List.mem_map.1 ho
    simpa [changeO] using h.funs o' h'
theorem ren_getD {s : LSig} {a b : Str} {k : Nat} (h : k < s.sorts.length) : (renamed s a b).sorts.getD k [] = sortSw s a b (s.sorts.getD k []) := by
  show (s.sorts.map (sortSw s a b)).getD k [] = _
  simp [List.getD, h]
theorem ren_len {s : LSig} {a b : Str} : (renamed s a b).sorts.length = s.sorts.length := by
  show (s.sorts.map (sortSw s a b)).length = _
  simp
set_option maxHeartbeats 4000000 in
theorem ctr7 (s : LSig) (a b : Str) (hs : OkS s) (ha : a.length ≤ 140737488355328) (hb : b.length ≤ 140737488355328): Ctr Tryz.prog G0 7 [.agg (sigCells s), .s a, .s b] (.b true) := by
  refine sem_intro (rx := false) mixed Tryz.func7 rfl (by kernel_rfl) (by kernel_rfl) (ac := ?_) ?_ g0 ?_
  rotate_left
  · simp only [strip, stripOps, stripOp, hoist, List.filter_cons, List.filter_nil, List.nil_append, List.cons_append, isFree, anyPre, Region.binds, Bool.not_true, Bool.not_false, Bool.false_eq_true, if_true, if_false, Option.isNone_none, Option.isNone_some, Bool.true_and, Bool.false_and, List.map_nil, List.map_cons, List.isEmpty_nil, List.isEmpty_cons, List.append_nil]
    rfl
  · simp -implicitDefEqProofs (disch := omega) only [Tryz.f7, go_sem, List.replicate, ↓reduceIte, Nat.reduceAdd, Nat.reduceSub, Nat.reduceMul, Nat.reduceLeDiff, Nat.reduceLT, Nat.reduceEqDiff, Int.reduceNeg, Nat.reduceBEq]
    by_cases hf : few s = true
    · have hm := few_small hf
      have hh := few_short hf
      have c28 := ctr28 s a b hm hs hh ha hb
      rcases rename_cases s a b with ⟨c, hc2, e⟩ | ⟨hv, na, nb, hr, e⟩
      · rw [e] at c28
        rcases hc2 with rfl | rfl
        all_goals (repeat' (first | refine g_true ?_ ?_ | refine g_false ?_ ?_ | refine cond_intro ?_ ?_ | (refine c_ctrE (ctr10 s hs) ?_ ?_; (focus (simp -implicitDefEqProofs (disch := omega) only [hf, avs, avb, avi, avo, sigCells, opCells, pairCells, go_sem, ↓reduceIte, Nat.reduceAdd, Nat.reduceSub, Nat.reduceMul, Nat.reduceLeDiff, Nat.reduceLT, Nat.reduceEqDiff, Int.reduceNeg, Nat.reduceBEq]; done)); simp -implicitDefEqProofs (disch := omega) only [hf, go_sem, ↓reduceIte, Nat.reduceAdd, Nat.reduceSub, Nat.reduceMul, Nat.reduceLeDiff, Nat.reduceLT, Nat.reduceEqDiff, Int.reduceNeg, Nat.reduceBEq]) | (refine c_ctrE (ctr11) ?_ ?_; (focus (simp -implicitDefEqProofs (disch := omega) only [hf, avs, avb, avi, avo, sigCells, opCells, pairCells, go_sem, ↓reduceIte, Nat.reduceAdd, Nat.reduceSub, Nat.reduceMul, Nat.reduceLeDiff, Nat.reduceLT, Nat.reduceEqDiff, Int.reduceNeg, Nat.reduceBEq]; done)); simp -implicitDefEqProofs (disch := omega) only [hf, go_sem, ↓reduceIte, Nat.reduceAdd, Nat.reduceSub, Nat.reduceMul, Nat.reduceLeDiff, Nat.reduceLT, Nat.reduceEqDiff, Int.reduceNeg, Nat.reduceBEq]) | (refine c_ctrE (c28) ?_ ?_; (focus (simp -implicitDefEqProofs (disch := omega) only [hf, avs, avb, avi, avo, sigCells, opCells, pairCells, go_sem, ↓reduceIte, Nat.reduceAdd, Nat.reduceSub, Nat.reduceMul, Nat.reduceLeDiff, Nat.reduceLT, Nat.reduceEqDiff, Int.reduceNeg, Nat.reduceBEq]; done)); simp -implicitDefEqProofs (disch := omega) only [hf, go_sem, ↓reduceIte, Nat.reduceAdd, Nat.reduceSub, Nat.reduceMul, Nat.reduceLeDiff, Nat.reduceLT, Nat.reduceEqDiff, Int.reduceNeg, Nat.reduceBEq]) | refine And.intro (by omega) ?_ | (intro hr; have hc := hr; (try simp only [decide_eq_true_eq, decide_eq_false_iff_not, Bool.not_eq_true', Bool.not_eq_false'] at hc); simp -implicitDefEqProofs (disch := omega) only [hr, hf, go_sem, ↓reduceIte, Nat.reduceAdd, Nat.reduceSub, Nat.reduceMul, Nat.reduceLeDiff, Nat.reduceLT, Nat.reduceEqDiff, Int.reduceNeg, Nat.reduceBEq]; (try clear hr))))
        all_goals exact fin_eq rfl rfl
      · rw [e] at c28
        have R : Ren s a b := ⟨valid_val hv, valid_val hr, na, nb⟩
        have la := name_len na
        have lb := name_len nb
        have hm2 : Small (renamed s a b) := renamed_small hm
        have hs2 : OkS (renamed s a b) := renamed_ok hs (by omega) (by omega)
        have d28 := ctr28 (renamed s a b) a b hm2 hs2 (short_renamed hh) ha hb
        have hback := R.back
        have e2 : renameR (renamed s a b) a b = .tup [.agg (sigCells s), .i .i64 0] := by
          have := renameR_y (s := renamed s a b) (a := a) (b := b) (by simp [hr, na, nb]) (by rw [hback]; exact hv)
          rw [this, hback]
        rw [e2] at d28
        have c29 := ctr29 s s hs hs
        rw [same_eq.2 rfl] at c29
        have c12 := ctr12 (renamed s a b) hm2 hs2
        rw [hr] at c12
        have hlr := ren_len (s := s) (a := a) (b := b)
        have hget := fun k (h : k < s.sorts.length) => ren_getD (s := s) (a := a) (b := b) h
        have k1 : ∀ k m, k < s.sorts.length → m < s.sorts.length → Ctr Tryz.prog G0 24 [.agg (sigCells s), .s (s.sorts.getD k []), .s (s.sorts.getD m [])] (.b (atMost s (s.sorts.getD k []) (s.sorts.getD m []))) := fun k m hk hm' => by
          have c := ctr24 s (s.sorts.getD k []) (s.sorts.getD m []) hm hs
          rw [atB_is hv (exists_sort (mem_getD hk)) (exists_sort (mem_getD hm'))] at c
          exact c
        have k2 : ∀ k m, k < s.sorts.length → m < s.sorts.length → Ctr Tryz.prog G0 24 [.agg (sigCells (renamed s a b)), .s ((renamed s a b).sorts.getD k []), .s ((renamed s a b).sorts.getD m [])] (.b (atMost s (s.sorts.getD k []) (s.sorts.getD m []))) := fun k m hk hm' => by
          have c := ctr24 (renamed s a b) ((renamed s a b).sorts.getD k []) ((renamed s a b).sorts.getD m []) hm2 hs2
          rw [atB_is hr (exists_sort (mem_getD (by omega))) (exists_sort (mem_getD (by omega))), hget k hk, hget m hm', R.order (mem_getD hk) (mem_getD hm')] at c
          rw [hget k hk, hget m hm']
          exact c
        generalize renamed s a b = r at *
        have h1 := hm.sorts
        (repeat' (first | refine g_true ?_ ?_ | refine g_false ?_ ?_ | refine cond_intro ?_ ?_ | (refine c_ctrE (ctr10 s hs) ?_ ?_; (focus (simp -implicitDefEqProofs (disch := omega) only [hf, avs, avb, avi, avo, sigCells, opCells, pairCells, go_sem, ↓reduceIte, Nat.reduceAdd, Nat.reduceSub, Nat.reduceMul, Nat.reduceLeDiff, Nat.reduceLT, Nat.reduceEqDiff, Int.reduceNeg, Nat.reduceBEq]; done)); simp -implicitDefEqProofs (disch := omega) only [hf, go_sem, ↓reduceIte, Nat.reduceAdd, Nat.reduceSub, Nat.reduceMul, Nat.reduceLeDiff, Nat.reduceLT, Nat.reduceEqDiff, Int.reduceNeg, Nat.reduceBEq]) | (refine c_ctrE (ctr11) ?_ ?_; (focus (simp -implicitDefEqProofs (disch := omega) only [hf, avs, avb, avi, avo, sigCells, opCells, pairCells, go_sem, ↓reduceIte, Nat.reduceAdd, Nat.reduceSub, Nat.reduceMul, Nat.reduceLeDiff, Nat.reduceLT, Nat.reduceEqDiff, Int.reduceNeg, Nat.reduceBEq]; done)); simp -implicitDefEqProofs (disch := omega) only [hf, go_sem, ↓reduceIte, Nat.reduceAdd, Nat.reduceSub, Nat.reduceMul, Nat.reduceLeDiff, Nat.reduceLT, Nat.reduceEqDiff, Int.reduceNeg, Nat.reduceBEq]) | (refine c_ctrE (c28) ?_ ?_; (focus (simp -implicitDefEqProofs (disch := omega) only [hf, avs, avb, avi, avo, sigCells, opCells, pairCells, go_sem, ↓reduceIte, Nat.reduceAdd, Nat.reduceSub, Nat.reduceMul, Nat.reduceLeDiff, Nat.reduceLT, Nat.reduceEqDiff, Int.reduceNeg, Nat.reduceBEq]; done)); simp -implicitDefEqProofs (disch := omega) only [hf, go_sem, ↓reduceIte, Nat.reduceAdd, Nat.reduceSub, Nat.reduceMul, Nat.reduceLeDiff, Nat.reduceLT, Nat.reduceEqDiff, Int.reduceNeg, Nat.reduceBEq]) | (refine c_ctrE (d28) ?_ ?_; (focus (simp -implicitDefEqProofs (disch := omega) only [hf, avs, avb, avi, avo, sigCells, opCells, pairCells, go_sem, ↓reduceIte, Nat.reduceAdd, Nat.reduceSub, Nat.reduceMul, Nat.reduceLeDiff, Nat.reduceLT, Nat.reduceEqDiff, Int.reduceNeg, Nat.reduceBEq]; done)); simp -implicitDefEqProofs (disch := omega) only [hf, go_sem, ↓reduceIte, Nat.reduceAdd, Nat.reduceSub, Nat.reduceMul, Nat.reduceLeDiff, Nat.reduceLT, Nat.reduceEqDiff, Int.reduceNeg, Nat.reduceBEq]) | (refine c_ctrE (c29) ?_ ?_; (focus (simp -implicitDefEqProofs (disch := omega) only [hf, avs, avb, avi, avo, sigCells, opCells, pairCells, go_sem, ↓reduceIte, Nat.reduceAdd, Nat.reduceSub, Nat.reduceMul, Nat.reduceLeDiff, Nat.reduceLT, Nat.reduceEqDiff, Int.reduceNeg, Nat.reduceBEq]; done)); simp -implicitDefEqProofs (disch := omega) only [hf, go_sem, ↓reduceIte, Nat.reduceAdd, Nat.reduceSub, Nat.reduceMul, Nat.reduceLeDiff, Nat.reduceLT, Nat.reduceEqDiff, Int.reduceNeg, Nat.reduceBEq]) | (refine c_ctrE (c12) ?_ ?_; (focus (simp -implicitDefEqProofs (disch := omega) only [hf, avs, avb, avi, avo, sigCells, opCells, pairCells, go_sem, ↓reduceIte, Nat.reduceAdd, Nat.reduceSub, Nat.reduceMul, Nat.reduceLeDiff, Nat.reduceLT, Nat.reduceEqDiff, Int.reduceNeg, Nat.reduceBEq]; done)); simp -implicitDefEqProofs (disch := omega) only [hf, go_sem, ↓reduceIte, Nat.reduceAdd, Nat.reduceSub, Nat.reduceMul, Nat.reduceLeDiff, Nat.reduceLT, Nat.reduceEqDiff, Int.reduceNeg, Nat.reduceBEq]) | refine And.intro (by omega) ?_ | (intro hr; have hc := hr; (try simp only [decide_eq_true_eq, decide_eq_false_iff_not, Bool.not_eq_true', Bool.not_eq_false'] at hc); simp -implicitDefEqProofs (disch := omega) only [hr, hf, go_sem, ↓reduceIte, Nat.reduceAdd, Nat.reduceSub, Nat.reduceMul, Nat.reduceLeDiff, Nat.reduceLT, Nat.reduceEqDiff, Int.reduceNeg, Nat.reduceBEq]; (try clear hr))))
        refine x_loopJ (fun (k : Nat) => [.k, .k, .k, .k, .k, .k, .j, .k, .k, .k, .k, .j, .j, .j, .j, .k, .k, .k, .k, .k, .k, .k, .k, .k, .k, .k, .k, .k, .k, .k, .k, .k, .k, .k, .k, .k, .k, .k, .k, .k, .k, .k, .k, .k, .k, .k, .k, .k, .k, .k, .k, .k, .k, .k, .k, .k, .k, .k, .k, .k, .v (.i .i64 k), .j, .j, .j, .j, .j, .j, .j, .j, .j, .j, .j, .j, .j, .j, .j, .j, .j, .j, .j, .j, .j, .j, .j, .j, .j, .j, .j, .j, .j, .j, .j, .k]) (fun k => [.box false [.sl (s.sorts.map .s) s.sorts.length, .sl (s.below.flatMap pairCells) s.below.length, .sl (s.ops.flatMap opCells) s.ops.length, .sl (s.funs.flatMap opCells) s.funs.length, .sl (s.values.map .s) s.values.length], .box false (sigCells r), .box false (sigCells s)]) (fun k => k ≤ s.sorts.length) (fun k => s.sorts.length - k) (0) (Nat.zero_le _) rfl (by simp [Fits]) ?_
        rintro k j hk
        simp -implicitDefEqProofs (disch := omega) only [go_sem, ↓reduceIte, Nat.reduceAdd, Nat.reduceSub, Nat.reduceMul, Nat.reduceLeDiff, Nat.reduceLT, Nat.reduceEqDiff, Int.reduceNeg, Nat.reduceBEq]
        (repeat' (first | refine g_true ?_ ?_ | refine g_false ?_ ?_ | refine cond_intro ?_ ?_ | (refine c_ctrE (ctr11) ?_ ?_; (focus (simp -implicitDefEqProofs (disch := omega) only [avs, avb, avi, avo, sigCells, opCells, pairCells, go_sem, ↓reduceIte, Nat.reduceAdd, Nat.reduceSub, Nat.reduceMul, Nat.reduceLeDiff, Nat.reduceLT, Nat.reduceEqDiff, Int.reduceNeg, Nat.reduceBEq]; done)); simp -implicitDefEqProofs (disch := omega) only [go_sem, ↓reduceIte, Nat.reduceAdd, Nat.reduceSub, Nat.reduceMul, Nat.reduceLeDiff, Nat.reduceLT, Nat.reduceEqDiff, Int.reduceNeg, Nat.reduceBEq]) | refine And.intro (by omega) ?_ | (intro hr; have hc := hr; (try simp only [decide_eq_true_eq, decide_eq_false_iff_not, Bool.not_eq_true', Bool.not_eq_false'] at hc); simp -implicitDefEqProofs (disch := omega) only [hr, go_sem, ↓reduceIte, Nat.reduceAdd, Nat.reduceSub, Nat.reduceMul, Nat.reduceLeDiff, Nat.reduceLT, Nat.reduceEqDiff, Int.reduceNeg, Nat.reduceBEq]; (try clear hr))))
        · have hkl := hc
          clear hc
          refine x_loopJ (fun (m : Nat) => [.k, .k, .k, .k, .k, .k, .j, .k, .k, .k, .k, .k, .k, .j, .j, .k, .k, .k, .k, .k, .k, .k, .k, .k, .k, .k, .k, .k, .k, .k, .k, .k, .k, .k, .k, .k, .k, .k, .k, .k, .k, .k, .k, .k, .k, .k, .k, .k, .k, .k, .k, .k, .k, .k, .k, .k, .k, .k, .k, .k, .k, .k, .k, .k, .k, .k, .k, .k, .v (.i .i64 m), .j, .j, .j, .j, .j, .j, .j, .j, .j, .j, .j, .j, .j, .j, .j, .j, .j, .j, .j, .j, .j, .j, .k, .k]) (fun m => [.box false [.sl (s.sorts.map .s) s.sorts.length, .sl (s.below.flatMap pairCells) s.below.length, .sl (s.ops.flatMap opCells) s.ops.length, .sl (s.funs.flatMap opCells) s.funs.length, .sl (s.values.map .s) s.values.length], .box false (sigCells r), .box false (sigCells s)]) (fun m => m ≤ s.sorts.length) (fun m => s.sorts.length - m) (0) (Nat.zero_le _) rfl (by simp [Fits]) ?_
          rintro m j hm'
          simp -implicitDefEqProofs (disch := omega) only [go_sem, ↓reduceIte, Nat.reduceAdd, Nat.reduceSub, Nat.reduceMul, Nat.reduceLeDiff, Nat.reduceLT, Nat.reduceEqDiff, Int.reduceNeg, Nat.reduceBEq]
          (repeat' (first | refine g_true ?_ ?_ | refine g_false ?_ ?_ | refine cond_intro ?_ ?_ | (refine c_ctrE ((k1 k m (by omega) (by omega))) ?_ ?_; (focus (simp -implicitDefEqProofs (disch := omega) only [avs, avb, avi, avo, sigCells, opCells, pairCells, go_sem, ↓reduceIte, Nat.reduceAdd, Nat.reduceSub, Nat.reduceMul, Nat.reduceLeDiff, Nat.reduceLT, Nat.reduceEqDiff, Int.reduceNeg, Nat.reduceBEq]; done)); simp -implicitDefEqProofs (disch := omega) only [go_sem, ↓reduceIte, Nat.reduceAdd, Nat.reduceSub, Nat.reduceMul, Nat.reduceLeDiff, Nat.reduceLT, Nat.reduceEqDiff, Int.reduceNeg, Nat.reduceBEq]) | (refine c_ctrE ((k2 k m (by omega) (by omega))) ?_ ?_; (focus (simp -implicitDefEqProofs (disch := omega) only [avs, avb, avi, avo, sigCells, opCells, pairCells, go_sem, ↓reduceIte, Nat.reduceAdd, Nat.reduceSub, Nat.reduceMul, Nat.reduceLeDiff, Nat.reduceLT, Nat.reduceEqDiff, Int.reduceNeg, Nat.reduceBEq]; done)); simp -implicitDefEqProofs (disch := omega) only [go_sem, ↓reduceIte, Nat.reduceAdd, Nat.reduceSub, Nat.reduceMul, Nat.reduceLeDiff, Nat.reduceLT, Nat.reduceEqDiff, Int.reduceNeg, Nat.reduceBEq]) | refine And.intro (by omega) ?_ | (intro hr; have hc := hr; (try simp only [decide_eq_true_eq, decide_eq_false_iff_not, Bool.not_eq_true', Bool.not_eq_false'] at hc); simp -implicitDefEqProofs (disch := omega) only [hr, go_sem, ↓reduceIte, Nat.reduceAdd, Nat.reduceSub, Nat.reduceMul, Nat.reduceLeDiff, Nat.reduceLT, Nat.reduceEqDiff, Int.reduceNeg, Nat.reduceBEq]; (try clear hr))))
          all_goals first | exact ⟨m + 1, by omega, by omega, by simp⟩ | exact ⟨k + 1, by omega, by omega, by simp⟩ | (set_option pp.maxSteps 300 in trace_state)
        · exact fin_eq rfl rfl
    · have hf := Bool.eq_false_iff.2 hf
      (repeat' (first | refine g_true ?_ ?_ | refine g_false ?_ ?_ | refine cond_intro ?_ ?_ | (refine c_ctrE (ctr10 s hs) ?_ ?_; (focus (simp -implicitDefEqProofs (disch := omega) only [hf, avs, avb, avi, avo, sigCells, opCells, pairCells, go_sem, ↓reduceIte, Nat.reduceAdd, Nat.reduceSub, Nat.reduceMul, Nat.reduceLeDiff, Nat.reduceLT, Nat.reduceEqDiff, Int.reduceNeg, Nat.reduceBEq]; done)); simp -implicitDefEqProofs (disch := omega) only [hf, go_sem, ↓reduceIte, Nat.reduceAdd, Nat.reduceSub, Nat.reduceMul, Nat.reduceLeDiff, Nat.reduceLT, Nat.reduceEqDiff, Int.reduceNeg, Nat.reduceBEq]) | (refine c_ctrE (ctr11) ?_ ?_; (focus (simp -implicitDefEqProofs (disch := omega) only [hf, avs, avb, avi, avo, sigCells, opCells, pairCells, go_sem, ↓reduceIte, Nat.reduceAdd, Nat.reduceSub, Nat.reduceMul, Nat.reduceLeDiff, Nat.reduceLT, Nat.reduceEqDiff, Int.reduceNeg, Nat.reduceBEq]; done)); simp -implicitDefEqProofs (disch := omega) only [hf, go_sem, ↓reduceIte, Nat.reduceAdd, Nat.reduceSub, Nat.reduceMul, Nat.reduceLeDiff, Nat.reduceLT, Nat.reduceEqDiff, Int.reduceNeg, Nat.reduceBEq]) | refine And.intro (by omega) ?_ | (intro hr; have hc := hr; (try simp only [decide_eq_true_eq, decide_eq_false_iff_not, Bool.not_eq_true', Bool.not_eq_false'] at hc); simp -implicitDefEqProofs (disch := omega) only [hr, hf, go_sem, ↓reduceIte, Nat.reduceAdd, Nat.reduceSub, Nat.reduceMul, Nat.reduceLeDiff, Nat.reduceLT, Nat.reduceEqDiff, Int.reduceNeg, Nat.reduceBEq]; (try clear hr))))
      exact fin_eq rfl rfl
end Go.Proofs.YtadileniakikeaaGreatDoor
set_option maxRecDepth 100000
set_option linter.unusedSimpArgs false
set_option linter.unusedVariables false
namespace Go.Proofs.YtadileniakikeaaGreatDoor
open Go Go.Vo

/-! ## an operator that is built in parts, appended -/
def Rds (H : List AObj) (sz : Nat) (v : AV) (cells : List AV) (n : Nat) : Prop := (v = .e0 ∧ cells = [] ∧ n = 0) ∨ ∃ i, v = .hs i 0 n false ∧ H[i]? = some (.arr false sz cells) ∧ cells.length = n * sz
theorem snap_op2 {H : List AObj} {i la lp ls : Nat} {nm so : Str} {pr as_ : Int} {va vp vs : AV} {ca cp cs : List AV} (hi : H[i]? = some (.arr false 7 [.s nm, va, .s so, vp, .i .i64 pr, .i .i64 as_, vs]))
    (ha : Rds H 1 va ca la) (hp : Rds H 2 vp cp lp) (hs : Rds H 1 vs cs ls) (pa : persL ca = true) (pp : persL cp = true) (ps : persL cs = true) :
    snap dep H (.hs i 0 1 false) = .sl [.s nm, .sl ca la, .s so, .sl cp lp, .i .i64 pr, .i .i64 as_, .sl cs ls] 1 ∧ (∀ id ∈ reach dep H (.hs i 0 1 false), id = i ∨ va = .hs id 0 la false ∨ vp = .hs id 0 lp false ∨ vs = .hs id 0 ls false) ∧ winPers H (.hs i 0 1 false) = false := by
  rcases ha with ⟨rfl, rfl, rfl⟩ | ⟨a, rfl, ha, la'⟩
  all_goals rcases hp with ⟨rfl, rfl, rfl⟩ | ⟨p, rfl, hp, lp'⟩
  all_goals rcases hs with ⟨rfl, rfl, rfl⟩ | ⟨st, rfl, hs, ls'⟩
  all_goals refine ⟨?_, ?_, ?_⟩
  all_goals first
    | (simp [winPers, hi, persL, pers]; done)
    | (simp [snap_dep, snapS, snap_8, snapK, pers, persL, List.take_of_length_le, *]; done)
    | (simp [reach_dep, reachK, reach_8, pers, persL, List.take_of_length_le, *]; done)
    | (set_option pp.maxSteps 1000 in trace_state)
theorem app_op2 {P : Program} {G : Glob} {dr : Option Nat} {d : Option Nat} {os : List AOper} {K : List AV → List AObj → Prop} {env : List AV} {h pre g r : List AObj} {T e by_ N : Nat} {z : List AV} {out va vp vs : AV} {cells : List AV} {n : Nat} {o : LOp} {i : Nat}
    (ho : OutIs 7 N g out cells n) (hN : pre.length = N) (hh : h = (pre ++ g) ++ r) (hi : h[i]? = some (.arr false 7 [.s o.name, va, .s o.sort, vp, .i .i64 o.prec, .i .i64 o.assoc, vs])) (hige : (pre ++ g).length ≤ i)
    (ha : Rds h 1 va (o.args.map .s) o.args.length) (hp : Rds h 2 vp (o.pieces.flatMap pairCells) o.pieces.length) (hs : Rds h 1 vs (o.strict.map (.i .i64)) o.strict.length)
    (hage : ∀ id n, va = .hs id 0 n false → (pre ++ g).length ≤ id) (hpge : ∀ id n, vp = .hs id 0 n false → (pre ++ g).length ≤ id) (hsge : ∀ id n, vs = .hs id 0 n false → (pre ++ g).length ≤ id)
    (hT : elemOf? P T = some e) (hz : zeroOf P e = some z) (hsz : szOf P e = some 7) (hb : byOf P e = some by_)
    (hzl : z.length = 7) (hbd : (n + 1) * by_ ≤ 140737488355328 ∧ n + 1 ≤ 140737488355328)
    (k : ∀ out' g', OutIs 7 N g' out' (cells ++ opCells o) (n + 1) → (∀ (i : Nat) (o : AObj), g[i]? = some o → (∀ c : List AV, o ≠ .arr false 7 c) → g'[i]? = some o) → awops P G dr os K (aput env d out') (pre ++ g')) : contVH P G dr (aappS P h T out (.hs i 0 1 false)) d os K env := by
  obtain ⟨h1, h2, h3⟩ := snap_op2 hi ha hp hs persL_s persL_pair persL_i
  have hid : ∀ id ∈ reach dep h (.hs i 0 1 false), (pre ++ g).length ≤ id := by
    intro id hid
    rcases h2 id hid with rfl | e | e | e
    · exact hige
    · exact hage _ _ e
    · exact hpge _ _ e
    · exact hsge _ _ e
  subst hh
  obtain ⟨r', hr⟩ := freeze_pre _ _ r hid
  refine app_snap (pre := pre) (more := r') ho hN (by rw [hr, List.append_assoc]) hT hz hsz hb hzl (by decide) h3 h1 rfl (persL_ops o) hbd k
end Go.Proofs.YtadileniakikeaaGreatDoor
set_option maxRecDepth 100000
set_option linter.unusedSimpArgs false
set_option linter.unusedVariables false
namespace Go.Proofs.YtadileniakikeaaGreatDoor
open Go Go.Vo

/-! ## the reference: operators renamed -/
def swS (s : LSig) (a b : Str) : LOp → LOp := changeO (fun x => swapOp x a b) (sortSw s a b)
theorem rds_of {H pre g rest : List AObj} {sz N n : Nat} {out : AV} {cells : List AV} (ho : OutIs sz N g out cells n) (hN : pre.length = N) (hH : H = pre ++ (g ++ rest)) : Rds H sz out cells n := by
  rcases ho with h | ⟨i, rfl, h1, h2⟩
  · exact .inl h
  · refine .inr ⟨i + N, rfl, ?_, h2⟩
    subst hH hN
    rw [List.getElem?_append_right (by omega), Nat.add_sub_cancel, List.getElem?_append_left (lt_of_some h1)]
    exact h1
theorem out_ge {g : List AObj} {sz N n id m : Nat} {out : AV} {cells : List AV} (ho : OutIs sz N g out cells n) (e : out = .hs id 0 m false) : N ≤ id := by
  rcases ho with ⟨rfl, _⟩ | ⟨i, rfl, _⟩
  · cases e
  · simp only [AV.hs.injEq] at e; omega
set_option maxHeartbeats 4000000 in
theorem ctr89 (s : LSig) (l : List LOp) (a b : Str) (hs : OkS s) (hl : l.length ≤ 1000) (hlo : ∀ o ∈ l, OkO o) (hln : ∀ o ∈ l, o.args.length ≤ 1000000 ∧ o.pieces.length ≤ 1000000) (h0 : sortSw s a b [] = []) (ha : a.length ≤ 1000) (hb : b.length ≤ 1000): Ctr Tryz.prog G0 89 [.agg (sigCells s), avo l, .s a, .s b] (.own 7 ((l.map (swS s a b)).flatMap opCells) l.length) := by
  refine sem_intro (rx := true) mixed Tryz.func89 rfl (by kernel_rfl) (by kernel_rfl) (ac := ?_) ?_ g0 ?_
  rotate_left
  · simp only [strip, stripOps, stripOp, hoist, List.filter_cons, List.filter_nil, List.nil_append, List.cons_append, isFree, anyPre, Region.binds, Bool.not_true, Bool.not_false, Bool.false_eq_true, if_true, if_false, Option.isNone_none, Option.isNone_some, Bool.true_and, Bool.false_and, List.map_nil, List.map_cons, List.isEmpty_nil, List.isEmpty_cons, List.append_nil, ckOf, preIs, isMade, isApp, List.getElem?_toArray, List.getElem?_cons_zero, List.getElem?_cons_succ, Bool.or_false, Bool.or_true, Bool.true_or, Bool.false_or, beq_self_eq_true, Option.some_beq_some, Nat.reduceBEq]
    rfl
  · simp -implicitDefEqProofs (disch := omega) only [Tryz.f89, go_sem, List.replicate, ↓reduceIte, Nat.reduceAdd, Nat.reduceSub, Nat.reduceMul, Nat.reduceLeDiff, Nat.reduceLT, Nat.reduceEqDiff, Int.reduceNeg, Nat.reduceBEq, avo]
    have h1 := hs.sorts
    refine x_loopJ (fun (t : Nat × AV × List AObj) => [.k, .k, .k, .k, .k, .k, .k, .k, .k, .v (t.2.1), .k, .j, .j, .k, .j, .k, .j, .k, .k, .v (.i .i64 (t.1 : Nat)), .j, .j, .j, .j, .j, .j, .j, .j, .j, .j, .j, .j, .j, .j, .j, .j, .j, .j, .j, .j, .j, .j, .j, .j, .j, .j, .j, .j, .j, .j, .j, .j, .j, .j, .j, .j, .j, .j, .j, .j, .j, .j, .j, .j, .j, .j, .j, .j, .j, .j, .j, .j, .j, .j, .j, .j, .j, .j, .j, .j, .j, .j, .j, .j, .j, .j, .j, .j, .k]) (fun t => .box false [.sl (s.sorts.map .s) s.sorts.length, .sl (s.below.flatMap pairCells) s.below.length, .sl (s.ops.flatMap opCells) s.ops.length, .sl (s.funs.flatMap opCells) s.funs.length, .sl (s.values.map .s) s.values.length] :: t.2.2) (fun t => t.1 ≤ l.length ∧ OutIs 7 1 t.2.2 t.2.1 (((l.take t.1).map (swS s a b)).flatMap opCells) t.1) (fun t => l.length - t.1) ((0, .e0, [])) ⟨Nat.zero_le _, outIs_e0⟩ rfl (by simp [Fits]) ?_
    rintro ⟨k, out, g⟩ j ⟨hk, ho⟩
    dsimp only at hk ho
    have o1 : k < l.length → OkO (l.getD k default) := fun h => hlo _ (mem_getD h)
    have o2 : k < l.length → (l.getD k default).args.length ≤ 1000000 ∧ (l.getD k default).pieces.length ≤ 1000000 := fun h => hln _ (mem_getD h)
    have o3 : k < l.length → (l.getD k default).strict.length ≤ 17592186044416 := fun h => (o1 h).strictT
    simp -implicitDefEqProofs (disch := omega) only [go_sem, ↓reduceIte, Nat.reduceAdd, Nat.reduceSub, Nat.reduceMul, Nat.reduceLeDiff, Nat.reduceLT, Nat.reduceEqDiff, Int.reduceNeg, Nat.reduceBEq]
    (repeat' (first | refine g_true ?_ ?_ | refine g_false ?_ ?_ | refine cond_intro ?_ ?_ | (refine c_ctrE (ctr126 (l.getD k default).name a b (o1 (by omega)).name ha hb) ?_ ?_; (focus (simp -implicitDefEqProofs (disch := omega) only [avs, avb, avi, avo, sigCells, opCells, pairCells, go_sem, ↓reduceIte, Nat.reduceAdd, Nat.reduceSub, Nat.reduceMul, Nat.reduceLeDiff, Nat.reduceLT, Nat.reduceEqDiff, Int.reduceNeg, Nat.reduceBEq]; done)); simp -implicitDefEqProofs (disch := omega) only [go_sem, ↓reduceIte, Nat.reduceAdd, Nat.reduceSub, Nat.reduceMul, Nat.reduceLeDiff, Nat.reduceLT, Nat.reduceEqDiff, Int.reduceNeg, Nat.reduceBEq]) | (refine c_ctrE (ctr88 s (l.getD k default).sort a b hs.sorts) ?_ ?_; (focus (simp -implicitDefEqProofs (disch := omega) only [avs, avb, avi, avo, sigCells, opCells, pairCells, go_sem, ↓reduceIte, Nat.reduceAdd, Nat.reduceSub, Nat.reduceMul, Nat.reduceLeDiff, Nat.reduceLT, Nat.reduceEqDiff, Int.reduceNeg, Nat.reduceBEq]; done)); simp -implicitDefEqProofs (disch := omega) only [go_sem, ↓reduceIte, Nat.reduceAdd, Nat.reduceSub, Nat.reduceMul, Nat.reduceLeDiff, Nat.reduceLT, Nat.reduceEqDiff, Int.reduceNeg, Nat.reduceBEq]) | refine And.intro (by omega) ?_ | (intro hr; have hc := hr; (try simp only [decide_eq_true_eq, decide_eq_false_iff_not, Bool.not_eq_true', Bool.not_eq_false'] at hc); simp -implicitDefEqProofs (disch := omega) only [hr, go_sem, ↓reduceIte, Nat.reduceAdd, Nat.reduceSub, Nat.reduceMul, Nat.reduceLeDiff, Nat.reduceLT, Nat.reduceEqDiff, Int.reduceNeg, Nat.reduceBEq]; (try clear hr))))
    · have o1 := o1 (by omega)
      have o2 := o2 (by omega)
      have o3 := o3 (by omega)
      refine x_loopJ (fun (t : Nat × AV × List AObj) => [.k, .k, .k, .k, .k, .k, .k, .k, .k, .k, .k, .k, .k, .k, .j, .k, .k, .k, .k, .k, .k, .k, .k, .k, .k, .k, .k, .k, .k, .k, .k, .k, .k, .k, .k, .k, .k, .k, .k, .k, .k, .k, .k, .k, .k, .k, .v (.i .i64 (t.1 : Nat)), .j, .j, .j, .j, .j, .j, .j, .j, .j, .j, .j, .j, .j, .j, .k, .k, .k, .k, .k, .k, .k, .k, .k, .k, .k, .k, .k, .k, .k, .k, .k, .k, .k, .k, .k, .k, .k, .k, .k, .k, .k, .k]) (fun t => .box false [.sl (s.sorts.map .s) s.sorts.length, .sl (s.below.flatMap pairCells) s.below.length, .sl (s.ops.flatMap opCells) s.ops.length, .sl (s.funs.flatMap opCells) s.funs.length, .sl (s.values.map .s) s.values.length] :: (g ++ (.box false (opCells (l.getD k default)) :: .box false [.s (swapOp (l.getD k default).name a b), t.2.1, .s (sortSw s a b (l.getD k default).sort), .e0, .i .i64 (l.getD k default).prec, .i .i64 (l.getD k default).assoc, .hs (g.length + 2 + 1) 0 (l.getD k default).strict.length false] :: .arr false 1 ((l.getD k default).strict.map (.i .i64)) :: t.2.2))) (fun t => t.1 ≤ (l.getD k default).args.length ∧ OutIs 1 (g.length + 4) t.2.2 t.2.1 ((((l.getD k default).args.take t.1).map (sortSw s a b)).map .s) t.1) (fun t => (l.getD k default).args.length - t.1) ((0, .e0, [])) ⟨Nat.zero_le _, outIs_e0⟩ rfl (by simp [Fits]) ?_
      rintro ⟨m, outA, gA⟩ j ⟨hm, hoA⟩
      dsimp only at hm hoA
      simp -implicitDefEqProofs (disch := omega) only [go_sem, ↓reduceIte, Nat.reduceAdd, Nat.reduceSub, Nat.reduceMul, Nat.reduceLeDiff, Nat.reduceLT, Nat.reduceEqDiff, Int.reduceNeg, Nat.reduceBEq]
      (repeat' (first | refine g_true ?_ ?_ | refine g_false ?_ ?_ | refine cond_intro ?_ ?_ | (refine c_ctrE (ctr88 s ((l.getD k default).args.getD m []) a b hs.sorts) ?_ ?_; (focus (simp -implicitDefEqProofs (disch := omega) only [avs, avb, avi, avo, sigCells, opCells, pairCells, go_sem, ↓reduceIte, Nat.reduceAdd, Nat.reduceSub, Nat.reduceMul, Nat.reduceLeDiff, Nat.reduceLT, Nat.reduceEqDiff, Int.reduceNeg, Nat.reduceBEq]; done)); simp -implicitDefEqProofs (disch := omega) only [go_sem, ↓reduceIte, Nat.reduceAdd, Nat.reduceSub, Nat.reduceMul, Nat.reduceLeDiff, Nat.reduceLT, Nat.reduceEqDiff, Int.reduceNeg, Nat.reduceBEq]) | refine And.intro (by omega) ?_ | (intro hr; have hc := hr; (try simp only [decide_eq_true_eq, decide_eq_false_iff_not, Bool.not_eq_true', Bool.not_eq_false'] at hc); simp -implicitDefEqProofs (disch := omega) only [hr, go_sem, ↓reduceIte, Nat.reduceAdd, Nat.reduceSub, Nat.reduceMul, Nat.reduceLeDiff, Nat.reduceLT, Nat.reduceEqDiff, Int.reduceNeg, Nat.reduceBEq]; (try clear hr))))
      · refine app_intro' (pre := .box false [.sl (s.sorts.map .s) s.sorts.length, .sl (s.below.flatMap pairCells) s.below.length, .sl (s.ops.flatMap opCells) s.ops.length, .sl (s.funs.flatMap opCells) s.funs.length, .sl (s.values.map .s) s.values.length] :: (g ++ (.box false (opCells (l.getD k default)) :: .box false [.s (swapOp (l.getD k default).name a b), outA, .s (sortSw s a b (l.getD k default).sort), .e0, .i .i64 (l.getD k default).prec, .i .i64 (l.getD k default).assoc, .hs (g.length + 2 + 1) 0 (l.getD k default).strict.length false] :: .arr false 1 ((l.getD k default).strict.map (.i .i64)) :: []))) (g := gA) (more := [.arr false 1 [.s (sortSw s a b ((l.getD k default).args.getD m []))]]) (news := [.s (sortSw s a b ((l.getD k default).args.getD m []))]) (m := 1) hoA (by simp) (by simp [opCells, avs, avb, avi]) el22 zo9 sz9 by9 rfl (by decide) (by simp -implicitDefEqProofs (disch := omega) only [go_sem, ↓reduceIte, Nat.reduceAdd, Nat.reduceSub, Nat.reduceMul, Nat.reduceLeDiff, Nat.reduceLT, Nat.reduceEqDiff, Int.reduceNeg, Nat.reduceBEq]) (by simp -implicitDefEqProofs (disch := omega) only [go_sem, ↓reduceIte, Nat.reduceAdd, Nat.reduceSub, Nat.reduceMul, Nat.reduceLeDiff, Nat.reduceLT, Nat.reduceEqDiff, Int.reduceNeg, Nat.reduceBEq]) ⟨by omega, by omega⟩ ?_
        intro out' g' ho' _
        have ho2 := ho'
        rcases ho' with ⟨rfl, hn, _⟩ | ⟨i, rfl, _, _⟩
        · exfalso; simp at hn
        · simp -implicitDefEqProofs (disch := omega) only [go_sem, ↓reduceIte, Nat.reduceAdd, Nat.reduceSub, Nat.reduceMul, Nat.reduceLeDiff, Nat.reduceLT, Nat.reduceEqDiff, Int.reduceNeg, Nat.reduceBEq]
          refine ⟨(m + 1, _, g'), ⟨by dsimp only; omega, ?_⟩, by dsimp only; omega, rfl, by simp⟩
          dsimp only
          rw [take_getD (d := []) (by omega), List.map_append, List.map_append]
          exact ho2
      · rw [List.take_of_length_le (by omega)] at hoA
        have hmA : m = (l.getD k default).args.length := by omega
        subst hmA
        clear hm hc
        refine x_loopJ (fun (t : Nat × AV × List AObj) => [.k, .k, .k, .k, .k, .k, .k, .k, .k, .k, .k, .k, .k, .k, .k, .k, .j, .k, .k, .k, .k, .k, .k, .k, .k, .k, .k, .k, .k, .k, .k, .k, .k, .k, .k, .k, .k, .k, .k, .k, .k, .k, .k, .k, .k, .k, .k, .k, .k, .k, .k, .k, .k, .k, .k, .k, .k, .k, .k, .k, .k, .k, .k, .k, .v (.i .i64 (t.1 : Nat)), .j, .j, .j, .j, .j, .j, .j, .j, .j, .j, .j, .j, .j, .j, .j, .j, .j, .j, .k, .k, .k, .k, .k, .k]) (fun t => .box false [.sl (s.sorts.map .s) s.sorts.length, .sl (s.below.flatMap pairCells) s.below.length, .sl (s.ops.flatMap opCells) s.ops.length, .sl (s.funs.flatMap opCells) s.funs.length, .sl (s.values.map .s) s.values.length] :: (g ++ (.box false (opCells (l.getD k default)) :: .box false [.s (swapOp (l.getD k default).name a b), outA, .s (sortSw s a b (l.getD k default).sort), t.2.1, .i .i64 (l.getD k default).prec, .i .i64 (l.getD k default).assoc, .hs (g.length + 2 + 1) 0 (l.getD k default).strict.length false] :: .arr false 1 ((l.getD k default).strict.map (.i .i64)) :: (gA ++ t.2.2)))) (fun t => t.1 ≤ (l.getD k default).pieces.length ∧ OutIs 2 (g.length + 4 + gA.length) t.2.2 t.2.1 (((l.getD k default).pieces.take t.1).map (changeP (sortSw s a b)) |>.flatMap pairCells) t.1) (fun t => (l.getD k default).pieces.length - t.1) ((0, .e0, [])) ⟨Nat.zero_le _, outIs_e0⟩ (by simp [avs, avb, avi, avo, opCells]) (by simp [Fits]) ?_
        rintro ⟨m, outP, gP⟩ j ⟨hm, hoP⟩
        dsimp only at hm hoP
        simp -implicitDefEqProofs (disch := omega) only [go_sem, ↓reduceIte, Nat.reduceAdd, Nat.reduceSub, Nat.reduceMul, Nat.reduceLeDiff, Nat.reduceLT, Nat.reduceEqDiff, Int.reduceNeg, Nat.reduceBEq]
        (repeat' (first | refine g_true ?_ ?_ | refine g_false ?_ ?_ | refine cond_intro ?_ ?_ | (refine c_ctrE (ctr88 s ((l.getD k default).pieces.getD m ([], [])).2 a b hs.sorts) ?_ ?_; (focus (simp -implicitDefEqProofs (disch := omega) only [rep1, avs, avb, avi, avo, sigCells, opCells, pairCells, go_sem, ↓reduceIte, Nat.reduceAdd, Nat.reduceSub, Nat.reduceMul, Nat.reduceLeDiff, Nat.reduceLT, Nat.reduceEqDiff, Int.reduceNeg, Nat.reduceBEq]; done)); simp -implicitDefEqProofs (disch := omega) only [rep1, go_sem, ↓reduceIte, Nat.reduceAdd, Nat.reduceSub, Nat.reduceMul, Nat.reduceLeDiff, Nat.reduceLT, Nat.reduceEqDiff, Int.reduceNeg, Nat.reduceBEq]) | refine And.intro (by omega) ?_ | (intro hr; have hc := hr; (try simp only [decide_eq_true_eq, decide_eq_false_iff_not, Bool.not_eq_true', Bool.not_eq_false'] at hc); simp -implicitDefEqProofs (disch := omega) only [hr, rep1, go_sem, ↓reduceIte, Nat.reduceAdd, Nat.reduceSub, Nat.reduceMul, Nat.reduceLeDiff, Nat.reduceLT, Nat.reduceEqDiff, Int.reduceNeg, Nat.reduceBEq]; (try clear hr))))
        · refine app_intro' (pre := .box false [.sl (s.sorts.map .s) s.sorts.length, .sl (s.below.flatMap pairCells) s.below.length, .sl (s.ops.flatMap opCells) s.ops.length, .sl (s.funs.flatMap opCells) s.funs.length, .sl (s.values.map .s) s.values.length] :: (g ++ (.box false (opCells (l.getD k default)) :: .box false [.s (swapOp (l.getD k default).name a b), outA, .s (sortSw s a b (l.getD k default).sort), outP, .i .i64 (l.getD k default).prec, .i .i64 (l.getD k default).assoc, .hs (g.length + 2 + 1) 0 (l.getD k default).strict.length false] :: .arr false 1 ((l.getD k default).strict.map (.i .i64)) :: gA))) (g := gP) (more := [.box false [.s ((l.getD k default).pieces.getD m ([], [])).1, .s ((l.getD k default).pieces.getD m ([], [])).2], .arr false 2 [.s ((l.getD k default).pieces.getD m ([], [])).1, .s (sortSw s a b ((l.getD k default).pieces.getD m ([], [])).2)]]) (news := [.s ((l.getD k default).pieces.getD m ([], [])).1, .s (sortSw s a b ((l.getD k default).pieces.getD m ([], [])).2)]) (m := 1) hoP (by simp; omega) (by simp [opCells, avs, avb, avi]) el29 zo75 sz75 by75 rfl (by decide) (by simp -implicitDefEqProofs (disch := omega) only [go_sem, ↓reduceIte, Nat.reduceAdd, Nat.reduceSub, Nat.reduceMul, Nat.reduceLeDiff, Nat.reduceLT, Nat.reduceEqDiff, Int.reduceNeg, Nat.reduceBEq]) (by simp -implicitDefEqProofs (disch := omega) only [go_sem, ↓reduceIte, Nat.reduceAdd, Nat.reduceSub, Nat.reduceMul, Nat.reduceLeDiff, Nat.reduceLT, Nat.reduceEqDiff, Int.reduceNeg, Nat.reduceBEq]) ⟨by omega, by omega⟩ ?_
          intro out' g' ho' _
          have ho2 := ho'
          rcases ho' with ⟨rfl, hn, _⟩ | ⟨i, rfl, _, _⟩
          · exfalso; simp at hn
          · simp -implicitDefEqProofs (disch := omega) only [go_sem, ↓reduceIte, Nat.reduceAdd, Nat.reduceSub, Nat.reduceMul, Nat.reduceLeDiff, Nat.reduceLT, Nat.reduceEqDiff, Int.reduceNeg, Nat.reduceBEq]
            refine ⟨(m + 1, .hs (i + (g.length + 4 + gA.length)) 0 (m + 1) false, g'), ⟨by dsimp only; omega, ?_⟩, by dsimp only; omega, by simp [opCells, avs, avb, avi], by simp⟩
            dsimp only
            rw [take_getD (d := ([], [])) (by omega), List.map_append, List.flatMap_append]
            have hch : changeP (sortSw s a b) ((l.getD k default).pieces.getD m ([], [])) = (((l.getD k default).pieces.getD m ([], [])).1, sortSw s a b ((l.getD k default).pieces.getD m ([], [])).2) := by
              unfold changeP
              split
              · rename_i h; rw [h, h0]
              · rfl
            simp only [List.map_cons, List.map_nil, List.flatMap_cons, List.flatMap_nil, hch, pairCells, List.append_nil]
            exact ho2
        · rw [List.take_of_length_le (by omega)] at hoP
          have hmP : m = (l.getD k default).pieces.length := by omega
          subst hmP
          clear hm hc
          refine app_op2 (P := Tryz.prog) (pre := [.box false [.sl (s.sorts.map .s) s.sorts.length, .sl (s.below.flatMap pairCells) s.below.length, .sl (s.ops.flatMap opCells) s.ops.length, .sl (s.funs.flatMap opCells) s.funs.length, .sl (s.values.map .s) s.values.length]]) (g := g) (r := .box false (opCells (l.getD k default)) :: .box false [.s (swapOp (l.getD k default).name a b), outA, .s (sortSw s a b (l.getD k default).sort), outP, .i .i64 (l.getD k default).prec, .i .i64 (l.getD k default).assoc, .hs (g.length + 2 + 1) 0 (l.getD k default).strict.length false] :: .arr false 1 ((l.getD k default).strict.map (.i .i64)) :: (gA ++ (gP ++ [.arr false 7 [.s (swapOp (l.getD k default).name a b), outA, .s (sortSw s a b (l.getD k default).sort), outP, .i .i64 (l.getD k default).prec, .i .i64 (l.getD k default).assoc, .hs (g.length + 2 + 1) 0 (l.getD k default).strict.length false]]))) (va := outA) (vp := outP) (vs := .hs (g.length + 2 + 1) 0 (l.getD k default).strict.length false) (o := swS s a b (l.getD k default)) (n := k) ho rfl (by simp [opCells, avs, avb, avi]) ?_ ?_ ?_ ?_ ?_ ?_ ?_ ?_ el24 zo33 sz33 by33 rfl ⟨by omega, by omega⟩ ?_
          · simp -implicitDefEqProofs (disch := omega) only [swS, changeO, go_sem, ↓reduceIte, Nat.reduceAdd, Nat.reduceSub, Nat.reduceMul, Nat.reduceLeDiff, Nat.reduceLT, Nat.reduceEqDiff, Int.reduceNeg, Nat.reduceBEq]
          · simp only [List.length_append, List.length_cons, List.length_nil]; omega
          · simp only [swS, changeO, List.length_map]
            exact rds_of (pre := .box false [.sl (s.sorts.map .s) s.sorts.length, .sl (s.below.flatMap pairCells) s.below.length, .sl (s.ops.flatMap opCells) s.ops.length, .sl (s.funs.flatMap opCells) s.funs.length, .sl (s.values.map .s) s.values.length] :: (g ++ [.box false (opCells (l.getD k default)), .box false [.s (swapOp (l.getD k default).name a b), outA, .s (sortSw s a b (l.getD k default).sort), outP, .i .i64 (l.getD k default).prec, .i .i64 (l.getD k default).assoc, .hs (g.length + 2 + 1) 0 (l.getD k default).strict.length false], .arr false 1 ((l.getD k default).strict.map (.i .i64))])) hoA (by simp) (by simp [opCells, avs, avb, avi]; rfl)
          · simp only [swS, changeO, List.length_map]
            exact rds_of (pre := .box false [.sl (s.sorts.map .s) s.sorts.length, .sl (s.below.flatMap pairCells) s.below.length, .sl (s.ops.flatMap opCells) s.ops.length, .sl (s.funs.flatMap opCells) s.funs.length, .sl (s.values.map .s) s.values.length] :: (g ++ .box false (opCells (l.getD k default)) :: .box false [.s (swapOp (l.getD k default).name a b), outA, .s (sortSw s a b (l.getD k default).sort), outP, .i .i64 (l.getD k default).prec, .i .i64 (l.getD k default).assoc, .hs (g.length + 2 + 1) 0 (l.getD k default).strict.length false] :: .arr false 1 ((l.getD k default).strict.map (.i .i64)) :: gA)) hoP (by simp; omega) (by simp [opCells, avs, avb, avi]; rfl)
          · refine .inr ⟨_, rfl, ?_, by simp [swS, changeO]⟩
            simp -implicitDefEqProofs (disch := omega) only [swS, changeO, go_sem, ↓reduceIte, Nat.reduceAdd, Nat.reduceSub, Nat.reduceMul, Nat.reduceLeDiff, Nat.reduceLT, Nat.reduceEqDiff, Int.reduceNeg, Nat.reduceBEq]
          · intro id n e
            have := out_ge hoA e
            simp only [List.length_append, List.length_cons, List.length_nil]; omega
          · intro id n e
            have := out_ge hoP e
            simp only [List.length_append, List.length_cons, List.length_nil]; omega
          · intro id n e
            simp only [AV.hs.injEq] at e
            simp only [List.length_append, List.length_cons, List.length_nil]; omega
          · intro out' g' ho' _
            simp -implicitDefEqProofs (disch := omega) only [go_sem, ↓reduceIte, Nat.reduceAdd, Nat.reduceSub, Nat.reduceMul, Nat.reduceLeDiff, Nat.reduceLT, Nat.reduceEqDiff, Int.reduceNeg, Nat.reduceBEq]
            refine ⟨(k + 1, out', g'), ⟨by dsimp only; omega, ?_⟩, by dsimp only; omega, rfl, by simp⟩
            dsimp only
            rw [take_getD (d := default) (by omega), List.map_append, List.flatMap_append]
            simpa using ho'
    · have hk2 : k = l.length := by omega
      subst hk2
      rw [List.take_length] at ho
      exact fin_out (pre := [.box false [.sl (s.sorts.map .s) s.sorts.length, .sl (s.below.flatMap pairCells) s.below.length, .sl (s.ops.flatMap opCells) s.ops.length, .sl (s.funs.flatMap opCells) s.funs.length, .sl (s.values.map .s) s.values.length]]) ho (persL_op)
end Go.Proofs.YtadileniakikeaaGreatDoor
set_option maxRecDepth 100000
set_option linter.unusedSimpArgs false
set_option linter.unusedVariables false
namespace Go.Proofs.YtadileniakikeaaGreatDoor
open Go Go.Vo

/-! ## the reference: a signature renamed -/
theorem rds_snap {H : List AObj} {sz n : Nat} {v : AV} {cells : List AV} (h : Rds H sz v cells n) (hp : persL cells = true) : .sl cells n = snap dep H v := by
  rcases h with ⟨rfl, rfl, rfl⟩ | ⟨i, rfl, h1, h2⟩
  · rfl
  · exact (snap_hs h1 hp h2).symm
theorem rds_cell {H : List AObj} {sz n : Nat} {v : AV} {cells : List AV} (h : Rds H sz v cells n) : v.one = true := by
  rcases h with ⟨rfl, rfl, rfl⟩ | ⟨i, rfl, h1, h2⟩ <;> rfl
theorem rds_fin {H : List AObj} {sz n : Nat} {v : AV} {cells : List AV} (h : Rds H sz v cells n) (hp : persL cells = true) : finOK H v (.sl cells n) ∧ finIds v (.sl cells n) = [] := by
  have h0 := rds_snap h hp
  rcases h with ⟨rfl, rfl, rfl⟩ | ⟨i, rfl, h1, h2⟩
  · exact ⟨h0, rfl⟩
  · exact ⟨h0, rfl⟩
theorem snap_sigR {H : List AObj} {s' : LSig} {v0 v1 v2 v3 v4 : AV} (r0 : Rds H 1 v0 (s'.sorts.map .s) s'.sorts.length) (r1 : Rds H 2 v1 (s'.below.flatMap pairCells) s'.below.length) (r2 : Rds H 7 v2 (s'.ops.flatMap opCells) s'.ops.length) (r3 : Rds H 7 v3 (s'.funs.flatMap opCells) s'.funs.length) (r4 : Rds H 1 v4 (s'.values.map .s) s'.values.length) :
    snap dep H (.agg [v0, v1, v2, v3, v4]) = .agg (sigCells s') := by
  have e : ∀ {sz n v} {cells : List AV}, Rds H sz v cells n → persL cells = true → snap 8 H v = .sl cells n := by
    intro sz n v cells h hp
    rcases h with ⟨rfl, rfl, rfl⟩ | ⟨i, rfl, h1, h2⟩
    · rfl
    · simp only [snap_8, pers, snapK, h1]
      simp [hp, h2, List.take_of_length_le]
  have np : persL [v0, v1, v2, v3, v4] = false := by
    rcases r0 with ⟨rfl, _⟩ | ⟨i, rfl, _⟩ <;> rfl
  rw [snap_dep]
  simp only [pers, np, Bool.false_eq_true, if_false, snapS, List.map_cons, List.map_nil, e r0 persL_s, e r1 persL_pair, e r2 persL_op, e r3 persL_op, e r4 persL_s]
  rfl
theorem fin_sigR {H : List AObj} {s' : LSig} {c : Int} {v0 v1 v2 v3 v4 : AV} (r0 : Rds H 1 v0 (s'.sorts.map .s) s'.sorts.length) (r1 : Rds H 2 v1 (s'.below.flatMap pairCells) s'.below.length) (r2 : Rds H 7 v2 (s'.ops.flatMap opCells) s'.ops.length) (r3 : Rds H 7 v3 (s'.funs.flatMap opCells) s'.funs.length) (r4 : Rds H 1 v4 (s'.values.map .s) s'.values.length) :
    Fin H (.tup [.agg [v0, v1, v2, v3, v4], .i .i64 c]) (.tup [.agg (sigCells s'), .i .i64 c]) := by
  have e0 := rds_fin r0 persL_s
  have e1 := rds_fin r1 persL_pair
  have e2 := rds_fin r2 persL_op
  have e3 := rds_fin r3 persL_op
  have e4 := rds_fin r4 persL_s
  have hn : finIds (.tup [.agg [v0, v1, v2, v3, v4], .i .i64 c]) (.tup [.agg (sigCells s'), .i .i64 c]) = [] := by
    simp only [finIds, finIdsL, sigCells, avs, avb, avo, e0.2, e1.2, e2.2, e3.2, e4.2, List.append_nil]
  refine .inr ⟨⟨⟨e0.1, e1.1, e2.1, e3.1, e4.1, trivial⟩, rfl, trivial⟩, ?_, ?_⟩
  · rw [hn]; exact List.nodup_nil
  · rw [hn]; simp
theorem sortSw_nil {s : LSig} {a b : Str} (h : validB s = true) : sortSw s a b [] = [] := by
  have hv := valid_val h
  unfold sortSw
  rw [if_neg]
  intro hc
  have := (hv.fresh [] (by simpa using hc)).1
  revert this
  decide
set_option maxHeartbeats 4000000 in
theorem ctr37 (s : LSig) (a b : Str) (hm : Small s) (hs : OkS s) (hh : Short s) (ha : a.length ≤ 140737488355328) (hb : b.length ≤ 140737488355328): Ctr Tryz.prog G0 37 [.agg (sigCells s), .s a, .s b] (renameR s a b) := by
  refine sem_intro (rx := true) mixed Tryz.func37 rfl (by kernel_rfl) (by kernel_rfl) (ac := ?_) ?_ g0 ?_
  rotate_left
  · simp only [strip, stripOps, stripOp, hoist, List.filter_cons, List.filter_nil, List.nil_append, List.cons_append, isFree, anyPre, Region.binds, Bool.not_true, Bool.not_false, Bool.false_eq_true, if_true, if_false, Option.isNone_none, Option.isNone_some, Bool.true_and, Bool.false_and, List.map_nil, List.map_cons, List.isEmpty_nil, List.isEmpty_cons, List.append_nil, ckOf, preIs, isMade, isApp, List.getElem?_toArray, List.getElem?_cons_zero, List.getElem?_cons_succ, Bool.or_false, Bool.or_true, Bool.true_or, Bool.false_or, beq_self_eq_true, Option.some_beq_some, Nat.reduceBEq]
    rfl
  · simp -implicitDefEqProofs (disch := omega) only [Tryz.f37, go_sem, List.replicate, ↓reduceIte, Nat.reduceAdd, Nat.reduceSub, Nat.reduceMul, Nat.reduceLeDiff, Nat.reduceLT, Nat.reduceEqDiff, Int.reduceNeg, Nat.reduceBEq]
    (repeat' (first | refine g_true ?_ ?_ | refine g_false ?_ ?_ | refine cond_intro ?_ ?_ | (refine c_ctrE (ctr13 s hm hs) ?_ ?_; (focus (simp -implicitDefEqProofs (disch := omega) only [avs, avb, avi, avo, sigCells, opCells, pairCells, go_sem, ↓reduceIte, Nat.reduceAdd, Nat.reduceSub, Nat.reduceMul, Nat.reduceLeDiff, Nat.reduceLT, Nat.reduceEqDiff, Int.reduceNeg, Nat.reduceBEq]; done)); simp -implicitDefEqProofs (disch := omega) only [go_sem, ↓reduceIte, Nat.reduceAdd, Nat.reduceSub, Nat.reduceMul, Nat.reduceLeDiff, Nat.reduceLT, Nat.reduceEqDiff, Int.reduceNeg, Nat.reduceBEq]) | (refine c_ctrE (ctr42 a ha) ?_ ?_; (focus (simp -implicitDefEqProofs (disch := omega) only [avs, avb, avi, avo, sigCells, opCells, pairCells, go_sem, ↓reduceIte, Nat.reduceAdd, Nat.reduceSub, Nat.reduceMul, Nat.reduceLeDiff, Nat.reduceLT, Nat.reduceEqDiff, Int.reduceNeg, Nat.reduceBEq]; done)); simp -implicitDefEqProofs (disch := omega) only [go_sem, ↓reduceIte, Nat.reduceAdd, Nat.reduceSub, Nat.reduceMul, Nat.reduceLeDiff, Nat.reduceLT, Nat.reduceEqDiff, Int.reduceNeg, Nat.reduceBEq]) | (refine c_ctrE (ctr42 b hb) ?_ ?_; (focus (simp -implicitDefEqProofs (disch := omega) only [avs, avb, avi, avo, sigCells, opCells, pairCells, go_sem, ↓reduceIte, Nat.reduceAdd, Nat.reduceSub, Nat.reduceMul, Nat.reduceLeDiff, Nat.reduceLT, Nat.reduceEqDiff, Int.reduceNeg, Nat.reduceBEq]; done)); simp -implicitDefEqProofs (disch := omega) only [go_sem, ↓reduceIte, Nat.reduceAdd, Nat.reduceSub, Nat.reduceMul, Nat.reduceLeDiff, Nat.reduceLT, Nat.reduceEqDiff, Int.reduceNeg, Nat.reduceBEq]) | refine And.intro (by omega) ?_ | (intro hr; have hc := hr; (try simp only [decide_eq_true_eq, decide_eq_false_iff_not, Bool.not_eq_true', Bool.not_eq_false'] at hc); simp -implicitDefEqProofs (disch := omega) only [hr, go_sem, ↓reduceIte, Nat.reduceAdd, Nat.reduceSub, Nat.reduceMul, Nat.reduceLeDiff, Nat.reduceLT, Nat.reduceEqDiff, Int.reduceNeg, Nat.reduceBEq]; (try clear hr))))
    all_goals first | (rw [renameR_n (by simp only [*, Bool.and_false, Bool.false_and])]; exact fin_z) | skip
    have la := name_len (s := a) (by assumption)
    have lb := name_len (s := b) (by assumption)
    have hall : (validB s && isName a && isName b) = true := by simp only [*, Bool.and_self]
    have h0 : sortSw s a b [] = [] := sortSw_nil (by assumption)
    have m1 := hm.sorts
    have m2 := hm.below
    have m3 := hm.ops
    have m4 := hm.funs
    have m5 := hm.values
    refine x_loopJ (fun (t : Nat × AV × List AObj) => [.k, .k, .k, .k, .k, .k, .k, .k, .k, .k, .j, .k, .k, .k, .k, .k, .k, .k, .k, .k, .k, .k, .k, .k, .k, .k, .k, .k, .k, .k, .k, .k, .v (.i .i64 (t.1 : Nat)), .j, .j, .j, .j, .j, .j, .j, .j, .j, .j, .j, .j, .j, .j, .k, .k, .k, .k, .k, .k, .k, .k, .k, .k, .k, .k, .k, .k, .k, .k, .k, .k, .k, .k, .k, .k, .k, .k, .k, .k, .k, .k, .k, .k, .k, .k, .k, .k, .k, .k, .k, .k, .k, .k, .k, .k, .k, .k, .k, .k, .k, .k, .k, .k, .k, .k, .k, .k, .k, .k, .k, .k, .k, .k, .k, .k, .k]) (fun t => .box false [.sl (s.sorts.map .s) s.sorts.length, .sl (s.below.flatMap pairCells) s.below.length, .sl (s.ops.flatMap opCells) s.ops.length, .sl (s.funs.flatMap opCells) s.funs.length, .sl (s.values.map .s) s.values.length] :: .box false [.e0, .e0, .e0, .e0, .e0] :: .box false [t.2.1, .e0, .e0, .e0, .e0] :: t.2.2) (fun t => t.1 ≤ s.sorts.length ∧ OutIs 1 3 t.2.2 t.2.1 (((s.sorts.take t.1).map (sortSw s a b)).map .s) t.1) (fun t => s.sorts.length - t.1) ((0, .e0, [])) ⟨Nat.zero_le _, outIs_e0⟩ rfl (by simp [Fits]) ?_
    rintro ⟨k, out, g⟩ j ⟨hk, ho⟩
    dsimp only at hk ho
    simp -implicitDefEqProofs (disch := omega) only [go_sem, ↓reduceIte, Nat.reduceAdd, Nat.reduceSub, Nat.reduceMul, Nat.reduceLeDiff, Nat.reduceLT, Nat.reduceEqDiff, Int.reduceNeg, Nat.reduceBEq]
    (repeat' (first | refine g_true ?_ ?_ | refine g_false ?_ ?_ | refine cond_intro ?_ ?_ | (refine c_ctrE (ctr88 s (s.sorts.getD k []) a b hs.sorts) ?_ ?_; (focus (simp -implicitDefEqProofs (disch := omega) only [avs, avb, avi, avo, sigCells, opCells, pairCells, go_sem, ↓reduceIte, Nat.reduceAdd, Nat.reduceSub, Nat.reduceMul, Nat.reduceLeDiff, Nat.reduceLT, Nat.reduceEqDiff, Int.reduceNeg, Nat.reduceBEq]; done)); simp -implicitDefEqProofs (disch := omega) only [go_sem, ↓reduceIte, Nat.reduceAdd, Nat.reduceSub, Nat.reduceMul, Nat.reduceLeDiff, Nat.reduceLT, Nat.reduceEqDiff, Int.reduceNeg, Nat.reduceBEq]) | refine And.intro (by omega) ?_ | (intro hr; have hc := hr; (try simp only [decide_eq_true_eq, decide_eq_false_iff_not, Bool.not_eq_true', Bool.not_eq_false'] at hc); simp -implicitDefEqProofs (disch := omega) only [hr, go_sem, ↓reduceIte, Nat.reduceAdd, Nat.reduceSub, Nat.reduceMul, Nat.reduceLeDiff, Nat.reduceLT, Nat.reduceEqDiff, Int.reduceNeg, Nat.reduceBEq]; (try clear hr))))
    · refine app_intro' (pre := [_, _, _]) (news := [.s (sortSw s a b (s.sorts.getD k []))]) (m := 1) ho rfl rfl el22 zo9 sz9 by9 rfl (by decide) (by simp -implicitDefEqProofs (disch := omega) only [go_sem, ↓reduceIte, Nat.reduceAdd, Nat.reduceSub, Nat.reduceMul, Nat.reduceLeDiff, Nat.reduceLT, Nat.reduceEqDiff, Int.reduceNeg, Nat.reduceBEq]) (by simp -implicitDefEqProofs (disch := omega) only [go_sem, ↓reduceIte, Nat.reduceAdd, Nat.reduceSub, Nat.reduceMul, Nat.reduceLeDiff, Nat.reduceLT, Nat.reduceEqDiff, Int.reduceNeg, Nat.reduceBEq]) ⟨by omega, by omega⟩ ?_
      intro out' g' ho' _
      have ho2 := ho'
      rcases ho' with ⟨rfl, hn, _⟩ | ⟨i, rfl, _, _⟩
      · exfalso; simp at hn
      · simp -implicitDefEqProofs (disch := omega) only [go_sem, ↓reduceIte, Nat.reduceAdd, Nat.reduceSub, Nat.reduceMul, Nat.reduceLeDiff, Nat.reduceLT, Nat.reduceEqDiff, Int.reduceNeg, Nat.reduceBEq]
        refine ⟨(k + 1, _, g'), ⟨by dsimp only; omega, ?_⟩, by dsimp only; omega, rfl, by simp⟩
        dsimp only
        rw [take_getD (d := []) (by omega), List.map_append, List.map_append]
        exact ho2
    · rw [List.take_of_length_le (by omega)] at ho
      have hkk : k = s.sorts.length := by omega
      subst hkk
      rename_i ho0 hc0
      clear hk hc
      refine x_loopJ (fun (t : Nat × AV × List AObj) => [.k, .k, .k, .k, .k, .k, .k, .k, .k, .k, .k, .k, .j, .k, .k, .k, .k, .k, .k, .k, .k, .k, .k, .k, .k, .k, .k, .k, .k, .k, .k, .k, .k, .k, .k, .k, .k, .k, .k, .k, .k, .k, .k, .k, .k, .k, .k, .k, .k, .k, .v (.i .i64 (t.1 : Nat)), .j, .j, .j, .j, .j, .j, .j, .j, .j, .j, .j, .j, .j, .j, .j, .j, .j, .j, .j, .j, .j, .j, .k, .k, .k, .k, .k, .k, .k, .k, .k, .k, .k, .k, .k, .k, .k, .k, .k, .k, .k, .k, .k, .k, .k, .k, .k, .k, .k, .k, .k, .k, .k, .k, .k, .k, .k, .k, .k]) (fun t => .box false [.sl (s.sorts.map .s) s.sorts.length, .sl (s.below.flatMap pairCells) s.below.length, .sl (s.ops.flatMap opCells) s.ops.length, .sl (s.funs.flatMap opCells) s.funs.length, .sl (s.values.map .s) s.values.length] :: .box false [.e0, .e0, .e0, .e0, .e0] :: .box false [out, t.2.1, .e0, .e0, .e0] :: (g ++ t.2.2)) (fun t => t.1 ≤ s.below.length ∧ OutIs 2 (g.length + 3) t.2.2 t.2.1 (((s.below.take t.1).map (changeB (sortSw s a b))).flatMap pairCells) t.1) (fun t => s.below.length - t.1) ((0, .e0, [])) ⟨Nat.zero_le _, outIs_e0⟩ (by simp [avs, avb, avi, avo, opCells]) (by simp [Fits]) ?_
      rintro ⟨k, outB, gB⟩ j ⟨hk, hoB⟩
      dsimp only at hk hoB
      simp -implicitDefEqProofs (disch := omega) only [go_sem, ↓reduceIte, Nat.reduceAdd, Nat.reduceSub, Nat.reduceMul, Nat.reduceLeDiff, Nat.reduceLT, Nat.reduceEqDiff, Int.reduceNeg, Nat.reduceBEq]
      (repeat' (first | refine g_true ?_ ?_ | refine g_false ?_ ?_ | refine cond_intro ?_ ?_ | (refine c_ctrE (ctr88 s (s.below.getD k ([], [])).1 a b hs.sorts) ?_ ?_; (focus (simp -implicitDefEqProofs (disch := omega) only [rep1, avs, avb, avi, avo, sigCells, opCells, pairCells, go_sem, ↓reduceIte, Nat.reduceAdd, Nat.reduceSub, Nat.reduceMul, Nat.reduceLeDiff, Nat.reduceLT, Nat.reduceEqDiff, Int.reduceNeg, Nat.reduceBEq]; done)); simp -implicitDefEqProofs (disch := omega) only [rep1, go_sem, ↓reduceIte, Nat.reduceAdd, Nat.reduceSub, Nat.reduceMul, Nat.reduceLeDiff, Nat.reduceLT, Nat.reduceEqDiff, Int.reduceNeg, Nat.reduceBEq]) | (refine c_ctrE (ctr88 s (s.below.getD k ([], [])).2 a b hs.sorts) ?_ ?_; (focus (simp -implicitDefEqProofs (disch := omega) only [rep1, avs, avb, avi, avo, sigCells, opCells, pairCells, go_sem, ↓reduceIte, Nat.reduceAdd, Nat.reduceSub, Nat.reduceMul, Nat.reduceLeDiff, Nat.reduceLT, Nat.reduceEqDiff, Int.reduceNeg, Nat.reduceBEq]; done)); simp -implicitDefEqProofs (disch := omega) only [rep1, go_sem, ↓reduceIte, Nat.reduceAdd, Nat.reduceSub, Nat.reduceMul, Nat.reduceLeDiff, Nat.reduceLT, Nat.reduceEqDiff, Int.reduceNeg, Nat.reduceBEq]) | refine And.intro (by omega) ?_ | (intro hr; have hc := hr; (try simp only [decide_eq_true_eq, decide_eq_false_iff_not, Bool.not_eq_true', Bool.not_eq_false'] at hc); simp -implicitDefEqProofs (disch := omega) only [hr, rep1, go_sem, ↓reduceIte, Nat.reduceAdd, Nat.reduceSub, Nat.reduceMul, Nat.reduceLeDiff, Nat.reduceLT, Nat.reduceEqDiff, Int.reduceNeg, Nat.reduceBEq]; (try clear hr))))
      · refine app_intro' (pre := .box false [.sl (s.sorts.map .s) s.sorts.length, .sl (s.below.flatMap pairCells) s.below.length, .sl (s.ops.flatMap opCells) s.ops.length, .sl (s.funs.flatMap opCells) s.funs.length, .sl (s.values.map .s) s.values.length] :: .box false [.e0, .e0, .e0, .e0, .e0] :: .box false [out, outB, .e0, .e0, .e0] :: g) (g := gB) (more := [.box false [.s (s.below.getD k ([], [])).1, .s (s.below.getD k ([], [])).2], .arr false 2 [.s (sortSw s a b (s.below.getD k ([], [])).1), .s (sortSw s a b (s.below.getD k ([], [])).2)]]) (news := [.s (sortSw s a b (s.below.getD k ([], [])).1), .s (sortSw s a b (s.below.getD k ([], [])).2)]) (m := 1) hoB (by simp) (by simp) el23 zo57 sz57 by57 rfl (by decide) (by simp -implicitDefEqProofs (disch := omega) only [go_sem, ↓reduceIte, Nat.reduceAdd, Nat.reduceSub, Nat.reduceMul, Nat.reduceLeDiff, Nat.reduceLT, Nat.reduceEqDiff, Int.reduceNeg, Nat.reduceBEq]) (by simp -implicitDefEqProofs (disch := omega) only [go_sem, ↓reduceIte, Nat.reduceAdd, Nat.reduceSub, Nat.reduceMul, Nat.reduceLeDiff, Nat.reduceLT, Nat.reduceEqDiff, Int.reduceNeg, Nat.reduceBEq]) ⟨by omega, by omega⟩ ?_
        intro out' g' ho' _
        have ho2 := ho'
        rcases ho' with ⟨rfl, hn, _⟩ | ⟨i, rfl, _, _⟩
        · exfalso; simp at hn
        · simp -implicitDefEqProofs (disch := omega) only [go_sem, ↓reduceIte, Nat.reduceAdd, Nat.reduceSub, Nat.reduceMul, Nat.reduceLeDiff, Nat.reduceLT, Nat.reduceEqDiff, Int.reduceNeg, Nat.reduceBEq]
          refine ⟨(k + 1, .hs (i + (g.length + 3)) 0 (k + 1) false, g'), ⟨by dsimp only; omega, ?_⟩, by dsimp only; omega, by simp, by simp⟩
          dsimp only
          rw [take_getD (d := ([], [])) (by omega), List.map_append, List.flatMap_append]
          exact ho2
      · rw [List.take_of_length_le (by omega)] at hoB
        have hkk : k = s.below.length := by omega
        subst hkk
        clear hk hc
        refine x_loopJ (fun (t : Nat × AV × List AObj) => [.k, .k, .k, .k, .k, .k, .k, .k, .k, .k, .k, .k, .k, .k, .j, .k, .k, .k, .k, .k, .k, .k, .k, .k, .k, .k, .k, .k, .k, .k, .k, .k, .k, .k, .k, .k, .k, .k, .k, .k, .k, .k, .k, .k, .k, .k, .k, .k, .k, .k, .k, .k, .k, .k, .k, .k, .k, .k, .k, .k, .k, .k, .k, .k, .k, .k, .k, .k, .k, .k, .k, .k, .k, .k, .k, .k, .v (.i .i64 (t.1 : Nat)), .j, .j, .j, .j, .j, .j, .j, .j, .j, .j, .j, .j, .j, .j, .k, .k, .k, .k, .k, .k, .k, .k, .k, .k, .k, .k, .k, .k, .k, .k, .k, .k, .k]) (fun t => .box false [.sl (s.sorts.map .s) s.sorts.length, .sl (s.below.flatMap pairCells) s.below.length, .sl (s.ops.flatMap opCells) s.ops.length, .sl (s.funs.flatMap opCells) s.funs.length, .sl (s.values.map .s) s.values.length] :: .box false [.e0, .e0, .e0, .e0, .e0] :: .box false [out, outB, .e0, .e0, t.2.1] :: (g ++ (gB ++ t.2.2))) (fun t => t.1 ≤ s.values.length ∧ OutIs 1 (g.length + gB.length + 3) t.2.2 t.2.1 (((s.values.take t.1).map (sortSw s a b)).map .s) t.1) (fun t => s.values.length - t.1) ((0, .e0, [])) ⟨Nat.zero_le _, outIs_e0⟩ (by simp [avs, avb, avi, avo, opCells]) (by simp [Fits]) ?_
        rintro ⟨k, outV, gV⟩ j ⟨hk, hoV⟩
        dsimp only at hk hoV
        simp -implicitDefEqProofs (disch := omega) only [go_sem, ↓reduceIte, Nat.reduceAdd, Nat.reduceSub, Nat.reduceMul, Nat.reduceLeDiff, Nat.reduceLT, Nat.reduceEqDiff, Int.reduceNeg, Nat.reduceBEq]
        (repeat' (first | refine g_true ?_ ?_ | refine g_false ?_ ?_ | refine cond_intro ?_ ?_ | (refine c_ctrE (ctr88 s (s.values.getD k []) a b hs.sorts) ?_ ?_; (focus (simp -implicitDefEqProofs (disch := omega) only [avs, avb, avi, avo, sigCells, opCells, pairCells, go_sem, ↓reduceIte, Nat.reduceAdd, Nat.reduceSub, Nat.reduceMul, Nat.reduceLeDiff, Nat.reduceLT, Nat.reduceEqDiff, Int.reduceNeg, Nat.reduceBEq]; done)); simp -implicitDefEqProofs (disch := omega) only [go_sem, ↓reduceIte, Nat.reduceAdd, Nat.reduceSub, Nat.reduceMul, Nat.reduceLeDiff, Nat.reduceLT, Nat.reduceEqDiff, Int.reduceNeg, Nat.reduceBEq]) | (refine c_ctrE (ctr89 s s.ops a b hs m3 hs.opsO hh.ops h0 (by omega) (by omega)) ?_ ?_; (focus (simp -implicitDefEqProofs (disch := omega) only [avs, avb, avi, avo, sigCells, opCells, pairCells, go_sem, ↓reduceIte, Nat.reduceAdd, Nat.reduceSub, Nat.reduceMul, Nat.reduceLeDiff, Nat.reduceLT, Nat.reduceEqDiff, Int.reduceNeg, Nat.reduceBEq]; done)); simp -implicitDefEqProofs (disch := omega) only [go_sem, ↓reduceIte, Nat.reduceAdd, Nat.reduceSub, Nat.reduceMul, Nat.reduceLeDiff, Nat.reduceLT, Nat.reduceEqDiff, Int.reduceNeg, Nat.reduceBEq]) | (refine c_ctrE (ctr89 s s.funs a b hs m4 hs.funsO hh.funs h0 (by omega) (by omega)) ?_ ?_; (focus (simp -implicitDefEqProofs (disch := omega) only [avs, avb, avi, avo, sigCells, opCells, pairCells, go_sem, ↓reduceIte, Nat.reduceAdd, Nat.reduceSub, Nat.reduceMul, Nat.reduceLeDiff, Nat.reduceLT, Nat.reduceEqDiff, Int.reduceNeg, Nat.reduceBEq]; done)); simp -implicitDefEqProofs (disch := omega) only [go_sem, ↓reduceIte, Nat.reduceAdd, Nat.reduceSub, Nat.reduceMul, Nat.reduceLeDiff, Nat.reduceLT, Nat.reduceEqDiff, Int.reduceNeg, Nat.reduceBEq]) | refine And.intro (by omega) ?_ | (intro hr; have hc := hr; (try simp only [decide_eq_true_eq, decide_eq_false_iff_not, Bool.not_eq_true', Bool.not_eq_false'] at hc); simp -implicitDefEqProofs (disch := omega) only [hr, go_sem, ↓reduceIte, Nat.reduceAdd, Nat.reduceSub, Nat.reduceMul, Nat.reduceLeDiff, Nat.reduceLT, Nat.reduceEqDiff, Int.reduceNeg, Nat.reduceBEq]; (try clear hr))))
        · refine app_intro' (pre := .box false [.sl (s.sorts.map .s) s.sorts.length, .sl (s.below.flatMap pairCells) s.below.length, .sl (s.ops.flatMap opCells) s.ops.length, .sl (s.funs.flatMap opCells) s.funs.length, .sl (s.values.map .s) s.values.length] :: .box false [.e0, .e0, .e0, .e0, .e0] :: .box false [out, outB, .e0, .e0, outV] :: (g ++ gB)) (g := gV) (more := [.arr false 1 [.s (sortSw s a b (s.values.getD k []))]]) (news := [.s (sortSw s a b (s.values.getD k []))]) (m := 1) hoV (by simp) (by simp) el22 zo9 sz9 by9 rfl (by decide) (by simp -implicitDefEqProofs (disch := omega) only [go_sem, ↓reduceIte, Nat.reduceAdd, Nat.reduceSub, Nat.reduceMul, Nat.reduceLeDiff, Nat.reduceLT, Nat.reduceEqDiff, Int.reduceNeg, Nat.reduceBEq]) (by simp -implicitDefEqProofs (disch := omega) only [go_sem, ↓reduceIte, Nat.reduceAdd, Nat.reduceSub, Nat.reduceMul, Nat.reduceLeDiff, Nat.reduceLT, Nat.reduceEqDiff, Int.reduceNeg, Nat.reduceBEq]) ⟨by omega, by omega⟩ ?_
          intro out' g' ho' _
          have ho2 := ho'
          rcases ho' with ⟨rfl, hn, _⟩ | ⟨i, rfl, _, _⟩
          · exfalso; simp at hn
          · simp -implicitDefEqProofs (disch := omega) only [go_sem, ↓reduceIte, Nat.reduceAdd, Nat.reduceSub, Nat.reduceMul, Nat.reduceLeDiff, Nat.reduceLT, Nat.reduceEqDiff, Int.reduceNeg, Nat.reduceBEq]
            refine ⟨(k + 1, .hs (i + (g.length + gB.length + 3)) 0 (k + 1) false, g'), ⟨by dsimp only; omega, ?_⟩, by dsimp only; omega, by simp, by simp⟩
            dsimp only
            rw [take_getD (d := []) (by omega), List.map_append, List.map_append]
            exact ho2
        · rw [List.take_of_length_le (by omega)] at hoV
          have hkk : k = s.values.length := by omega
          subst hkk
          clear hk hc
          have hsor : (renamed s a b).sorts.length = s.sorts.length := by simp [renamed, changeS]
          have hops : (renamed s a b).ops.length = s.ops.length := by simp [renamed, changeS]
          have hfun : (renamed s a b).funs.length = s.funs.length := by simp [renamed, changeS]
          have hval : (renamed s a b).values.length = s.values.length := by simp [renamed, changeS]
          have hbel : (renamed s a b).below.length = s.below.length := by simp [renamed, changeS]
          have r0 : ∀ x y z, Rds (x :: y :: z :: (g ++ (gB ++ (gV ++ [.arr false 7 ((s.ops.map (swS s a b)).flatMap opCells), .arr false 7 ((s.funs.map (swS s a b)).flatMap opCells)])))) 1 out ((renamed s a b).sorts.map .s) (renamed s a b).sorts.length := fun x y z => by
            rw [hsor]; exact rds_of (pre := [x, y, z]) ho rfl rfl
          have r1 : ∀ x y z, Rds (x :: y :: z :: (g ++ (gB ++ (gV ++ [.arr false 7 ((s.ops.map (swS s a b)).flatMap opCells), .arr false 7 ((s.funs.map (swS s a b)).flatMap opCells)])))) 2 outB ((renamed s a b).below.flatMap pairCells) (renamed s a b).below.length := fun x y z => by
            rw [hbel]; exact rds_of (pre := x :: y :: z :: g) hoB (by simp) (by simp; rfl)
          have r4 : ∀ x y z, Rds (x :: y :: z :: (g ++ (gB ++ (gV ++ [.arr false 7 ((s.ops.map (swS s a b)).flatMap opCells), .arr false 7 ((s.funs.map (swS s a b)).flatMap opCells)])))) 1 outV ((renamed s a b).values.map .s) (renamed s a b).values.length := fun x y z => by
            rw [hval]; exact rds_of (pre := x :: y :: z :: (g ++ gB)) hoV (by simp) (by simp; rfl)
          have r2 : ∀ x y z, Rds (x :: y :: z :: (g ++ (gB ++ (gV ++ [.arr false 7 ((s.ops.map (swS s a b)).flatMap opCells), .arr false 7 ((s.funs.map (swS s a b)).flatMap opCells)])))) 7 (.hs (g.length + (gB.length + gV.length) + 1 + 1 + 1) 0 s.ops.length false) ((renamed s a b).ops.flatMap opCells) (renamed s a b).ops.length := fun x y z => by
            rw [hops]
            refine .inr ⟨_, rfl, ?_, by rw [op_flat_len, hops]⟩
            simp -implicitDefEqProofs (disch := omega) only [go_sem, ↓reduceIte, Nat.reduceAdd, Nat.reduceSub, Nat.reduceMul, Nat.reduceLeDiff, Nat.reduceLT, Nat.reduceEqDiff, Int.reduceNeg, Nat.reduceBEq]
            rfl
          have r3 : ∀ x y z, Rds (x :: y :: z :: (g ++ (gB ++ (gV ++ [.arr false 7 ((s.ops.map (swS s a b)).flatMap opCells), .arr false 7 ((s.funs.map (swS s a b)).flatMap opCells)])))) 7 (.hs (g.length + (gB.length + (gV.length + 1)) + 1 + 1 + 1) 0 s.funs.length false) ((renamed s a b).funs.flatMap opCells) (renamed s a b).funs.length := fun x y z => by
            rw [hfun]
            refine .inr ⟨_, rfl, ?_, by rw [op_flat_len, hfun]⟩
            simp -implicitDefEqProofs (disch := omega) only [go_sem, ↓reduceIte, Nat.reduceAdd, Nat.reduceSub, Nat.reduceMul, Nat.reduceLeDiff, Nat.reduceLT, Nat.reduceEqDiff, Int.reduceNeg, Nat.reduceBEq]
            rfl
          refine c_ctrE (ctr13 (renamed s a b) (renamed_small hm) (renamed_ok hs (by omega) (by omega))) ?_ ?_
          · simp only [List.map_cons, List.map_nil]
            rw [snap_sigR (r0 _ _ _) (r1 _ _ _) (r2 _ _ _) (r3 _ _ _) (r4 _ _ _)]
          · simp -implicitDefEqProofs (disch := omega) only [go_sem, ↓reduceIte, Nat.reduceAdd, Nat.reduceSub, Nat.reduceMul, Nat.reduceLeDiff, Nat.reduceLT, Nat.reduceEqDiff, Int.reduceNeg, Nat.reduceBEq]
            (repeat' (first | refine g_true ?_ ?_ | refine g_false ?_ ?_ | refine cond_intro ?_ ?_ | refine And.intro (by omega) ?_ | (intro hr; have hc := hr; (try simp only [decide_eq_true_eq, decide_eq_false_iff_not, Bool.not_eq_true', Bool.not_eq_false'] at hc); simp -implicitDefEqProofs (disch := omega) only [hr, go_sem, ↓reduceIte, Nat.reduceAdd, Nat.reduceSub, Nat.reduceMul, Nat.reduceLeDiff, Nat.reduceLT, Nat.reduceEqDiff, Int.reduceNeg, Nat.reduceBEq]; (try clear hr))))
            · rw [renameR_t hall hc]
              exact fin_z
            · rw [renameR_y hall hc]
              exact fin_sigR (r0 _ _ _) (r1 _ _ _) (r2 _ _ _) (r3 _ _ _) (r4 _ _ _)
end Go.Proofs.YtadileniakikeaaGreatDoor
set_option maxRecDepth 100000
set_option linter.unusedSimpArgs false
set_option linter.unusedVariables false
namespace Go.Proofs.YtadileniakikeaaGreatDoor
open Go Go.Vo

/-! ## SortsNames -/
theorem rename_some {s : LSig} {a b : Str} (hm : Small s) (hs : OkS s) (ha : a.length ≤ 140737488355328) (hb : b.length ≤ 140737488355328) : ∃ s' c, OkS s' ∧ renameR s a b = .tup [.agg (sigCells s'), .i .i64 c] := by
  have hz : OkS sigZ := ⟨by decide, by simp [sigZ], by decide, by simp [sigZ], by decide, by simp [sigZ], by decide, by simp [sigZ], by decide, by decide, by decide, by simp [sigZ]⟩
  cases h : validB s && isName a && isName b with
  | false => exact ⟨sigZ, 2, hz, renameR_n h⟩
  | true =>
    cases h2 : validB (renamed s a b) with
    | false => exact ⟨sigZ, 14, hz, renameR_t h h2⟩
    | true =>
      have h3 := h
      simp only [Bool.and_eq_true] at h3
      have la := name_len h3.1.2
      have lb := name_len h3.2
      exact ⟨_, 0, renamed_ok hs (by omega) (by omega), renameR_y h h2⟩
set_option maxHeartbeats 4000000 in
theorem ctr9 (s t : LSig) (a b : Str) (hs : OkS s) (ht : OkS t) (ha : a.length ≤ 140737488355328) (hb : b.length ≤ 140737488355328): Ctr Tryz.prog G0 9 [.agg (sigCells s), .agg (sigCells t), .agg [.s a, .s b]] (.b true) := by
  refine sem_intro (rx := false) mixed Tryz.func9 rfl (by kernel_rfl) (by kernel_rfl) (ac := ?_) ?_ g0 ?_
  rotate_left
  · simp only [strip, stripOps, stripOp, hoist, List.filter_cons, List.filter_nil, List.nil_append, List.cons_append, isFree, anyPre, Region.binds, Bool.not_true, Bool.not_false, Bool.false_eq_true, if_true, if_false, Option.isNone_none, Option.isNone_some, Bool.true_and, Bool.false_and, List.map_nil, List.map_cons, List.isEmpty_nil, List.isEmpty_cons, List.append_nil]
    rfl
  · simp -implicitDefEqProofs (disch := omega) only [Tryz.f9, go_sem, List.replicate, ↓reduceIte, Nat.reduceAdd, Nat.reduceSub, Nat.reduceMul, Nat.reduceLeDiff, Nat.reduceLT, Nat.reduceEqDiff, Int.reduceNeg, Nat.reduceBEq]
    have awake1 := ctr11
    by_cases hf : few s = true
    · by_cases hg : few t = true
      · have hm := few_small hf
        have hh := few_short hf
        obtain ⟨s', c, ok, e⟩ := rename_some hm hs ha hb
        have c28 := ctr28 s a b hm hs hh ha hb
        have c37 := ctr37 s a b hm hs hh ha hb
        rw [e] at c28 c37
        have c29 := ctr29 s' s' ok ok
        rw [same_eq.2 rfl] at c29
        have e38 := ctr38 s s hs hs
        rw [same_eq.2 rfl] at e38
        (repeat' (first | refine g_true ?_ ?_ | refine g_false ?_ ?_ | refine cond_intro ?_ ?_ | (refine c_ctrE (ctr10 s hs) ?_ ?_; (focus (simp -implicitDefEqProofs (disch := omega) only [hf, hg, eq_self, decide_true, Int.toNat_one, Int.reduceToNat, avs, avb, avi, avo, sigCells, opCells, pairCells, go_sem, ↓reduceIte, Nat.reduceAdd, Nat.reduceSub, Nat.reduceMul, Nat.reduceLeDiff, Nat.reduceLT, Nat.reduceEqDiff, Int.reduceNeg, Nat.reduceBEq]; done)); simp -implicitDefEqProofs (disch := omega) only [hf, hg, eq_self, decide_true, Int.toNat_one, Int.reduceToNat, go_sem, ↓reduceIte, Nat.reduceAdd, Nat.reduceSub, Nat.reduceMul, Nat.reduceLeDiff, Nat.reduceLT, Nat.reduceEqDiff, Int.reduceNeg, Nat.reduceBEq]) | (refine c_ctrE (ctr10 t ht) ?_ ?_; (focus (simp -implicitDefEqProofs (disch := omega) only [hf, hg, eq_self, decide_true, Int.toNat_one, Int.reduceToNat, avs, avb, avi, avo, sigCells, opCells, pairCells, go_sem, ↓reduceIte, Nat.reduceAdd, Nat.reduceSub, Nat.reduceMul, Nat.reduceLeDiff, Nat.reduceLT, Nat.reduceEqDiff, Int.reduceNeg, Nat.reduceBEq]; done)); simp -implicitDefEqProofs (disch := omega) only [hf, hg, eq_self, decide_true, Int.toNat_one, Int.reduceToNat, go_sem, ↓reduceIte, Nat.reduceAdd, Nat.reduceSub, Nat.reduceMul, Nat.reduceLeDiff, Nat.reduceLT, Nat.reduceEqDiff, Int.reduceNeg, Nat.reduceBEq]) | (refine c_ctrE (ctr11) ?_ ?_; (focus (simp -implicitDefEqProofs (disch := omega) only [hf, hg, eq_self, decide_true, Int.toNat_one, Int.reduceToNat, avs, avb, avi, avo, sigCells, opCells, pairCells, go_sem, ↓reduceIte, Nat.reduceAdd, Nat.reduceSub, Nat.reduceMul, Nat.reduceLeDiff, Nat.reduceLT, Nat.reduceEqDiff, Int.reduceNeg, Nat.reduceBEq]; done)); simp -implicitDefEqProofs (disch := omega) only [hf, hg, eq_self, decide_true, Int.toNat_one, Int.reduceToNat, go_sem, ↓reduceIte, Nat.reduceAdd, Nat.reduceSub, Nat.reduceMul, Nat.reduceLeDiff, Nat.reduceLT, Nat.reduceEqDiff, Int.reduceNeg, Nat.reduceBEq]) | (refine c_ctrE (c28) ?_ ?_; (focus (simp -implicitDefEqProofs (disch := omega) only [hf, hg, eq_self, decide_true, Int.toNat_one, Int.reduceToNat, avs, avb, avi, avo, sigCells, opCells, pairCells, go_sem, ↓reduceIte, Nat.reduceAdd, Nat.reduceSub, Nat.reduceMul, Nat.reduceLeDiff, Nat.reduceLT, Nat.reduceEqDiff, Int.reduceNeg, Nat.reduceBEq]; done)); simp -implicitDefEqProofs (disch := omega) only [hf, hg, eq_self, decide_true, Int.toNat_one, Int.reduceToNat, go_sem, ↓reduceIte, Nat.reduceAdd, Nat.reduceSub, Nat.reduceMul, Nat.reduceLeDiff, Nat.reduceLT, Nat.reduceEqDiff, Int.reduceNeg, Nat.reduceBEq]) | (refine c_ctrE (c37) ?_ ?_; (focus (simp -implicitDefEqProofs (disch := omega) only [hf, hg, eq_self, decide_true, Int.toNat_one, Int.reduceToNat, avs, avb, avi, avo, sigCells, opCells, pairCells, go_sem, ↓reduceIte, Nat.reduceAdd, Nat.reduceSub, Nat.reduceMul, Nat.reduceLeDiff, Nat.reduceLT, Nat.reduceEqDiff, Int.reduceNeg, Nat.reduceBEq]; done)); simp -implicitDefEqProofs (disch := omega) only [hf, hg, eq_self, decide_true, Int.toNat_one, Int.reduceToNat, go_sem, ↓reduceIte, Nat.reduceAdd, Nat.reduceSub, Nat.reduceMul, Nat.reduceLeDiff, Nat.reduceLT, Nat.reduceEqDiff, Int.reduceNeg, Nat.reduceBEq]) | (refine c_ctrE (c29) ?_ ?_; (focus (simp -implicitDefEqProofs (disch := omega) only [hf, hg, eq_self, decide_true, Int.toNat_one, Int.reduceToNat, avs, avb, avi, avo, sigCells, opCells, pairCells, go_sem, ↓reduceIte, Nat.reduceAdd, Nat.reduceSub, Nat.reduceMul, Nat.reduceLeDiff, Nat.reduceLT, Nat.reduceEqDiff, Int.reduceNeg, Nat.reduceBEq]; done)); simp -implicitDefEqProofs (disch := omega) only [hf, hg, eq_self, decide_true, Int.toNat_one, Int.reduceToNat, go_sem, ↓reduceIte, Nat.reduceAdd, Nat.reduceSub, Nat.reduceMul, Nat.reduceLeDiff, Nat.reduceLT, Nat.reduceEqDiff, Int.reduceNeg, Nat.reduceBEq]) | (refine c_ctrE (ctr38 s t hs ht) ?_ ?_; (focus (simp -implicitDefEqProofs (disch := omega) only [hf, hg, eq_self, decide_true, Int.toNat_one, Int.reduceToNat, avs, avb, avi, avo, sigCells, opCells, pairCells, go_sem, ↓reduceIte, Nat.reduceAdd, Nat.reduceSub, Nat.reduceMul, Nat.reduceLeDiff, Nat.reduceLT, Nat.reduceEqDiff, Int.reduceNeg, Nat.reduceBEq]; done)); simp -implicitDefEqProofs (disch := omega) only [hf, hg, eq_self, decide_true, Int.toNat_one, Int.reduceToNat, go_sem, ↓reduceIte, Nat.reduceAdd, Nat.reduceSub, Nat.reduceMul, Nat.reduceLeDiff, Nat.reduceLT, Nat.reduceEqDiff, Int.reduceNeg, Nat.reduceBEq]) | (refine c_ctrE (ctr29 s t hs ht) ?_ ?_; (focus (simp -implicitDefEqProofs (disch := omega) only [hf, hg, eq_self, decide_true, Int.toNat_one, Int.reduceToNat, avs, avb, avi, avo, sigCells, opCells, pairCells, go_sem, ↓reduceIte, Nat.reduceAdd, Nat.reduceSub, Nat.reduceMul, Nat.reduceLeDiff, Nat.reduceLT, Nat.reduceEqDiff, Int.reduceNeg, Nat.reduceBEq]; done)); simp -implicitDefEqProofs (disch := omega) only [hf, hg, eq_self, decide_true, Int.toNat_one, Int.reduceToNat, go_sem, ↓reduceIte, Nat.reduceAdd, Nat.reduceSub, Nat.reduceMul, Nat.reduceLeDiff, Nat.reduceLT, Nat.reduceEqDiff, Int.reduceNeg, Nat.reduceBEq]) | (refine c_ctrE (e38) ?_ ?_; (focus (simp -implicitDefEqProofs (disch := omega) only [hf, hg, eq_self, decide_true, Int.toNat_one, Int.reduceToNat, avs, avb, avi, avo, sigCells, opCells, pairCells, go_sem, ↓reduceIte, Nat.reduceAdd, Nat.reduceSub, Nat.reduceMul, Nat.reduceLeDiff, Nat.reduceLT, Nat.reduceEqDiff, Int.reduceNeg, Nat.reduceBEq]; done)); simp -implicitDefEqProofs (disch := omega) only [hf, hg, eq_self, decide_true, Int.toNat_one, Int.reduceToNat, go_sem, ↓reduceIte, Nat.reduceAdd, Nat.reduceSub, Nat.reduceMul, Nat.reduceLeDiff, Nat.reduceLT, Nat.reduceEqDiff, Int.reduceNeg, Nat.reduceBEq]) | (refine c_ctrE (ctr39 a) ?_ ?_; (focus (simp -implicitDefEqProofs (disch := omega) only [hf, hg, eq_self, decide_true, Int.toNat_one, Int.reduceToNat, avs, avb, avi, avo, sigCells, opCells, pairCells, go_sem, ↓reduceIte, Nat.reduceAdd, Nat.reduceSub, Nat.reduceMul, Nat.reduceLeDiff, Nat.reduceLT, Nat.reduceEqDiff, Int.reduceNeg, Nat.reduceBEq]; done)); simp -implicitDefEqProofs (disch := omega) only [hf, hg, eq_self, decide_true, Int.toNat_one, Int.reduceToNat, go_sem, ↓reduceIte, Nat.reduceAdd, Nat.reduceSub, Nat.reduceMul, Nat.reduceLeDiff, Nat.reduceLT, Nat.reduceEqDiff, Int.reduceNeg, Nat.reduceBEq]) | (refine c_ctrE (ctr40 a) ?_ ?_; (focus (simp -implicitDefEqProofs (disch := omega) only [hf, hg, eq_self, decide_true, Int.toNat_one, Int.reduceToNat, avs, avb, avi, avo, sigCells, opCells, pairCells, go_sem, ↓reduceIte, Nat.reduceAdd, Nat.reduceSub, Nat.reduceMul, Nat.reduceLeDiff, Nat.reduceLT, Nat.reduceEqDiff, Int.reduceNeg, Nat.reduceBEq]; done)); simp -implicitDefEqProofs (disch := omega) only [hf, hg, eq_self, decide_true, Int.toNat_one, Int.reduceToNat, go_sem, ↓reduceIte, Nat.reduceAdd, Nat.reduceSub, Nat.reduceMul, Nat.reduceLeDiff, Nat.reduceLT, Nat.reduceEqDiff, Int.reduceNeg, Nat.reduceBEq]) | (refine c_ctrE (ctr41 a ha) ?_ ?_; (focus (simp -implicitDefEqProofs (disch := omega) only [hf, hg, eq_self, decide_true, Int.toNat_one, Int.reduceToNat, avs, avb, avi, avo, sigCells, opCells, pairCells, go_sem, ↓reduceIte, Nat.reduceAdd, Nat.reduceSub, Nat.reduceMul, Nat.reduceLeDiff, Nat.reduceLT, Nat.reduceEqDiff, Int.reduceNeg, Nat.reduceBEq]; done)); simp -implicitDefEqProofs (disch := omega) only [hf, hg, eq_self, decide_true, Int.toNat_one, Int.reduceToNat, go_sem, ↓reduceIte, Nat.reduceAdd, Nat.reduceSub, Nat.reduceMul, Nat.reduceLeDiff, Nat.reduceLT, Nat.reduceEqDiff, Int.reduceNeg, Nat.reduceBEq]) | (refine c_ctrE (ctr42 a ha) ?_ ?_; (focus (simp -implicitDefEqProofs (disch := omega) only [hf, hg, eq_self, decide_true, Int.toNat_one, Int.reduceToNat, avs, avb, avi, avo, sigCells, opCells, pairCells, go_sem, ↓reduceIte, Nat.reduceAdd, Nat.reduceSub, Nat.reduceMul, Nat.reduceLeDiff, Nat.reduceLT, Nat.reduceEqDiff, Int.reduceNeg, Nat.reduceBEq]; done)); simp -implicitDefEqProofs (disch := omega) only [hf, hg, eq_self, decide_true, Int.toNat_one, Int.reduceToNat, go_sem, ↓reduceIte, Nat.reduceAdd, Nat.reduceSub, Nat.reduceMul, Nat.reduceLeDiff, Nat.reduceLT, Nat.reduceEqDiff, Int.reduceNeg, Nat.reduceBEq]) | refine And.intro (by omega) ?_ | (intro hr; have hc := hr; (try simp only [decide_eq_true_eq, decide_eq_false_iff_not, Bool.not_eq_true', Bool.not_eq_false'] at hc); simp -implicitDefEqProofs (disch := omega) only [hr, hf, hg, eq_self, decide_true, Int.toNat_one, Int.reduceToNat, go_sem, ↓reduceIte, Nat.reduceAdd, Nat.reduceSub, Nat.reduceMul, Nat.reduceLeDiff, Nat.reduceLT, Nat.reduceEqDiff, Int.reduceNeg, Nat.reduceBEq]; (try clear hr))))
        all_goals exact fin_eq rfl rfl
      · have hg := Bool.eq_false_iff.2 hg
        (repeat' (first | refine g_true ?_ ?_ | refine g_false ?_ ?_ | refine cond_intro ?_ ?_ | (refine c_ctrE (ctr10 s hs) ?_ ?_; (focus (simp -implicitDefEqProofs (disch := omega) only [hf, hg, avs, avb, avi, avo, sigCells, opCells, pairCells, go_sem, ↓reduceIte, Nat.reduceAdd, Nat.reduceSub, Nat.reduceMul, Nat.reduceLeDiff, Nat.reduceLT, Nat.reduceEqDiff, Int.reduceNeg, Nat.reduceBEq]; done)); simp -implicitDefEqProofs (disch := omega) only [hf, hg, go_sem, ↓reduceIte, Nat.reduceAdd, Nat.reduceSub, Nat.reduceMul, Nat.reduceLeDiff, Nat.reduceLT, Nat.reduceEqDiff, Int.reduceNeg, Nat.reduceBEq]) | (refine c_ctrE (ctr10 t ht) ?_ ?_; (focus (simp -implicitDefEqProofs (disch := omega) only [hf, hg, avs, avb, avi, avo, sigCells, opCells, pairCells, go_sem, ↓reduceIte, Nat.reduceAdd, Nat.reduceSub, Nat.reduceMul, Nat.reduceLeDiff, Nat.reduceLT, Nat.reduceEqDiff, Int.reduceNeg, Nat.reduceBEq]; done)); simp -implicitDefEqProofs (disch := omega) only [hf, hg, go_sem, ↓reduceIte, Nat.reduceAdd, Nat.reduceSub, Nat.reduceMul, Nat.reduceLeDiff, Nat.reduceLT, Nat.reduceEqDiff, Int.reduceNeg, Nat.reduceBEq]) | (refine c_ctrE (ctr11) ?_ ?_; (focus (simp -implicitDefEqProofs (disch := omega) only [hf, hg, avs, avb, avi, avo, sigCells, opCells, pairCells, go_sem, ↓reduceIte, Nat.reduceAdd, Nat.reduceSub, Nat.reduceMul, Nat.reduceLeDiff, Nat.reduceLT, Nat.reduceEqDiff, Int.reduceNeg, Nat.reduceBEq]; done)); simp -implicitDefEqProofs (disch := omega) only [hf, hg, go_sem, ↓reduceIte, Nat.reduceAdd, Nat.reduceSub, Nat.reduceMul, Nat.reduceLeDiff, Nat.reduceLT, Nat.reduceEqDiff, Int.reduceNeg, Nat.reduceBEq]) | refine And.intro (by omega) ?_ | (intro hr; have hc := hr; (try simp only [decide_eq_true_eq, decide_eq_false_iff_not, Bool.not_eq_true', Bool.not_eq_false'] at hc); simp -implicitDefEqProofs (disch := omega) only [hr, hf, hg, go_sem, ↓reduceIte, Nat.reduceAdd, Nat.reduceSub, Nat.reduceMul, Nat.reduceLeDiff, Nat.reduceLT, Nat.reduceEqDiff, Int.reduceNeg, Nat.reduceBEq]; (try clear hr))))
        exact fin_eq rfl rfl
    · have hf := Bool.eq_false_iff.2 hf
      (repeat' (first | refine g_true ?_ ?_ | refine g_false ?_ ?_ | refine cond_intro ?_ ?_ | (refine c_ctrE (ctr10 s hs) ?_ ?_; (focus (simp -implicitDefEqProofs (disch := omega) only [hf, avs, avb, avi, avo, sigCells, opCells, pairCells, go_sem, ↓reduceIte, Nat.reduceAdd, Nat.reduceSub, Nat.reduceMul, Nat.reduceLeDiff, Nat.reduceLT, Nat.reduceEqDiff, Int.reduceNeg, Nat.reduceBEq]; done)); simp -implicitDefEqProofs (disch := omega) only [hf, go_sem, ↓reduceIte, Nat.reduceAdd, Nat.reduceSub, Nat.reduceMul, Nat.reduceLeDiff, Nat.reduceLT, Nat.reduceEqDiff, Int.reduceNeg, Nat.reduceBEq]) | (refine c_ctrE (ctr11) ?_ ?_; (focus (simp -implicitDefEqProofs (disch := omega) only [hf, avs, avb, avi, avo, sigCells, opCells, pairCells, go_sem, ↓reduceIte, Nat.reduceAdd, Nat.reduceSub, Nat.reduceMul, Nat.reduceLeDiff, Nat.reduceLT, Nat.reduceEqDiff, Int.reduceNeg, Nat.reduceBEq]; done)); simp -implicitDefEqProofs (disch := omega) only [hf, go_sem, ↓reduceIte, Nat.reduceAdd, Nat.reduceSub, Nat.reduceMul, Nat.reduceLeDiff, Nat.reduceLT, Nat.reduceEqDiff, Int.reduceNeg, Nat.reduceBEq]) | refine And.intro (by omega) ?_ | (intro hr; have hc := hr; (try simp only [decide_eq_true_eq, decide_eq_false_iff_not, Bool.not_eq_true', Bool.not_eq_false'] at hc); simp -implicitDefEqProofs (disch := omega) only [hr, hf, go_sem, ↓reduceIte, Nat.reduceAdd, Nat.reduceSub, Nat.reduceMul, Nat.reduceLeDiff, Nat.reduceLT, Nat.reduceEqDiff, Int.reduceNeg, Nat.reduceBEq]; (try clear hr))))
      exact fin_eq rfl rfl
end Go.Proofs.YtadileniakikeaaGreatDoor

/-
  What functions of the chapter return, as plain functions of what they are given; no condition beyond those that each theorem names.
-/
import Derived.Test.YtadileniakikeaaGreatDoorSoAs
import Derived.Sort.Walk0
set_option maxRecDepth 100000
set_option linter.unusedSimpArgs false
set_option linter.unusedVariables false
namespace Go.Proofs.YtadileniakikeaaGreatDoor
open Go Go.Vo

/-! ## the reference: operators found, sorts listed -/
theorem ne_of {a b : LOp} {α : Type} (f : LOp → α) (h : ¬ f a = f b) : decide (a = b) = false := decide_eq_false fun e => h (by rw [e])
set_option maxHeartbeats 4000000 in
theorem ctr16 (a b : LOp) (ha : OkO a) (hb : OkO b): Ctr Tryz.prog G0 16 [elO a, elO b] (.b (decide (a = b))) := by
  refine sem_intro (rx := false) mixed Tryz.func16 rfl (by kernel_rfl) (by kernel_rfl) (ac := ?_) ?_ g0 ?_
  rotate_left
  · simp only [strip, stripOps, stripOp, hoist, List.filter_cons, List.filter_nil, List.nil_append, List.cons_append, isFree, anyPre, Region.binds, Bool.not_true, Bool.not_false, Bool.false_eq_true, if_true, if_false, Option.isNone_none, Option.isNone_some, Bool.true_and, Bool.false_and, List.map_nil, List.map_cons, List.isEmpty_nil, List.isEmpty_cons, List.append_nil]
    rfl
  · simp -implicitDefEqProofs (disch := omega) only [Tryz.f16, go_sem, List.replicate, ↓reduceIte, Nat.reduceAdd, Nat.reduceSub, Nat.reduceMul, Nat.reduceLeDiff, Nat.reduceLT, Nat.reduceEqDiff, Int.reduceNeg, Nat.reduceBEq]
    have a1 := ha.args
    have a2 := ha.pieces
    have a3 := ha.strict
    have b1 := hb.args
    have b2 := hb.pieces
    have b3 := hb.strict
    (repeat' (first | refine g_true ?_ ?_ | refine g_false ?_ ?_ | refine cond_intro ?_ ?_ | (refine c_ctrE (ctr67 a.args b.args a1 b1) ?_ ?_; (focus (simp -implicitDefEqProofs (disch := omega) only [avs, avb, avi, avo, sigCells, opCells, pairCells, go_sem, ↓reduceIte, Nat.reduceAdd, Nat.reduceSub, Nat.reduceMul, Nat.reduceLeDiff, Nat.reduceLT, Nat.reduceEqDiff, Int.reduceNeg, Nat.reduceBEq]; done)); simp -implicitDefEqProofs (disch := omega) only [go_sem, ↓reduceIte, Nat.reduceAdd, Nat.reduceSub, Nat.reduceMul, Nat.reduceLeDiff, Nat.reduceLT, Nat.reduceEqDiff, Int.reduceNeg, Nat.reduceBEq]) | refine And.intro (by omega) ?_ | (intro hr; have hc := hr; (try simp only [decide_eq_true_eq, decide_eq_false_iff_not, Bool.not_eq_true', Bool.not_eq_false'] at hc); simp -implicitDefEqProofs (disch := omega) only [hr, go_sem, ↓reduceIte, Nat.reduceAdd, Nat.reduceSub, Nat.reduceMul, Nat.reduceLeDiff, Nat.reduceLT, Nat.reduceEqDiff, Int.reduceNeg, Nat.reduceBEq]; (try clear hr))))
    all_goals first | (refine fin_eq ?_ (by rfl); rw [← opSame_eq]; simp_all [opSame]; done) | (refine fin_eq ?_ (by rfl); first | rw [ne_of LOp.pieces (fun h => hc (by rw [h]))] | rw [ne_of LOp.strict (fun h => hc (by rw [h]))]) | skip
    refine x_loopJ (fun (k : Nat) => [.k, .k, .k, .k, .j, .j, .k, .k, .k, .k, .k, .k, .k, .k, .k, .k, .k, .k, .k, .k, .k, .k, .k, .k, .k, .k, .k, .k, .k, .k, .k, .k, .k, .k, .k, .k, .k, .k, .k, .k, .k, .k, .k, .k, .k, .k, .k, .k, .k, .k, .k, .k, .k, .k, .k, .k, .k, .k, .k, .k, .k, .k, .v (.i .i64 k), .j, .j, .j, .j, .j, .j, .j, .j, .j, .j, .j, .j, .j, .j, .k, .k, .k, .k, .k, .k, .k, .k, .k, .k, .k, .k, .k, .k, .k, .k, .k, .k]) (fun k => [.box false (opCells a), .box false (opCells b)]) (fun k => k ≤ a.pieces.length ∧ ∀ j, j < k → a.pieces.getD j ([], []) = b.pieces.getD j ([], [])) (fun k => a.pieces.length - k) (0) ⟨Nat.zero_le _, fun j h => by omega⟩ rfl (by simp [Fits]) ?_
    rintro k j ⟨hk, hp⟩
    simp -implicitDefEqProofs (disch := omega) only [pairB, go_sem, ↓reduceIte, Nat.reduceAdd, Nat.reduceSub, Nat.reduceMul, Nat.reduceLeDiff, Nat.reduceLT, Nat.reduceEqDiff, Int.reduceNeg, Nat.reduceBEq]
    (repeat' (first | refine g_true ?_ ?_ | refine g_false ?_ ?_ | refine cond_intro ?_ ?_ | refine And.intro (by omega) ?_ | (intro hr; have hc := hr; (try simp only [decide_eq_true_eq, decide_eq_false_iff_not, Bool.not_eq_true', Bool.not_eq_false'] at hc); simp -implicitDefEqProofs (disch := omega) only [hr, pairB, go_sem, ↓reduceIte, Nat.reduceAdd, Nat.reduceSub, Nat.reduceMul, Nat.reduceLeDiff, Nat.reduceLT, Nat.reduceEqDiff, Int.reduceNeg, Nat.reduceBEq]; (try clear hr))))
    · refine fin_eq ?_ (by rfl)
      rw [ne_of LOp.pieces (fun h => by simp [h] at *)]
    · exact ⟨k + 1, ⟨by omega, below_succ hp (Prod.ext_iff.2 (by simpa using hc))⟩, by omega, by simp⟩
    · have hpe : a.pieces = b.pieces := eq_getD (d := ([], [])) (by omega) (fun j hj => hp j (by omega))
      refine x_loopJ (fun (k : Nat) => [.k, .k, .k, .k, .j, .k, .j, .k, .k, .k, .k, .k, .k, .k, .k, .k, .k, .k, .k, .k, .k, .k, .k, .k, .k, .k, .k, .k, .k, .k, .k, .k, .k, .k, .k, .k, .k, .k, .k, .k, .k, .k, .k, .k, .k, .k, .k, .k, .k, .k, .k, .k, .k, .k, .k, .k, .k, .k, .k, .k, .k, .k, .k, .k, .k, .k, .k, .k, .k, .k, .k, .k, .k, .k, .k, .k, .k, .k, .k, .k, .v (.i .i64 k), .j, .j, .j, .j, .j, .j, .j, .j, .j, .j, .j, .j, .j, .j]) (fun k => [.box false (opCells a), .box false (opCells b)]) (fun k => k ≤ a.strict.length ∧ ∀ j, j < k → a.strict.getD j 0 = b.strict.getD j 0) (fun k => a.strict.length - k) (0) ⟨Nat.zero_le _, fun j h => by omega⟩ rfl (by simp [Fits]) ?_
      rintro k j ⟨hk, hp⟩
      simp -implicitDefEqProofs (disch := omega) only [go_sem, ↓reduceIte, Nat.reduceAdd, Nat.reduceSub, Nat.reduceMul, Nat.reduceLeDiff, Nat.reduceLT, Nat.reduceEqDiff, Int.reduceNeg, Nat.reduceBEq]
      (repeat' (first | refine g_true ?_ ?_ | refine g_false ?_ ?_ | refine cond_intro ?_ ?_ | refine And.intro (by omega) ?_ | (intro hr; have hc := hr; (try simp only [decide_eq_true_eq, decide_eq_false_iff_not, Bool.not_eq_true', Bool.not_eq_false'] at hc); simp -implicitDefEqProofs (disch := omega) only [hr, go_sem, ↓reduceIte, Nat.reduceAdd, Nat.reduceSub, Nat.reduceMul, Nat.reduceLeDiff, Nat.reduceLT, Nat.reduceEqDiff, Int.reduceNeg, Nat.reduceBEq]; (try clear hr))))
      · refine fin_eq ?_ (by rfl)
        rw [ne_of LOp.strict (fun h => by simp [h] at *)]
      · exact ⟨k + 1, ⟨by omega, below_succ hp (by simpa using hc)⟩, by omega, by simp⟩
      · have hse : a.strict = b.strict := eq_getD (d := 0) (by omega) (fun j hj => hp j (by omega))
        refine fin_eq ?_ (by rfl)
        rw [← opSame_eq]
        simp_all [opSame]
theorem find_at {α : Type} {l : List α} {p : α → Bool} {k : Nat} {d : α} (hk : k < l.length) (h : p (l.getD k d) = true) (hb : ∀ j, j < k → (!p (l.getD j d)) = true) : l.find? p = some (l.getD k d) := by
  rw [List.find?_eq_some_iff_getElem]
  refine ⟨h, k, hk, by simp [List.getD, hk], fun j hj => ?_⟩
  have := hb j hj
  simpa [List.getD, show j < l.length by omega] using this
theorem find_no {α : Type} {l : List α} {p : α → Bool} {d : α} (hb : ∀ j, j < l.length → (!p (l.getD j d)) = true) : l.find? p = none := by
  rw [List.find?_eq_none]
  intro x hx
  obtain ⟨j, hj, rfl⟩ := List.mem_iff_getElem.1 hx
  have := hb j hj
  simpa [List.getD, hj] using this
theorem fin_zeroB {h : List AObj} {b : Bool} : Fin h (.tup [.agg [.s [], .e0, .s [], .e0, .i .i64 0, .i .i64 0, .e0], .b b]) (.tup [elO default, .b b]) :=
  .inr ⟨⟨⟨rfl, rfl, rfl, rfl, rfl, rfl, rfl, trivial⟩, rfl, trivial⟩, by simp [elO, opCells, finIds, finIdsL, avs, avb, avi], by simp [elO, opCells, finIds, finIdsL, avs, avb, avi]⟩
def namedR (r : Option LOp) : AV := match r with
  | some o => .tup [elO o, .b true]
  | none => .tup [elO default, .b false]
set_option maxHeartbeats 4000000 in
theorem ctr120 (l : List LOp) (x : Str) (hl : l.length ≤ 140737488355328): Ctr Tryz.prog G0 120 [avo l, .s x] (namedR (l.find? fun o => decide (o.name = x))) := by
  refine sem_intro (rx := false) mixed Tryz.func120 rfl (by kernel_rfl) (by kernel_rfl) (ac := ?_) ?_ g0 ?_
  rotate_left
  · simp only [strip, stripOps, stripOp, hoist, List.filter_cons, List.filter_nil, List.nil_append, List.cons_append, isFree, anyPre, Region.binds, Bool.not_true, Bool.not_false, Bool.false_eq_true, if_true, if_false, Option.isNone_none, Option.isNone_some, Bool.true_and, Bool.false_and, List.map_nil, List.map_cons, List.isEmpty_nil, List.isEmpty_cons, List.append_nil]
    rfl
  · simp -implicitDefEqProofs (disch := omega) only [Tryz.f120, go_sem, List.replicate, ↓reduceIte, Nat.reduceAdd, Nat.reduceSub, Nat.reduceMul, Nat.reduceLeDiff, Nat.reduceLT, Nat.reduceEqDiff, Int.reduceNeg, Nat.reduceBEq, avo]
    refine x_loopG (fun (k : Nat) => [.k, .k, .k, .k, .k, .j, .k, .j, .k, .k, .v (.i .i64 k), .j, .j, .j, .j, .j, .j, .j, .j, .j, .k]) (fun k => [.box false [.s [], .e0, .s [], .e0, .i .i64 0, .i .i64 0, .e0]]) (fun k => k ≤ l.length ∧ ∀ j, j < k → (!decide ((l.getD j default).name = x)) = true) (fun k => l.length - k) (0) _ ⟨Nat.zero_le _, fun j h => by omega⟩ rfl (by simp [Fits]) ?_
    rintro k g j ⟨hk, ha⟩
    simp -implicitDefEqProofs (disch := omega) only [go_sem, ↓reduceIte, Nat.reduceAdd, Nat.reduceSub, Nat.reduceMul, Nat.reduceLeDiff, Nat.reduceLT, Nat.reduceEqDiff, Int.reduceNeg, Nat.reduceBEq]
    (repeat' (first | refine g_true ?_ ?_ | refine g_false ?_ ?_ | refine cond_intro ?_ ?_ | refine And.intro (by omega) ?_ | (intro hr; have hc := hr; (try simp only [decide_eq_true_eq, decide_eq_false_iff_not, Bool.not_eq_true', Bool.not_eq_false'] at hc); simp -implicitDefEqProofs (disch := omega) only [hr, go_sem, ↓reduceIte, Nat.reduceAdd, Nat.reduceSub, Nat.reduceMul, Nat.reduceLeDiff, Nat.reduceLT, Nat.reduceEqDiff, Int.reduceNeg, Nat.reduceBEq]; (try clear hr))))
    · have e : (l.find? fun o => decide (o.name = x)) = some (l.getD k default) := find_at (by omega) (decide_eq_true hc) ha
      rw [e]
      exact fin_eq rfl (by simp only [namedR, elO, pers, persL, persL_ops, opCells, avs, avb, avi, persL_s, persL_i, persL_pair, Bool.and_self])
    · exact ⟨k + 1, _, ⟨by omega, below_succ ha (by rw [decide_eq_false hc]; rfl)⟩, by omega, rfl, by simp⟩
    · have e : (l.find? fun o => decide (o.name = x)) = none := find_no (d := default) (fun j hj => ha j (by omega))
      rw [e]
      exact fin_zeroB
def findE (s : LSig) (r : Option LOp) : AV := if validB s then (match r with | some o => .tup [elO o, .i .i64 0] | none => .tup [elO default, .i .i64 4]) else .tup [elO default, .i .i64 2]
theorem findE_n {s : LSig} {r : Option LOp} (h : validB s = false) : findE s r = .tup [elO default, .i .i64 2] := by simp [findE, h]
theorem findE_y {s : LSig} {o : LOp} (h : validB s = true) : findE s (some o) = .tup [elO o, .i .i64 0] := by simp [findE, h]
theorem findE_0 {s : LSig} (h : validB s = true) : findE s none = .tup [elO default, .i .i64 4] := by simp [findE, h]
theorem pers_elO (o : LOp) : pers (elO o) = true := by
  have := persL_ops o
  simpa [elO, pers] using this
theorem pers_find {o : LOp} {c : Int} : pers (.tup [elO o, .i .i64 c]) = true := by
  show (pers (elO o) && (true && true)) = true
  rw [pers_elO]; rfl
set_option maxHeartbeats 4000000 in
theorem ctr66 (s : LSig) (l : List LOp) (x : Str) (hm : Small s) (hs : OkS s) (hl : l.length ≤ 140737488355328): Ctr Tryz.prog G0 66 [.agg (sigCells s), avo l, .s x] (findE s (l.find? fun o => decide (o.name = x))) := by
  refine sem_intro (rx := false) mixed Tryz.func66 rfl (by kernel_rfl) (by kernel_rfl) (ac := ?_) ?_ g0 ?_
  rotate_left
  · simp only [strip, stripOps, stripOp, hoist, List.filter_cons, List.filter_nil, List.nil_append, List.cons_append, isFree, anyPre, Region.binds, Bool.not_true, Bool.not_false, Bool.false_eq_true, if_true, if_false, Option.isNone_none, Option.isNone_some, Bool.true_and, Bool.false_and, List.map_nil, List.map_cons, List.isEmpty_nil, List.isEmpty_cons, List.append_nil]
    rfl
  · simp -implicitDefEqProofs (disch := omega) only [Tryz.f66, go_sem, List.replicate, ↓reduceIte, Nat.reduceAdd, Nat.reduceSub, Nat.reduceMul, Nat.reduceLeDiff, Nat.reduceLT, Nat.reduceEqDiff, Int.reduceNeg, Nat.reduceBEq, avo]
    cases hv : validB s with
    | false =>
      (repeat' (first | refine g_true ?_ ?_ | refine g_false ?_ ?_ | refine cond_intro ?_ ?_ | (refine c_ctrE (ctr13 s hm hs) ?_ ?_; (focus (simp -implicitDefEqProofs (disch := omega) only [hv, avs, avb, avi, avo, sigCells, opCells, pairCells, go_sem, ↓reduceIte, Nat.reduceAdd, Nat.reduceSub, Nat.reduceMul, Nat.reduceLeDiff, Nat.reduceLT, Nat.reduceEqDiff, Int.reduceNeg, Nat.reduceBEq]; done)); simp -implicitDefEqProofs (disch := omega) only [hv, go_sem, ↓reduceIte, Nat.reduceAdd, Nat.reduceSub, Nat.reduceMul, Nat.reduceLeDiff, Nat.reduceLT, Nat.reduceEqDiff, Int.reduceNeg, Nat.reduceBEq]) | refine And.intro (by omega) ?_ | (intro hr; have hc := hr; (try simp only [decide_eq_true_eq, decide_eq_false_iff_not, Bool.not_eq_true', Bool.not_eq_false'] at hc); simp -implicitDefEqProofs (disch := omega) only [hr, hv, go_sem, ↓reduceIte, Nat.reduceAdd, Nat.reduceSub, Nat.reduceMul, Nat.reduceLeDiff, Nat.reduceLT, Nat.reduceEqDiff, Int.reduceNeg, Nat.reduceBEq]; (try clear hr))))
      rw [findE_n hv]
      exact fin_zero
    | true =>
      have h120 := ctr120 l x hl
      cases hr : l.find? (fun o => decide (o.name = x)) with
      | none =>
        rw [hr] at h120
        rw [findE_0 hv]
        (repeat' (first | refine g_true ?_ ?_ | refine g_false ?_ ?_ | refine cond_intro ?_ ?_ | (refine c_ctrE (ctr13 s hm hs) ?_ ?_; (focus (simp -implicitDefEqProofs (disch := omega) only [hv, namedR, elO, avs, avb, avi, avo, sigCells, opCells, pairCells, go_sem, ↓reduceIte, Nat.reduceAdd, Nat.reduceSub, Nat.reduceMul, Nat.reduceLeDiff, Nat.reduceLT, Nat.reduceEqDiff, Int.reduceNeg, Nat.reduceBEq]; done)); simp -implicitDefEqProofs (disch := omega) only [hv, namedR, elO, go_sem, ↓reduceIte, Nat.reduceAdd, Nat.reduceSub, Nat.reduceMul, Nat.reduceLeDiff, Nat.reduceLT, Nat.reduceEqDiff, Int.reduceNeg, Nat.reduceBEq]) | (refine c_ctrE (h120) ?_ ?_; (focus (simp -implicitDefEqProofs (disch := omega) only [hv, namedR, elO, avs, avb, avi, avo, sigCells, opCells, pairCells, go_sem, ↓reduceIte, Nat.reduceAdd, Nat.reduceSub, Nat.reduceMul, Nat.reduceLeDiff, Nat.reduceLT, Nat.reduceEqDiff, Int.reduceNeg, Nat.reduceBEq]; done)); simp -implicitDefEqProofs (disch := omega) only [hv, namedR, elO, go_sem, ↓reduceIte, Nat.reduceAdd, Nat.reduceSub, Nat.reduceMul, Nat.reduceLeDiff, Nat.reduceLT, Nat.reduceEqDiff, Int.reduceNeg, Nat.reduceBEq]) | refine And.intro (by omega) ?_ | (intro hr; have hc := hr; (try simp only [decide_eq_true_eq, decide_eq_false_iff_not, Bool.not_eq_true', Bool.not_eq_false'] at hc); simp -implicitDefEqProofs (disch := omega) only [hr, hv, namedR, elO, go_sem, ↓reduceIte, Nat.reduceAdd, Nat.reduceSub, Nat.reduceMul, Nat.reduceLeDiff, Nat.reduceLT, Nat.reduceEqDiff, Int.reduceNeg, Nat.reduceBEq]; (try clear hr))))
        exact fin_zero
      | some o =>
        rw [hr] at h120
        rw [findE_y hv]
        (repeat' (first | refine g_true ?_ ?_ | refine g_false ?_ ?_ | refine cond_intro ?_ ?_ | (refine c_ctrE (ctr13 s hm hs) ?_ ?_; (focus (simp -implicitDefEqProofs (disch := omega) only [hv, namedR, elO, avs, avb, avi, avo, sigCells, opCells, pairCells, go_sem, ↓reduceIte, Nat.reduceAdd, Nat.reduceSub, Nat.reduceMul, Nat.reduceLeDiff, Nat.reduceLT, Nat.reduceEqDiff, Int.reduceNeg, Nat.reduceBEq]; done)); simp -implicitDefEqProofs (disch := omega) only [hv, namedR, elO, go_sem, ↓reduceIte, Nat.reduceAdd, Nat.reduceSub, Nat.reduceMul, Nat.reduceLeDiff, Nat.reduceLT, Nat.reduceEqDiff, Int.reduceNeg, Nat.reduceBEq]) | (refine c_ctrE (h120) ?_ ?_; (focus (simp -implicitDefEqProofs (disch := omega) only [hv, namedR, elO, avs, avb, avi, avo, sigCells, opCells, pairCells, go_sem, ↓reduceIte, Nat.reduceAdd, Nat.reduceSub, Nat.reduceMul, Nat.reduceLeDiff, Nat.reduceLT, Nat.reduceEqDiff, Int.reduceNeg, Nat.reduceBEq]; done)); simp -implicitDefEqProofs (disch := omega) only [hv, namedR, elO, go_sem, ↓reduceIte, Nat.reduceAdd, Nat.reduceSub, Nat.reduceMul, Nat.reduceLeDiff, Nat.reduceLT, Nat.reduceEqDiff, Int.reduceNeg, Nat.reduceBEq]) | refine And.intro (by omega) ?_ | (intro hr; have hc := hr; (try simp only [decide_eq_true_eq, decide_eq_false_iff_not, Bool.not_eq_true', Bool.not_eq_false'] at hc); simp -implicitDefEqProofs (disch := omega) only [hr, hv, namedR, elO, go_sem, ↓reduceIte, Nat.reduceAdd, Nat.reduceSub, Nat.reduceMul, Nat.reduceLeDiff, Nat.reduceLT, Nat.reduceEqDiff, Int.reduceNeg, Nat.reduceBEq]; (try clear hr))))
        exact fin_eq rfl pers_find
theorem fin_find {h : List AObj} {o : LOp} {c : Int} : Fin h (.tup [.agg (opCells o), .i .i64 c]) (.tup [elO o, .i .i64 c]) := fin_eq rfl pers_find
set_option maxHeartbeats 4000000 in
theorem ctr15 (s : LSig) (x : Str) (hm : Small s) (hs : OkS s): Ctr Tryz.prog G0 15 [.agg (sigCells s), .s x] (findE s (opAt s x)) := by
  refine sem_intro (rx := false) mixed Tryz.func15 rfl (by kernel_rfl) (by kernel_rfl) (ac := ?_) ?_ g0 ?_
  rotate_left
  · simp only [strip, stripOps, stripOp, hoist, List.filter_cons, List.filter_nil, List.nil_append, List.cons_append, isFree, anyPre, Region.binds, Bool.not_true, Bool.not_false, Bool.false_eq_true, if_true, if_false, Option.isNone_none, Option.isNone_some, Bool.true_and, Bool.false_and, List.map_nil, List.map_cons, List.isEmpty_nil, List.isEmpty_cons, List.append_nil]
    rfl
  · simp -implicitDefEqProofs (disch := omega) only [Tryz.f15, go_sem, List.replicate, ↓reduceIte, Nat.reduceAdd, Nat.reduceSub, Nat.reduceMul, Nat.reduceLeDiff, Nat.reduceLT, Nat.reduceEqDiff, Int.reduceNeg, Nat.reduceBEq]
    have c := ctr66 s s.ops x hm hs hs.ops
    change Ctr _ _ _ _ (findE s (opAt s x)) at c
    cases hv : validB s with
    | false =>
      rw [findE_n hv] at c ⊢
      (repeat' (first | refine g_true ?_ ?_ | refine g_false ?_ ?_ | refine cond_intro ?_ ?_ | (refine c_ctrE (c) ?_ ?_; (focus (simp -implicitDefEqProofs (disch := omega) only [elO, avs, avb, avi, avo, sigCells, opCells, pairCells, go_sem, ↓reduceIte, Nat.reduceAdd, Nat.reduceSub, Nat.reduceMul, Nat.reduceLeDiff, Nat.reduceLT, Nat.reduceEqDiff, Int.reduceNeg, Nat.reduceBEq]; done)); simp -implicitDefEqProofs (disch := omega) only [elO, go_sem, ↓reduceIte, Nat.reduceAdd, Nat.reduceSub, Nat.reduceMul, Nat.reduceLeDiff, Nat.reduceLT, Nat.reduceEqDiff, Int.reduceNeg, Nat.reduceBEq]) | refine And.intro (by omega) ?_ | (intro hr; have hc := hr; (try simp only [decide_eq_true_eq, decide_eq_false_iff_not, Bool.not_eq_true', Bool.not_eq_false'] at hc); simp -implicitDefEqProofs (disch := omega) only [hr, elO, go_sem, ↓reduceIte, Nat.reduceAdd, Nat.reduceSub, Nat.reduceMul, Nat.reduceLeDiff, Nat.reduceLT, Nat.reduceEqDiff, Int.reduceNeg, Nat.reduceBEq]; (try clear hr))))
      exact fin_find
    | true =>
      cases hr : opAt s x with
      | none =>
        rw [hr, findE_0 hv] at c
        rw [findE_0 hv]
        (repeat' (first | refine g_true ?_ ?_ | refine g_false ?_ ?_ | refine cond_intro ?_ ?_ | (refine c_ctrE (c) ?_ ?_; (focus (simp -implicitDefEqProofs (disch := omega) only [elO, avs, avb, avi, avo, sigCells, opCells, pairCells, go_sem, ↓reduceIte, Nat.reduceAdd, Nat.reduceSub, Nat.reduceMul, Nat.reduceLeDiff, Nat.reduceLT, Nat.reduceEqDiff, Int.reduceNeg, Nat.reduceBEq]; done)); simp -implicitDefEqProofs (disch := omega) only [elO, go_sem, ↓reduceIte, Nat.reduceAdd, Nat.reduceSub, Nat.reduceMul, Nat.reduceLeDiff, Nat.reduceLT, Nat.reduceEqDiff, Int.reduceNeg, Nat.reduceBEq]) | refine And.intro (by omega) ?_ | (intro hr; have hc := hr; (try simp only [decide_eq_true_eq, decide_eq_false_iff_not, Bool.not_eq_true', Bool.not_eq_false'] at hc); simp -implicitDefEqProofs (disch := omega) only [hr, elO, go_sem, ↓reduceIte, Nat.reduceAdd, Nat.reduceSub, Nat.reduceMul, Nat.reduceLeDiff, Nat.reduceLT, Nat.reduceEqDiff, Int.reduceNeg, Nat.reduceBEq]; (try clear hr))))
        exact fin_find
      | some o =>
        rw [hr, findE_y hv] at c
        rw [findE_y hv]
        (repeat' (first | refine g_true ?_ ?_ | refine g_false ?_ ?_ | refine cond_intro ?_ ?_ | (refine c_ctrE (c) ?_ ?_; (focus (simp -implicitDefEqProofs (disch := omega) only [elO, avs, avb, avi, avo, sigCells, opCells, pairCells, go_sem, ↓reduceIte, Nat.reduceAdd, Nat.reduceSub, Nat.reduceMul, Nat.reduceLeDiff, Nat.reduceLT, Nat.reduceEqDiff, Int.reduceNeg, Nat.reduceBEq]; done)); simp -implicitDefEqProofs (disch := omega) only [elO, go_sem, ↓reduceIte, Nat.reduceAdd, Nat.reduceSub, Nat.reduceMul, Nat.reduceLeDiff, Nat.reduceLT, Nat.reduceEqDiff, Int.reduceNeg, Nat.reduceBEq]) | refine And.intro (by omega) ?_ | (intro hr; have hc := hr; (try simp only [decide_eq_true_eq, decide_eq_false_iff_not, Bool.not_eq_true', Bool.not_eq_false'] at hc); simp -implicitDefEqProofs (disch := omega) only [hr, elO, go_sem, ↓reduceIte, Nat.reduceAdd, Nat.reduceSub, Nat.reduceMul, Nat.reduceLeDiff, Nat.reduceLT, Nat.reduceEqDiff, Int.reduceNeg, Nat.reduceBEq]; (try clear hr))))
        exact fin_find
set_option maxHeartbeats 4000000 in
theorem ctr18 (s : LSig) (x : Str) (hm : Small s) (hs : OkS s): Ctr Tryz.prog G0 18 [.agg (sigCells s), .s x] (findE s (funAt s x)) := by
  refine sem_intro (rx := false) mixed Tryz.func18 rfl (by kernel_rfl) (by kernel_rfl) (ac := ?_) ?_ g0 ?_
  rotate_left
  · simp only [strip, stripOps, stripOp, hoist, List.filter_cons, List.filter_nil, List.nil_append, List.cons_append, isFree, anyPre, Region.binds, Bool.not_true, Bool.not_false, Bool.false_eq_true, if_true, if_false, Option.isNone_none, Option.isNone_some, Bool.true_and, Bool.false_and, List.map_nil, List.map_cons, List.isEmpty_nil, List.isEmpty_cons, List.append_nil]
    rfl
  · simp -implicitDefEqProofs (disch := omega) only [Tryz.f18, go_sem, List.replicate, ↓reduceIte, Nat.reduceAdd, Nat.reduceSub, Nat.reduceMul, Nat.reduceLeDiff, Nat.reduceLT, Nat.reduceEqDiff, Int.reduceNeg, Nat.reduceBEq]
    have c := ctr66 s s.funs x hm hs hs.funs
    change Ctr _ _ _ _ (findE s (funAt s x)) at c
    cases hv : validB s with
    | false =>
      rw [findE_n hv] at c ⊢
      (repeat' (first | refine g_true ?_ ?_ | refine g_false ?_ ?_ | refine cond_intro ?_ ?_ | (refine c_ctrE (c) ?_ ?_; (focus (simp -implicitDefEqProofs (disch := omega) only [elO, avs, avb, avi, avo, sigCells, opCells, pairCells, go_sem, ↓reduceIte, Nat.reduceAdd, Nat.reduceSub, Nat.reduceMul, Nat.reduceLeDiff, Nat.reduceLT, Nat.reduceEqDiff, Int.reduceNeg, Nat.reduceBEq]; done)); simp -implicitDefEqProofs (disch := omega) only [elO, go_sem, ↓reduceIte, Nat.reduceAdd, Nat.reduceSub, Nat.reduceMul, Nat.reduceLeDiff, Nat.reduceLT, Nat.reduceEqDiff, Int.reduceNeg, Nat.reduceBEq]) | refine And.intro (by omega) ?_ | (intro hr; have hc := hr; (try simp only [decide_eq_true_eq, decide_eq_false_iff_not, Bool.not_eq_true', Bool.not_eq_false'] at hc); simp -implicitDefEqProofs (disch := omega) only [hr, elO, go_sem, ↓reduceIte, Nat.reduceAdd, Nat.reduceSub, Nat.reduceMul, Nat.reduceLeDiff, Nat.reduceLT, Nat.reduceEqDiff, Int.reduceNeg, Nat.reduceBEq]; (try clear hr))))
      exact fin_find
    | true =>
      cases hr : funAt s x with
      | none =>
        rw [hr, findE_0 hv] at c
        rw [findE_0 hv]
        (repeat' (first | refine g_true ?_ ?_ | refine g_false ?_ ?_ | refine cond_intro ?_ ?_ | (refine c_ctrE (c) ?_ ?_; (focus (simp -implicitDefEqProofs (disch := omega) only [elO, avs, avb, avi, avo, sigCells, opCells, pairCells, go_sem, ↓reduceIte, Nat.reduceAdd, Nat.reduceSub, Nat.reduceMul, Nat.reduceLeDiff, Nat.reduceLT, Nat.reduceEqDiff, Int.reduceNeg, Nat.reduceBEq]; done)); simp -implicitDefEqProofs (disch := omega) only [elO, go_sem, ↓reduceIte, Nat.reduceAdd, Nat.reduceSub, Nat.reduceMul, Nat.reduceLeDiff, Nat.reduceLT, Nat.reduceEqDiff, Int.reduceNeg, Nat.reduceBEq]) | refine And.intro (by omega) ?_ | (intro hr; have hc := hr; (try simp only [decide_eq_true_eq, decide_eq_false_iff_not, Bool.not_eq_true', Bool.not_eq_false'] at hc); simp -implicitDefEqProofs (disch := omega) only [hr, elO, go_sem, ↓reduceIte, Nat.reduceAdd, Nat.reduceSub, Nat.reduceMul, Nat.reduceLeDiff, Nat.reduceLT, Nat.reduceEqDiff, Int.reduceNeg, Nat.reduceBEq]; (try clear hr))))
        exact fin_find
      | some o =>
        rw [hr, findE_y hv] at c
        rw [findE_y hv]
        (repeat' (first | refine g_true ?_ ?_ | refine g_false ?_ ?_ | refine cond_intro ?_ ?_ | (refine c_ctrE (c) ?_ ?_; (focus (simp -implicitDefEqProofs (disch := omega) only [elO, avs, avb, avi, avo, sigCells, opCells, pairCells, go_sem, ↓reduceIte, Nat.reduceAdd, Nat.reduceSub, Nat.reduceMul, Nat.reduceLeDiff, Nat.reduceLT, Nat.reduceEqDiff, Int.reduceNeg, Nat.reduceBEq]; done)); simp -implicitDefEqProofs (disch := omega) only [elO, go_sem, ↓reduceIte, Nat.reduceAdd, Nat.reduceSub, Nat.reduceMul, Nat.reduceLeDiff, Nat.reduceLT, Nat.reduceEqDiff, Int.reduceNeg, Nat.reduceBEq]) | refine And.intro (by omega) ?_ | (intro hr; have hc := hr; (try simp only [decide_eq_true_eq, decide_eq_false_iff_not, Bool.not_eq_true', Bool.not_eq_false'] at hc); simp -implicitDefEqProofs (disch := omega) only [hr, elO, go_sem, ↓reduceIte, Nat.reduceAdd, Nat.reduceSub, Nat.reduceMul, Nat.reduceLeDiff, Nat.reduceLT, Nat.reduceEqDiff, Int.reduceNeg, Nat.reduceBEq]; (try clear hr))))
        exact fin_find
end Go.Proofs.YtadileniakikeaaGreatDoor

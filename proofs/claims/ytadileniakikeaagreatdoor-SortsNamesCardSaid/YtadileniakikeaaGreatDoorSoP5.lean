/-
  What functions of the chapter return, as plain functions of what they are given; no condition beyond those that each theorem names.
-/
import Derived.Test.YtadileniakikeaaGreatDoorSoP4
import Derived.Test.YtadileniakikeaaGreatDoorSoP3
set_option maxRecDepth 100000
set_option linter.unusedSimpArgs false
set_option linter.unusedVariables false
namespace Go.Proofs.YtadileniakikeaaGreatDoor
open Go Go.Vo

/-! ## the document's example -/
def cExp : Str := [69, 120, 112]
def cPgm : Str := [80, 103, 109]
def cInt : Str := [73, 110, 116]
def cFoo : Str := [70, 111, 111]
def cPlus : Str := [112, 108, 117, 115]
def cNope : Str := [78, 111, 112, 101]
def plusO : LOp := ⟨cPlus, [cExp, cExp], cExp, [([], cExp), ([43], []), ([], cExp)], 5, 1, [1, 2]⟩
def sumsS : LSig := ⟨[cExp, cPgm], [(cInt, cExp), (cExp, cPgm)], [plusO], [], [cInt]⟩
set_option maxHeartbeats 4000000 in
theorem ctr43 : Ctr Tryz.prog G0 43 [] (.agg (sigCells sumsS)) := by
  refine sem_intro (rx := false) mixed Tryz.func43 rfl (by kernel_rfl) (by kernel_rfl) (ac := ?_) ?_ g0 ?_
  rotate_left
  · simp only [strip, stripOps, stripOp, hoist, List.filter_cons, List.filter_nil, List.nil_append, List.cons_append, isFree, anyPre, Region.binds, Bool.not_true, Bool.not_false, Bool.false_eq_true, if_true, if_false, Option.isNone_none, Option.isNone_some, Bool.true_and, Bool.false_and, List.map_nil, List.map_cons, List.isEmpty_nil, List.isEmpty_cons, List.append_nil]
    rfl
  · simp -implicitDefEqProofs (disch := omega) only [Tryz.f43, go_sem, List.replicate, ↓reduceIte, Nat.reduceAdd, Nat.reduceSub, Nat.reduceMul, Nat.reduceLeDiff, Nat.reduceLT, Nat.reduceEqDiff, Int.reduceNeg, Nat.reduceBEq]
    simp -implicitDefEqProofs (disch := omega) only [List.flatten_cons, List.flatten_nil, List.replicate, go_sem, ↓reduceIte, Nat.reduceAdd, Nat.reduceSub, Nat.reduceMul, Nat.reduceLeDiff, Nat.reduceLT, Nat.reduceEqDiff, Int.reduceNeg, Nat.reduceBEq]
    exact .inr ⟨⟨rfl, rfl, rfl, rfl, rfl, trivial⟩, by decide +kernel, by decide +kernel⟩
def plusF : LOp := ⟨cPlus, [cFoo, cFoo], cFoo, [([], cFoo), ([43], []), ([], cFoo)], 5, 1, [1, 2]⟩
def fooS : LSig := ⟨[cFoo, cPgm], [(cInt, cFoo), (cFoo, cPgm)], [plusF], [], [cInt]⟩
theorem ok_sums : OkS sumsS := ⟨by decide +kernel, by decide +kernel, by decide +kernel, by decide +kernel, by decide +kernel, (fun x hx => by simp [sumsS] at hx; subst hx; exact ⟨by decide +kernel, by decide +kernel, by decide +kernel, by decide +kernel, by decide +kernel, by decide +kernel, by decide +kernel, by decide +kernel, by decide +kernel, by decide +kernel⟩), by decide +kernel, (fun x hx => by simp [sumsS] at hx), by decide +kernel, by decide +kernel, by decide +kernel, by decide +kernel⟩
theorem sm_sums : Small sumsS := ⟨by decide +kernel, by decide +kernel, by decide +kernel, by decide +kernel, by decide +kernel⟩
theorem sh_sums : Short sumsS := ⟨(fun x hx => by simp [sumsS] at hx; subst hx; decide +kernel), (fun x hx => by simp [sumsS] at hx)⟩
theorem v_sums : validB sumsS = true := by decide +kernel
theorem ask_y {s : LSig} {xs : List Str} {b c : Bool} (h : validB s = true) (h2 : xs.all (existsA s) = true) (hb : b = c) : askR s xs b = .tup [.b c, .i .i64 0] := by subst hb; simp [askR, h, h2]
theorem ask_n {s : LSig} {xs : List Str} {b : Bool} (h : validB s = true) (h2 : xs.all (existsA s) = false) : askR s xs b = .tup [.b false, .i .i64 13] := by simp [askR, h, h2]
theorem a1 : askR sumsS [cInt, cExp] (atMost sumsS cInt cExp) = .tup [.b true, .i .i64 0] := ask_y v_sums (by decide +kernel) (by decide +kernel)
theorem a2 : askR sumsS [cExp, cInt] (atMost sumsS cExp cInt) = .tup [.b false, .i .i64 0] := ask_y v_sums (by decide +kernel) (by decide +kernel)
theorem a3 : askR sumsS [cExp] (isValue sumsS cExp) = .tup [.b false, .i .i64 0] := ask_y v_sums (by decide +kernel) (by decide +kernel)
theorem a4 : askR sumsS [cPgm, cInt] (meets sumsS cPgm cInt) = .tup [.b true, .i .i64 0] := ask_y v_sums (by decide +kernel) (by decide +kernel)
theorem a5 : askR sumsS [cInt, cNope] (atMost sumsS cInt cNope) = .tup [.b false, .i .i64 13] := ask_n v_sums (by decide +kernel)
theorem sort_is {L M : List Str} (h : L.Perm M) (hM : M.Pairwise fun x y => x ≤ y) : sortS L = M := by
  rw [sort_perm h]
  unfold sortS
  refine List.mergeSort_of_pairwise ?_
  simpa using hM
theorem l1 : listR sumsS (atMost sumsS cInt) = [anyS, cExp, cInt, cPgm] := by
  unfold listR
  have : (keysOf sumsS).filter (atMost sumsS cInt) = [anyS, cInt, cExp, cPgm] := by decide +kernel
  rw [this]
  exact sort_is (by decide +kernel) (by decide +kernel)
theorem l2 : listR sumsS (fun y => atMost sumsS y cExp) = [cExp, cInt] := by
  unfold listR
  have : (keysOf sumsS).filter (fun y => atMost sumsS y cExp) = [cInt, cExp] := by decide +kernel
  rw [this]
  exact sort_is (by decide +kernel) (by decide +kernel)
theorem list_y {s : LSig} {x : Str} {l m : List Str} (h : validB s = true) (h2 : existsA s x = true) (hm : l = m) : listAV s x l = .tup [.own 1 (m.map .s) m.length, .i .i64 0] := by subst hm; simp [listAV, h, h2]
theorem b1 : listAV sumsS cInt (listR sumsS (atMost sumsS cInt)) = .tup [.own 1 [.s anyS, .s cExp, .s cInt, .s cPgm] 4, .i .i64 0] := list_y v_sums (by decide +kernel) l1
theorem b2 : listAV sumsS cExp (listR sumsS (fun y => atMost sumsS y cExp)) = .tup [.own 1 [.s cExp, .s cInt] 2, .i .i64 0] := list_y v_sums (by decide +kernel) l2
theorem f1 : findR sumsS (opAt sumsS cPlus) = .tup [cloneAV plusO, .i .i64 0] := by
  have : opAt sumsS cPlus = some plusO := by decide +kernel
  rw [this]; simp only [findR, if_pos v_sums]
theorem f2 : findR sumsS (funAt sumsS cPlus) = .tup [elO default, .i .i64 4] := by
  have : funAt sumsS cPlus = none := by decide +kernel
  rw [this]; simp only [findR, if_pos v_sums]
theorem r1 : renameR sumsS cExp cFoo = .tup [.agg (sigCells fooS), .i .i64 0] := by
  have h : renamed sumsS cExp cFoo = fooS := by decide +kernel
  have h2 : validB fooS = true := by decide +kernel
  have h3 : (validB sumsS && isName cExp && isName cFoo) = true := by decide +kernel
  rw [← h, renameR_y h3 (h ▸ h2)]
end Go.Proofs.YtadileniakikeaaGreatDoor
set_option maxRecDepth 100000
set_option linter.unusedSimpArgs false
set_option linter.unusedVariables false
namespace Go.Proofs.YtadileniakikeaaGreatDoor
open Go Go.Vo

theorem k1 : Ctr Tryz.prog G0 30 [.agg (sigCells sumsS), .s [73, 110, 116], .s [69, 120, 112]] (.tup [.b true, .i .i64 0]) := a1 ▸ ctr30 sumsS cInt cExp sm_sums ok_sums
theorem k2 : Ctr Tryz.prog G0 30 [.agg (sigCells sumsS), .s [69, 120, 112], .s [73, 110, 116]] (.tup [.b false, .i .i64 0]) := a2 ▸ ctr30 sumsS cExp cInt sm_sums ok_sums
theorem k3 : Ctr Tryz.prog G0 19 [.agg (sigCells sumsS), .s [73, 110, 116]] (.tup [.own 1 [.s anyS, .s cExp, .s cInt, .s cPgm] 4, .i .i64 0]) := b1 ▸ ctr19 sumsS cInt sm_sums ok_sums
theorem k4 : Ctr Tryz.prog G0 22 [.agg (sigCells sumsS), .s [69, 120, 112]] (.tup [.own 1 [.s cExp, .s cInt] 2, .i .i64 0]) := b2 ▸ ctr22 sumsS cExp sm_sums ok_sums
theorem k5 : Ctr Tryz.prog G0 14 [.agg (sigCells sumsS), .s [112, 108, 117, 115]] (.tup [cloneAV plusO, .i .i64 0]) := f1 ▸ ctr14 sumsS cPlus sm_sums ok_sums
theorem k6 : Ctr Tryz.prog G0 17 [.agg (sigCells sumsS), .s [112, 108, 117, 115]] (.tup [elO default, .i .i64 4]) := f2 ▸ ctr17 sumsS cPlus sm_sums ok_sums
theorem k7 : Ctr Tryz.prog G0 25 [.agg (sigCells sumsS), .s [69, 120, 112]] (.tup [.b false, .i .i64 0]) := a3 ▸ ctr25 sumsS cExp sm_sums ok_sums
theorem k8 : Ctr Tryz.prog G0 32 [.agg (sigCells sumsS), .s [80, 103, 109], .s [73, 110, 116]] (.tup [.b true, .i .i64 0]) := a4 ▸ ctr32 sumsS cPgm cInt sm_sums ok_sums
theorem k9 : Ctr Tryz.prog G0 28 [.agg (sigCells sumsS), .s [69, 120, 112], .s [70, 111, 111]] (.tup [.agg (sigCells fooS), .i .i64 0]) := r1 ▸ ctr28 sumsS cExp cFoo sm_sums ok_sums sh_sums (by decide +kernel) (by decide +kernel)
theorem k10 : Ctr Tryz.prog G0 30 [.agg (sigCells sumsS), .s [73, 110, 116], .s [78, 111, 112, 101]] (.tup [.b false, .i .i64 13]) := a5 ▸ ctr30 sumsS cInt cNope sm_sums ok_sums
theorem k11 : Ctr Tryz.prog G0 12 [.agg (sigCells sumsS)] (.b true) := v_sums ▸ ctr12 sumsS sm_sums ok_sums
theorem k12 : Ctr Tryz.prog G0 39 [.s [105, 115, 118, 97, 108, 117, 101]] (.b true) := (by decide +kernel : builtIns.contains [105, 115, 118, 97, 108, 117, 101] = true) ▸ ctr39 _
theorem k13 : Ctr Tryz.prog G0 39 [.s [112, 108, 117, 115]] (.b false) := (by decide +kernel : builtIns.contains [112, 108, 117, 115] = false) ▸ ctr39 _
theorem k14 : Ctr Tryz.prog G0 41 [.s [97, 95, 49]] (.b true) := (by decide +kernel : isName [97, 95, 49] = true) ▸ ctr41 _ (by decide)
theorem k15 : Ctr Tryz.prog G0 41 [.s [49, 97]] (.b false) := (by decide +kernel : isName [49, 97] = false) ▸ ctr41 _ (by decide)
theorem foo_sorts : fooS.sorts = [cFoo, cPgm] := rfl
theorem plus_prec : plusO.prec = 5 := rfl
set_option maxHeartbeats 4000000 in
theorem ctr11 : Ctr Tryz.prog G0 11 [] (.b true) := by
  refine sem_intro (rx := false) mixed Tryz.func11 rfl (by kernel_rfl) (by kernel_rfl) (ac := ?_) ?_ g0 ?_
  rotate_left
  · simp only [strip, stripOps, stripOp, hoist, List.filter_cons, List.filter_nil, List.nil_append, List.cons_append, isFree, anyPre, Region.binds, Bool.not_true, Bool.not_false, Bool.false_eq_true, if_true, if_false, Option.isNone_none, Option.isNone_some, Bool.true_and, Bool.false_and, List.map_nil, List.map_cons, List.isEmpty_nil, List.isEmpty_cons, List.append_nil]
    rfl
  · simp -implicitDefEqProofs (disch := omega) only [Tryz.f11, go_sem, List.replicate, ↓reduceIte, Nat.reduceAdd, Nat.reduceSub, Nat.reduceMul, Nat.reduceLeDiff, Nat.reduceLT, Nat.reduceEqDiff, Int.reduceNeg, Nat.reduceBEq]
    (repeat' (first | refine g_true ?_ ?_ | refine g_false ?_ ?_ | refine cond_intro ?_ ?_ | (refine c_ctrE (ctr43) ?_ ?_; (focus (simp -implicitDefEqProofs (disch := omega) only [Int.toNat_one, Int.reduceToNat, eq_self, decide_true, decide_false, cloneAV, elO, foo_sorts, plus_prec, anyS, cExp, cInt, cPgm, cFoo, avs, avb, avi, avo, sigCells, opCells, pairCells, go_sem, ↓reduceIte, Nat.reduceAdd, Nat.reduceSub, Nat.reduceMul, Nat.reduceLeDiff, Nat.reduceLT, Nat.reduceEqDiff, Int.reduceNeg, Nat.reduceBEq]; done)); simp -implicitDefEqProofs (disch := omega) only [Int.toNat_one, Int.reduceToNat, eq_self, decide_true, decide_false, cloneAV, elO, foo_sorts, plus_prec, anyS, cExp, cInt, cPgm, cFoo, go_sem, ↓reduceIte, Nat.reduceAdd, Nat.reduceSub, Nat.reduceMul, Nat.reduceLeDiff, Nat.reduceLT, Nat.reduceEqDiff, Int.reduceNeg, Nat.reduceBEq]) | (refine c_ctrE (k1) ?_ ?_; (focus (simp -implicitDefEqProofs (disch := omega) only [Int.toNat_one, Int.reduceToNat, eq_self, decide_true, decide_false, cloneAV, elO, foo_sorts, plus_prec, anyS, cExp, cInt, cPgm, cFoo, avs, avb, avi, avo, sigCells, opCells, pairCells, go_sem, ↓reduceIte, Nat.reduceAdd, Nat.reduceSub, Nat.reduceMul, Nat.reduceLeDiff, Nat.reduceLT, Nat.reduceEqDiff, Int.reduceNeg, Nat.reduceBEq]; done)); simp -implicitDefEqProofs (disch := omega) only [Int.toNat_one, Int.reduceToNat, eq_self, decide_true, decide_false, cloneAV, elO, foo_sorts, plus_prec, anyS, cExp, cInt, cPgm, cFoo, go_sem, ↓reduceIte, Nat.reduceAdd, Nat.reduceSub, Nat.reduceMul, Nat.reduceLeDiff, Nat.reduceLT, Nat.reduceEqDiff, Int.reduceNeg, Nat.reduceBEq]) | (refine c_ctrE (k2) ?_ ?_; (focus (simp -implicitDefEqProofs (disch := omega) only [Int.toNat_one, Int.reduceToNat, eq_self, decide_true, decide_false, cloneAV, elO, foo_sorts, plus_prec, anyS, cExp, cInt, cPgm, cFoo, avs, avb, avi, avo, sigCells, opCells, pairCells, go_sem, ↓reduceIte, Nat.reduceAdd, Nat.reduceSub, Nat.reduceMul, Nat.reduceLeDiff, Nat.reduceLT, Nat.reduceEqDiff, Int.reduceNeg, Nat.reduceBEq]; done)); simp -implicitDefEqProofs (disch := omega) only [Int.toNat_one, Int.reduceToNat, eq_self, decide_true, decide_false, cloneAV, elO, foo_sorts, plus_prec, anyS, cExp, cInt, cPgm, cFoo, go_sem, ↓reduceIte, Nat.reduceAdd, Nat.reduceSub, Nat.reduceMul, Nat.reduceLeDiff, Nat.reduceLT, Nat.reduceEqDiff, Int.reduceNeg, Nat.reduceBEq]) | (refine c_ctrE (k3) ?_ ?_; (focus (simp -implicitDefEqProofs (disch := omega) only [Int.toNat_one, Int.reduceToNat, eq_self, decide_true, decide_false, cloneAV, elO, foo_sorts, plus_prec, anyS, cExp, cInt, cPgm, cFoo, avs, avb, avi, avo, sigCells, opCells, pairCells, go_sem, ↓reduceIte, Nat.reduceAdd, Nat.reduceSub, Nat.reduceMul, Nat.reduceLeDiff, Nat.reduceLT, Nat.reduceEqDiff, Int.reduceNeg, Nat.reduceBEq]; done)); simp -implicitDefEqProofs (disch := omega) only [Int.toNat_one, Int.reduceToNat, eq_self, decide_true, decide_false, cloneAV, elO, foo_sorts, plus_prec, anyS, cExp, cInt, cPgm, cFoo, go_sem, ↓reduceIte, Nat.reduceAdd, Nat.reduceSub, Nat.reduceMul, Nat.reduceLeDiff, Nat.reduceLT, Nat.reduceEqDiff, Int.reduceNeg, Nat.reduceBEq]) | (refine c_ctrE (k4) ?_ ?_; (focus (simp -implicitDefEqProofs (disch := omega) only [Int.toNat_one, Int.reduceToNat, eq_self, decide_true, decide_false, cloneAV, elO, foo_sorts, plus_prec, anyS, cExp, cInt, cPgm, cFoo, avs, avb, avi, avo, sigCells, opCells, pairCells, go_sem, ↓reduceIte, Nat.reduceAdd, Nat.reduceSub, Nat.reduceMul, Nat.reduceLeDiff, Nat.reduceLT, Nat.reduceEqDiff, Int.reduceNeg, Nat.reduceBEq]; done)); simp -implicitDefEqProofs (disch := omega) only [Int.toNat_one, Int.reduceToNat, eq_self, decide_true, decide_false, cloneAV, elO, foo_sorts, plus_prec, anyS, cExp, cInt, cPgm, cFoo, go_sem, ↓reduceIte, Nat.reduceAdd, Nat.reduceSub, Nat.reduceMul, Nat.reduceLeDiff, Nat.reduceLT, Nat.reduceEqDiff, Int.reduceNeg, Nat.reduceBEq]) | (refine c_ctrE (k5) ?_ ?_; (focus (simp -implicitDefEqProofs (disch := omega) only [Int.toNat_one, Int.reduceToNat, eq_self, decide_true, decide_false, cloneAV, elO, foo_sorts, plus_prec, anyS, cExp, cInt, cPgm, cFoo, avs, avb, avi, avo, sigCells, opCells, pairCells, go_sem, ↓reduceIte, Nat.reduceAdd, Nat.reduceSub, Nat.reduceMul, Nat.reduceLeDiff, Nat.reduceLT, Nat.reduceEqDiff, Int.reduceNeg, Nat.reduceBEq]; done)); simp -implicitDefEqProofs (disch := omega) only [Int.toNat_one, Int.reduceToNat, eq_self, decide_true, decide_false, cloneAV, elO, foo_sorts, plus_prec, anyS, cExp, cInt, cPgm, cFoo, go_sem, ↓reduceIte, Nat.reduceAdd, Nat.reduceSub, Nat.reduceMul, Nat.reduceLeDiff, Nat.reduceLT, Nat.reduceEqDiff, Int.reduceNeg, Nat.reduceBEq]) | (refine c_ctrE (k6) ?_ ?_; (focus (simp -implicitDefEqProofs (disch := omega) only [Int.toNat_one, Int.reduceToNat, eq_self, decide_true, decide_false, cloneAV, elO, foo_sorts, plus_prec, anyS, cExp, cInt, cPgm, cFoo, avs, avb, avi, avo, sigCells, opCells, pairCells, go_sem, ↓reduceIte, Nat.reduceAdd, Nat.reduceSub, Nat.reduceMul, Nat.reduceLeDiff, Nat.reduceLT, Nat.reduceEqDiff, Int.reduceNeg, Nat.reduceBEq]; done)); simp -implicitDefEqProofs (disch := omega) only [Int.toNat_one, Int.reduceToNat, eq_self, decide_true, decide_false, cloneAV, elO, foo_sorts, plus_prec, anyS, cExp, cInt, cPgm, cFoo, go_sem, ↓reduceIte, Nat.reduceAdd, Nat.reduceSub, Nat.reduceMul, Nat.reduceLeDiff, Nat.reduceLT, Nat.reduceEqDiff, Int.reduceNeg, Nat.reduceBEq]) | (refine c_ctrE (k7) ?_ ?_; (focus (simp -implicitDefEqProofs (disch := omega) only [Int.toNat_one, Int.reduceToNat, eq_self, decide_true, decide_false, cloneAV, elO, foo_sorts, plus_prec, anyS, cExp, cInt, cPgm, cFoo, avs, avb, avi, avo, sigCells, opCells, pairCells, go_sem, ↓reduceIte, Nat.reduceAdd, Nat.reduceSub, Nat.reduceMul, Nat.reduceLeDiff, Nat.reduceLT, Nat.reduceEqDiff, Int.reduceNeg, Nat.reduceBEq]; done)); simp -implicitDefEqProofs (disch := omega) only [Int.toNat_one, Int.reduceToNat, eq_self, decide_true, decide_false, cloneAV, elO, foo_sorts, plus_prec, anyS, cExp, cInt, cPgm, cFoo, go_sem, ↓reduceIte, Nat.reduceAdd, Nat.reduceSub, Nat.reduceMul, Nat.reduceLeDiff, Nat.reduceLT, Nat.reduceEqDiff, Int.reduceNeg, Nat.reduceBEq]) | (refine c_ctrE (k8) ?_ ?_; (focus (simp -implicitDefEqProofs (disch := omega) only [Int.toNat_one, Int.reduceToNat, eq_self, decide_true, decide_false, cloneAV, elO, foo_sorts, plus_prec, anyS, cExp, cInt, cPgm, cFoo, avs, avb, avi, avo, sigCells, opCells, pairCells, go_sem, ↓reduceIte, Nat.reduceAdd, Nat.reduceSub, Nat.reduceMul, Nat.reduceLeDiff, Nat.reduceLT, Nat.reduceEqDiff, Int.reduceNeg, Nat.reduceBEq]; done)); simp -implicitDefEqProofs (disch := omega) only [Int.toNat_one, Int.reduceToNat, eq_self, decide_true, decide_false, cloneAV, elO, foo_sorts, plus_prec, anyS, cExp, cInt, cPgm, cFoo, go_sem, ↓reduceIte, Nat.reduceAdd, Nat.reduceSub, Nat.reduceMul, Nat.reduceLeDiff, Nat.reduceLT, Nat.reduceEqDiff, Int.reduceNeg, Nat.reduceBEq]) | (refine c_ctrE (k9) ?_ ?_; (focus (simp -implicitDefEqProofs (disch := omega) only [Int.toNat_one, Int.reduceToNat, eq_self, decide_true, decide_false, cloneAV, elO, foo_sorts, plus_prec, anyS, cExp, cInt, cPgm, cFoo, avs, avb, avi, avo, sigCells, opCells, pairCells, go_sem, ↓reduceIte, Nat.reduceAdd, Nat.reduceSub, Nat.reduceMul, Nat.reduceLeDiff, Nat.reduceLT, Nat.reduceEqDiff, Int.reduceNeg, Nat.reduceBEq]; done)); simp -implicitDefEqProofs (disch := omega) only [Int.toNat_one, Int.reduceToNat, eq_self, decide_true, decide_false, cloneAV, elO, foo_sorts, plus_prec, anyS, cExp, cInt, cPgm, cFoo, go_sem, ↓reduceIte, Nat.reduceAdd, Nat.reduceSub, Nat.reduceMul, Nat.reduceLeDiff, Nat.reduceLT, Nat.reduceEqDiff, Int.reduceNeg, Nat.reduceBEq]) | (refine c_ctrE (k10) ?_ ?_; (focus (simp -implicitDefEqProofs (disch := omega) only [Int.toNat_one, Int.reduceToNat, eq_self, decide_true, decide_false, cloneAV, elO, foo_sorts, plus_prec, anyS, cExp, cInt, cPgm, cFoo, avs, avb, avi, avo, sigCells, opCells, pairCells, go_sem, ↓reduceIte, Nat.reduceAdd, Nat.reduceSub, Nat.reduceMul, Nat.reduceLeDiff, Nat.reduceLT, Nat.reduceEqDiff, Int.reduceNeg, Nat.reduceBEq]; done)); simp -implicitDefEqProofs (disch := omega) only [Int.toNat_one, Int.reduceToNat, eq_self, decide_true, decide_false, cloneAV, elO, foo_sorts, plus_prec, anyS, cExp, cInt, cPgm, cFoo, go_sem, ↓reduceIte, Nat.reduceAdd, Nat.reduceSub, Nat.reduceMul, Nat.reduceLeDiff, Nat.reduceLT, Nat.reduceEqDiff, Int.reduceNeg, Nat.reduceBEq]) | (refine c_ctrE (k11) ?_ ?_; (focus (simp -implicitDefEqProofs (disch := omega) only [Int.toNat_one, Int.reduceToNat, eq_self, decide_true, decide_false, cloneAV, elO, foo_sorts, plus_prec, anyS, cExp, cInt, cPgm, cFoo, avs, avb, avi, avo, sigCells, opCells, pairCells, go_sem, ↓reduceIte, Nat.reduceAdd, Nat.reduceSub, Nat.reduceMul, Nat.reduceLeDiff, Nat.reduceLT, Nat.reduceEqDiff, Int.reduceNeg, Nat.reduceBEq]; done)); simp -implicitDefEqProofs (disch := omega) only [Int.toNat_one, Int.reduceToNat, eq_self, decide_true, decide_false, cloneAV, elO, foo_sorts, plus_prec, anyS, cExp, cInt, cPgm, cFoo, go_sem, ↓reduceIte, Nat.reduceAdd, Nat.reduceSub, Nat.reduceMul, Nat.reduceLeDiff, Nat.reduceLT, Nat.reduceEqDiff, Int.reduceNeg, Nat.reduceBEq]) | (refine c_ctrE (k12) ?_ ?_; (focus (simp -implicitDefEqProofs (disch := omega) only [Int.toNat_one, Int.reduceToNat, eq_self, decide_true, decide_false, cloneAV, elO, foo_sorts, plus_prec, anyS, cExp, cInt, cPgm, cFoo, avs, avb, avi, avo, sigCells, opCells, pairCells, go_sem, ↓reduceIte, Nat.reduceAdd, Nat.reduceSub, Nat.reduceMul, Nat.reduceLeDiff, Nat.reduceLT, Nat.reduceEqDiff, Int.reduceNeg, Nat.reduceBEq]; done)); simp -implicitDefEqProofs (disch := omega) only [Int.toNat_one, Int.reduceToNat, eq_self, decide_true, decide_false, cloneAV, elO, foo_sorts, plus_prec, anyS, cExp, cInt, cPgm, cFoo, go_sem, ↓reduceIte, Nat.reduceAdd, Nat.reduceSub, Nat.reduceMul, Nat.reduceLeDiff, Nat.reduceLT, Nat.reduceEqDiff, Int.reduceNeg, Nat.reduceBEq]) | (refine c_ctrE (k13) ?_ ?_; (focus (simp -implicitDefEqProofs (disch := omega) only [Int.toNat_one, Int.reduceToNat, eq_self, decide_true, decide_false, cloneAV, elO, foo_sorts, plus_prec, anyS, cExp, cInt, cPgm, cFoo, avs, avb, avi, avo, sigCells, opCells, pairCells, go_sem, ↓reduceIte, Nat.reduceAdd, Nat.reduceSub, Nat.reduceMul, Nat.reduceLeDiff, Nat.reduceLT, Nat.reduceEqDiff, Int.reduceNeg, Nat.reduceBEq]; done)); simp -implicitDefEqProofs (disch := omega) only [Int.toNat_one, Int.reduceToNat, eq_self, decide_true, decide_false, cloneAV, elO, foo_sorts, plus_prec, anyS, cExp, cInt, cPgm, cFoo, go_sem, ↓reduceIte, Nat.reduceAdd, Nat.reduceSub, Nat.reduceMul, Nat.reduceLeDiff, Nat.reduceLT, Nat.reduceEqDiff, Int.reduceNeg, Nat.reduceBEq]) | (refine c_ctrE (k14) ?_ ?_; (focus (simp -implicitDefEqProofs (disch := omega) only [Int.toNat_one, Int.reduceToNat, eq_self, decide_true, decide_false, cloneAV, elO, foo_sorts, plus_prec, anyS, cExp, cInt, cPgm, cFoo, avs, avb, avi, avo, sigCells, opCells, pairCells, go_sem, ↓reduceIte, Nat.reduceAdd, Nat.reduceSub, Nat.reduceMul, Nat.reduceLeDiff, Nat.reduceLT, Nat.reduceEqDiff, Int.reduceNeg, Nat.reduceBEq]; done)); simp -implicitDefEqProofs (disch := omega) only [Int.toNat_one, Int.reduceToNat, eq_self, decide_true, decide_false, cloneAV, elO, foo_sorts, plus_prec, anyS, cExp, cInt, cPgm, cFoo, go_sem, ↓reduceIte, Nat.reduceAdd, Nat.reduceSub, Nat.reduceMul, Nat.reduceLeDiff, Nat.reduceLT, Nat.reduceEqDiff, Int.reduceNeg, Nat.reduceBEq]) | (refine c_ctrE (k15) ?_ ?_; (focus (simp -implicitDefEqProofs (disch := omega) only [Int.toNat_one, Int.reduceToNat, eq_self, decide_true, decide_false, cloneAV, elO, foo_sorts, plus_prec, anyS, cExp, cInt, cPgm, cFoo, avs, avb, avi, avo, sigCells, opCells, pairCells, go_sem, ↓reduceIte, Nat.reduceAdd, Nat.reduceSub, Nat.reduceMul, Nat.reduceLeDiff, Nat.reduceLT, Nat.reduceEqDiff, Int.reduceNeg, Nat.reduceBEq]; done)); simp -implicitDefEqProofs (disch := omega) only [Int.toNat_one, Int.reduceToNat, eq_self, decide_true, decide_false, cloneAV, elO, foo_sorts, plus_prec, anyS, cExp, cInt, cPgm, cFoo, go_sem, ↓reduceIte, Nat.reduceAdd, Nat.reduceSub, Nat.reduceMul, Nat.reduceLeDiff, Nat.reduceLT, Nat.reduceEqDiff, Int.reduceNeg, Nat.reduceBEq]) | refine And.intro (by omega) ?_ | (intro hr; have hc := hr; (try simp only [decide_eq_true_eq, decide_eq_false_iff_not, Bool.not_eq_true', Bool.not_eq_false'] at hc); simp -implicitDefEqProofs (disch := omega) only [hr, Int.toNat_one, Int.reduceToNat, eq_self, decide_true, decide_false, cloneAV, elO, foo_sorts, plus_prec, anyS, cExp, cInt, cPgm, cFoo, go_sem, ↓reduceIte, Nat.reduceAdd, Nat.reduceSub, Nat.reduceMul, Nat.reduceLeDiff, Nat.reduceLT, Nat.reduceEqDiff, Int.reduceNeg, Nat.reduceBEq]; (try clear hr))))
    all_goals first | exact fin_eq rfl rfl | (exfalso; omega)
end Go.Proofs.YtadileniakikeaaGreatDoor
set_option maxRecDepth 100000
set_option linter.unusedSimpArgs false
set_option linter.unusedVariables false
namespace Go.Proofs.YtadileniakikeaaGreatDoor
open Go Go.Vo

def okR (p : Str × Str) : Bool := if p.2 = [] then pieceR p.1 else decide (p.1 = [])
def precR (o : LOp) : Bool := if o.pieces = [] then decide (o.prec = 0) && decide (o.assoc = 0) else decide (o.pieces.length ≤ 20) && decide (argsOf o.pieces = o.args) && decide (0 ≤ o.prec) && decide (o.prec ≤ 20) && decide (0 ≤ o.assoc) && decide (o.assoc ≤ 2) && (decide (0 < o.prec) || decide (o.assoc = 0))
def piecesR (o : LOp) : Bool := o.pieces.all okR && precR o
set_option maxHeartbeats 4000000 in
theorem ctr117 (o : LOp) (ho : OkO o): Ctr Tryz.prog G0 117 [elO o] (.b (piecesR o)) := by
  refine sem_intro (rx := false) mixed Tryz.func117 rfl (by kernel_rfl) (by kernel_rfl) (ac := ?_) ?_ g0 ?_
  rotate_left
  · simp only [strip, stripOps, stripOp, hoist, List.filter_cons, List.filter_nil, List.nil_append, List.cons_append, isFree, anyPre, Region.binds, Bool.not_true, Bool.not_false, Bool.false_eq_true, if_true, if_false, Option.isNone_none, Option.isNone_some, Bool.true_and, Bool.false_and, List.map_nil, List.map_cons, List.isEmpty_nil, List.isEmpty_cons, List.append_nil]
    rfl
  · simp -implicitDefEqProofs (disch := omega) only [Tryz.f117, go_sem, List.replicate, ↓reduceIte, Nat.reduceAdd, Nat.reduceSub, Nat.reduceMul, Nat.reduceLeDiff, Nat.reduceLT, Nat.reduceEqDiff, Int.reduceNeg, Nat.reduceBEq]
    have hp := ho.piecesT
    have hx := ho.args
    refine x_loopJ (fun (s : Nat × AV × List AObj) => [.k, .k, .j, .v (s.2.1), .k, .j, .k, .k, .k, .v (.i .i64 (s.1 : Nat)), .j, .j, .j, .j, .j, .j, .j, .j, .j, .j, .j, .j, .j, .j, .j, .j, .j, .j, .j, .j, .j, .j, .j, .j, .j, .j, .j, .k, .k, .k, .k, .k, .k, .k, .k, .k, .k, .k, .k, .k, .k, .k, .k, .k, .k, .k, .k, .k, .k, .k, .k, .k, .k, .k, .k, .k, .k, .k, .k, .k, .k, .k, .k, .k, .k, .k, .k, .k, .k, .k, .k, .k, .k, .k, .k, .k, .k, .k, .k]) (fun s => .box false (opCells o) :: s.2.2) (fun s => s.1 ≤ o.pieces.length ∧ (∀ j, j < s.1 → okR (o.pieces.getD j ([], [])) = true) ∧ OutIs 1 1 s.2.2 s.2.1 ((argsOf (o.pieces.take s.1)).map .s) (argsOf (o.pieces.take s.1)).length) (fun s => o.pieces.length - s.1) ((0, .e0, [])) ⟨Nat.zero_le _, fun j h => by simp at h, outIs_e0⟩ rfl (by simp [Fits]) ?_
    rintro ⟨k, out, g⟩ j ⟨hk, ha, ho2⟩
    dsimp only at hk ha ho2
    have hpl : k < o.pieces.length → (o.pieces.getD k ([], [])).1.length ≤ 140737488355328 := fun h => (ho.piecesS _ (mem_getD h)).1
    have hal := argsOf_len (l := o.pieces.take k)
    rw [List.length_take] at hal
    simp -implicitDefEqProofs (disch := omega) only [go_sem, ↓reduceIte, Nat.reduceAdd, Nat.reduceSub, Nat.reduceMul, Nat.reduceLeDiff, Nat.reduceLT, Nat.reduceEqDiff, Int.reduceNeg, Nat.reduceBEq]
    (repeat' (first | refine g_true ?_ ?_ | refine g_false ?_ ?_ | refine cond_intro ?_ ?_ | (refine c_ctrE (ctr139 (o.pieces.getD k ([], [])).1 (hpl (by omega))) ?_ ?_; (focus (simp -implicitDefEqProofs (disch := omega) only [avs, avb, avi, avo, sigCells, opCells, pairCells, go_sem, ↓reduceIte, Nat.reduceAdd, Nat.reduceSub, Nat.reduceMul, Nat.reduceLeDiff, Nat.reduceLT, Nat.reduceEqDiff, Int.reduceNeg, Nat.reduceBEq]; done)); simp -implicitDefEqProofs (disch := omega) only [go_sem, ↓reduceIte, Nat.reduceAdd, Nat.reduceSub, Nat.reduceMul, Nat.reduceLeDiff, Nat.reduceLT, Nat.reduceEqDiff, Int.reduceNeg, Nat.reduceBEq]) | refine And.intro (by omega) ?_ | (intro hr; have hc := hr; (try simp only [decide_eq_true_eq, decide_eq_false_iff_not, Bool.not_eq_true', Bool.not_eq_false'] at hc); simp -implicitDefEqProofs (disch := omega) only [hr, go_sem, ↓reduceIte, Nat.reduceAdd, Nat.reduceSub, Nat.reduceMul, Nat.reduceLeDiff, Nat.reduceLT, Nat.reduceEqDiff, Int.reduceNeg, Nat.reduceBEq]; (try clear hr))))
    all_goals first | (exfalso; omega) | skip
    all_goals first | (refine fin_eq ?_ (by rfl); rw [piecesR, not_all_getD (d := ([], [])) (j := k) (by omega) (by simp_all [okR, ← List.length_eq_zero_iff])]; rfl) | skip
    all_goals first | (refine ⟨(k + 1, out, _), ⟨by omega, below_succ ha (by simp_all [okR, ← List.length_eq_zero_iff]), ?_⟩, by simp; omega, rfl, rfl, by simp⟩; dsimp only; rw [argsOf_succ (by omega), if_pos (List.eq_nil_of_length_eq_zero (by assumption)), List.append_nil]; exact ho2.more _) | skip
    · refine app_intro' (pre := [_]) (news := [.s (o.pieces.getD k ([], [])).2]) (m := 1) ho2 rfl rfl el22 zo9 sz9 by9 rfl (by decide) (by simp -implicitDefEqProofs (disch := omega) only [go_sem, ↓reduceIte, Nat.reduceAdd, Nat.reduceSub, Nat.reduceMul, Nat.reduceLeDiff, Nat.reduceLT, Nat.reduceEqDiff, Int.reduceNeg, Nat.reduceBEq]) (by simp -implicitDefEqProofs (disch := omega) only [go_sem, ↓reduceIte, Nat.reduceAdd, Nat.reduceSub, Nat.reduceMul, Nat.reduceLeDiff, Nat.reduceLT, Nat.reduceEqDiff, Int.reduceNeg, Nat.reduceBEq]) ⟨by omega, by omega⟩ ?_
      intro out' g' ho' _
      simp -implicitDefEqProofs (disch := omega) only [go_sem, ↓reduceIte, Nat.reduceAdd, Nat.reduceSub, Nat.reduceMul, Nat.reduceLeDiff, Nat.reduceLT, Nat.reduceEqDiff, Int.reduceNeg, Nat.reduceBEq]
      refine ⟨(k + 1, out', g'), ⟨by omega, below_succ ha (by simp_all [okR, ← List.length_eq_zero_iff]), ?_⟩, by simp; omega, rfl, by simp⟩
      dsimp only
      rw [argsOf_succ (by omega), if_neg (by rw [← List.length_eq_zero_iff]; assumption), List.map_append, List.length_append]
      exact ho'
    · have he : o.pieces = [] := List.eq_nil_of_length_eq_zero (by omega)
      refine fin_eq ?_ (by rfl)
      simp_all [piecesR, precR]
    · have he : o.pieces = [] := List.eq_nil_of_length_eq_zero (by omega)
      refine fin_eq ?_ (by rfl)
      simp_all [piecesR, precR]
    · have hk2 : k = o.pieces.length := by omega
      have hne : o.pieces ≠ [] := fun e => by simp_all
      have hall : o.pieces.all okR = true := all_getD (d := ([], [])) (fun j hj => ha j (by omega))
      rw [List.take_of_length_le (by omega)] at ho2
      have hal := argsOf_len (l := o.pieces)
      have h20 := castLe20.1 hc
      clear ha hpl
      rcases ho2 with ⟨rfl, hnil, _⟩ | ⟨i0, rfl, hg, _⟩
      · have hnil : argsOf o.pieces = [] := by simpa using hnil
        (repeat' (first | refine g_true ?_ ?_ | refine g_false ?_ ?_ | refine cond_intro ?_ ?_ | (refine c_ctrE (ctr67 [] o.args (by simp) hx) ?_ ?_; (focus (simp -implicitDefEqProofs (disch := omega) only [avs, avb, avi, avo, sigCells, opCells, pairCells, go_sem, ↓reduceIte, Nat.reduceAdd, Nat.reduceSub, Nat.reduceMul, Nat.reduceLeDiff, Nat.reduceLT, Nat.reduceEqDiff, Int.reduceNeg, Nat.reduceBEq]; done)); simp -implicitDefEqProofs (disch := omega) only [go_sem, ↓reduceIte, Nat.reduceAdd, Nat.reduceSub, Nat.reduceMul, Nat.reduceLeDiff, Nat.reduceLT, Nat.reduceEqDiff, Int.reduceNeg, Nat.reduceBEq]) | refine And.intro (by omega) ?_ | (intro hr; have hc := hr; (try simp only [decide_eq_true_eq, decide_eq_false_iff_not, Bool.not_eq_true', Bool.not_eq_false'] at hc); simp -implicitDefEqProofs (disch := omega) only [hr, go_sem, ↓reduceIte, Nat.reduceAdd, Nat.reduceSub, Nat.reduceMul, Nat.reduceLeDiff, Nat.reduceLT, Nat.reduceEqDiff, Int.reduceNeg, Nat.reduceBEq]; (try clear hr))))
        all_goals refine fin_eq ?_ (by rfl)
        all_goals simp only [piecesR, hall, precR, if_neg hne, hnil, Bool.true_and]
        all_goals first | (simp_all; done) | (simp_all; omega)
      · (repeat' (first | refine g_true ?_ ?_ | refine g_false ?_ ?_ | refine cond_intro ?_ ?_ | (refine c_ctrE (ctr67 (argsOf o.pieces) o.args (by omega) hx) ?_ ?_; (focus (simp -implicitDefEqProofs (disch := omega) only [hg, avs, avb, avi, avo, sigCells, opCells, pairCells, go_sem, ↓reduceIte, Nat.reduceAdd, Nat.reduceSub, Nat.reduceMul, Nat.reduceLeDiff, Nat.reduceLT, Nat.reduceEqDiff, Int.reduceNeg, Nat.reduceBEq]; done)); simp -implicitDefEqProofs (disch := omega) only [hg, go_sem, ↓reduceIte, Nat.reduceAdd, Nat.reduceSub, Nat.reduceMul, Nat.reduceLeDiff, Nat.reduceLT, Nat.reduceEqDiff, Int.reduceNeg, Nat.reduceBEq]) | refine And.intro (by omega) ?_ | (intro hr; have hc := hr; (try simp only [decide_eq_true_eq, decide_eq_false_iff_not, Bool.not_eq_true', Bool.not_eq_false'] at hc); simp -implicitDefEqProofs (disch := omega) only [hr, hg, go_sem, ↓reduceIte, Nat.reduceAdd, Nat.reduceSub, Nat.reduceMul, Nat.reduceLeDiff, Nat.reduceLT, Nat.reduceEqDiff, Int.reduceNeg, Nat.reduceBEq]; (try clear hr))))
        all_goals refine fin_eq ?_ (by rfl)
        all_goals simp only [piecesR, hall, precR, if_neg hne, Bool.true_and]
        all_goals first | (simp_all; done) | (simp_all; omega)
    · refine fin_eq ?_ (by rfl)
      have hne : o.pieces ≠ [] := fun e => by simp_all
      have h20 : ¬ o.pieces.length ≤ 20 := fun h => hc (castLe20.2 h)
      simp only [piecesR, precR, if_neg hne, decide_eq_false h20, Bool.false_and, Bool.and_false]
end Go.Proofs.YtadileniakikeaaGreatDoor
set_option maxRecDepth 100000
set_option linter.unusedSimpArgs false
set_option linter.unusedVariables false
namespace Go.Proofs.YtadileniakikeaaGreatDoor
open Go Go.Vo

/-! ## the reference: what lies below, operators -/
def belowOne (s : LSig) (b : Str × Str) : Bool := existsB s b.1 && !decide (b.1 = anyS) && s.sorts.contains b.2
def belowUp (s : LSig) (b : Str × Str) : Bool := !(climb s.below b.2).contains b.1
def belowR (s : LSig) : Bool := s.below.all (belowOne s) && decide s.below.Nodup && s.below.all (belowUp s) && decide (s.below.length ≤ 200)
theorem castLe200 {n : Nat} : ((n : Int) ≤ 200) ↔ n ≤ 200 := by omega
theorem belowOne_no {s : LSig} {k : Nat} (hk : k < s.below.length) (h : belowOne s (s.below.getD k ([], [])) = false) : belowR s = false := by
  rw [belowR, not_all_getD hk h]; rfl
theorem pairB {a b : Str × Str} : (decide (a.1 = b.1) && (decide (a.2 = b.2) && true)) = decide (a = b) := by
  rw [Bool.eq_iff_iff]; simp [Prod.ext_iff]
set_option maxHeartbeats 4000000 in
theorem ctr59 (s : LSig) (hs : OkS s) (hb : s.below.length ≤ 1000): Ctr Tryz.prog G0 59 [.agg (sigCells s)] (.b (belowR s)) := by
  refine sem_intro (rx := false) mixed Tryz.func59 rfl (by kernel_rfl) (by kernel_rfl) (ac := ?_) ?_ g0 ?_
  rotate_left
  · simp only [strip, stripOps, stripOp, hoist, List.filter_cons, List.filter_nil, List.nil_append, List.cons_append, isFree, anyPre, Region.binds, Bool.not_true, Bool.not_false, Bool.false_eq_true, if_true, if_false, Option.isNone_none, Option.isNone_some, Bool.true_and, Bool.false_and, List.map_nil, List.map_cons, List.isEmpty_nil, List.isEmpty_cons, List.append_nil]
    rfl
  · simp -implicitDefEqProofs (disch := omega) only [Tryz.f59, go_sem, List.replicate, ↓reduceIte, Nat.reduceAdd, Nat.reduceSub, Nat.reduceMul, Nat.reduceLeDiff, Nat.reduceLT, Nat.reduceEqDiff, Int.reduceNeg, Nat.reduceBEq]
    have h1 := hs.sorts
    have h2 := hs.below
    refine x_loopG (fun (k : Nat) => [.k, .k, .j, .j, .j, .k, .j, .k, .k, .k, .k, .k, .v (.i .i64 k), .j, .j, .j, .j, .j, .j, .j, .j, .j, .j, .j, .j, .j, .j, .j, .j, .j, .j, .j, .j, .j, .j, .j, .j, .j, .j, .j, .j, .j, .j, .j, .j, .j, .j, .j, .j, .k, .k, .k, .k, .k, .k, .k, .k, .k, .k, .k, .k, .k, .k, .k, .k, .k, .k, .k]) (fun k => [.box false [.sl (s.sorts.map .s) s.sorts.length, .sl (s.below.flatMap pairCells) s.below.length, .sl (s.ops.flatMap opCells) s.ops.length, .sl (s.funs.flatMap opCells) s.funs.length, .sl (s.values.map .s) s.values.length]]) (fun k => k ≤ s.below.length ∧ ∀ j, j < k → (belowOne s (s.below.getD j ([], [])) = true ∧ (s.below.take j).contains (s.below.getD j ([], [])) = false)) (fun k => s.below.length - k) (0) _ ⟨Nat.zero_le _, fun j h => by omega⟩ rfl (by simp [Fits]) ?_
    rintro k g j ⟨hk, ha⟩
    simp -implicitDefEqProofs (disch := omega) only [go_sem, ↓reduceIte, Nat.reduceAdd, Nat.reduceSub, Nat.reduceMul, Nat.reduceLeDiff, Nat.reduceLT, Nat.reduceEqDiff, Int.reduceNeg, Nat.reduceBEq]
    (repeat' (first | refine g_true ?_ ?_ | refine g_false ?_ ?_ | refine cond_intro ?_ ?_ | (refine c_ctrE (ctr61 s (s.below.getD k ([], [])).1 h1) ?_ ?_; (focus (simp -implicitDefEqProofs (disch := omega) only [avs, avb, avi, avo, sigCells, opCells, pairCells, go_sem, ↓reduceIte, Nat.reduceAdd, Nat.reduceSub, Nat.reduceMul, Nat.reduceLeDiff, Nat.reduceLT, Nat.reduceEqDiff, Int.reduceNeg, Nat.reduceBEq]; done)); simp -implicitDefEqProofs (disch := omega) only [go_sem, ↓reduceIte, Nat.reduceAdd, Nat.reduceSub, Nat.reduceMul, Nat.reduceLeDiff, Nat.reduceLT, Nat.reduceEqDiff, Int.reduceNeg, Nat.reduceBEq]) | (refine c_ctrE (ctr27 s.sorts (s.below.getD k ([], [])).2 h1) ?_ ?_; (focus (simp -implicitDefEqProofs (disch := omega) only [avs, avb, avi, avo, sigCells, opCells, pairCells, go_sem, ↓reduceIte, Nat.reduceAdd, Nat.reduceSub, Nat.reduceMul, Nat.reduceLeDiff, Nat.reduceLT, Nat.reduceEqDiff, Int.reduceNeg, Nat.reduceBEq]; done)); simp -implicitDefEqProofs (disch := omega) only [go_sem, ↓reduceIte, Nat.reduceAdd, Nat.reduceSub, Nat.reduceMul, Nat.reduceLeDiff, Nat.reduceLT, Nat.reduceEqDiff, Int.reduceNeg, Nat.reduceBEq]) | refine And.intro (by omega) ?_ | (intro hr; have hc := hr; (try simp only [decide_eq_true_eq, decide_eq_false_iff_not, Bool.not_eq_true', Bool.not_eq_false'] at hc); simp -implicitDefEqProofs (disch := omega) only [hr, go_sem, ↓reduceIte, Nat.reduceAdd, Nat.reduceSub, Nat.reduceMul, Nat.reduceLeDiff, Nat.reduceLT, Nat.reduceEqDiff, Int.reduceNeg, Nat.reduceBEq]; (try clear hr))))
    · refine fin_eq ?_ (by rfl)
      rw [belowOne_no (k := k) (by omega) (by simp only [belowOne, *, Bool.and_false])]
    · have hone : belowOne s (s.below.getD k ([], [])) = true := by simp only [belowOne, anyS, *, decide_false, Bool.not_false, Bool.and_self]
      refine x_loopJ (fun (t : Nat × List AObj) => [.k, .k, .j, .k, .k, .k, .j, .k, .k, .k, .k, .k, .k, .k, .k, .k, .k, .k, .k, .k, .k, .k, .k, .k, .k, .k, .k, .k, .k, .k, .k, .k, .k, .k, .k, .k, .k, .k, .k, .k, .v (.i .i64 (t.1 : Nat)), .j, .j, .j, .j, .j, .j, .j, .k, .k, .k, .k, .k, .k, .k, .k, .k, .k, .k, .k, .k, .k, .k, .k, .k, .k, .k, .k]) (fun t => .box false [.sl (s.sorts.map .s) s.sorts.length, .sl (s.below.flatMap pairCells) s.below.length, .sl (s.ops.flatMap opCells) s.ops.length, .sl (s.funs.flatMap opCells) s.funs.length, .sl (s.values.map .s) s.values.length] :: (g ++ (.box false [.s (s.below.getD k ([], [])).1, .s (s.below.getD k ([], [])).2] :: t.2))) (fun t => t.1 ≤ k ∧ ∀ j, j < t.1 → (s.below.take k).getD j ([], []) ≠ s.below.getD k ([], [])) (fun t => k - t.1) ((0, [])) ⟨Nat.zero_le _, fun j h => by simp at h⟩ rfl (by simp [Fits]) ?_
      rintro ⟨m, g2⟩ j ⟨hm, hb2⟩
      dsimp only at hm hb2
      have hlt : (s.below.take k).length = k := by simp; omega
      simp -implicitDefEqProofs (disch := omega) only [hlt, go_sem, ↓reduceIte, Nat.reduceAdd, Nat.reduceSub, Nat.reduceMul, Nat.reduceLeDiff, Nat.reduceLT, Nat.reduceEqDiff, Int.reduceNeg, Nat.reduceBEq]
      (repeat' (first | refine g_true ?_ ?_ | refine g_false ?_ ?_ | refine cond_intro ?_ ?_ | refine And.intro (by omega) ?_ | (intro hr; have hc := hr; (try simp only [decide_eq_true_eq, decide_eq_false_iff_not, Bool.not_eq_true', Bool.not_eq_false'] at hc); simp -implicitDefEqProofs (disch := omega) only [hr, hlt, go_sem, ↓reduceIte, Nat.reduceAdd, Nat.reduceSub, Nat.reduceMul, Nat.reduceLeDiff, Nat.reduceLT, Nat.reduceEqDiff, Int.reduceNeg, Nat.reduceBEq]; (try clear hr))))
      · refine fin_eq ?_ (by rfl)
        rw [pairB] at hc
        have he := of_decide_eq_true hc
        have hm2 := mem_getD (l := s.below.take k) (d := ([], [])) (k := m) (by omega)
        rw [← he] at hm2
        have hcon : (s.below.take k).contains (s.below.getD k ([], [])) = true := by simpa using hm2
        rw [belowR, decide_eq_false (fun hn => by rw [nodup_noG hn (by omega)] at hcon; cases hcon), Bool.and_false]; rfl
      · rw [pairB] at hc
        have he := of_decide_eq_false hc
        exact ⟨(m + 1, _), ⟨by dsimp only; omega, below_succ hb2 (fun e => he e.symm)⟩, by dsimp only; omega, rfl, by simp⟩
      · have hmk : m = k := by omega
        subst hmk
        have hno : (s.below.take m).contains (s.below.getD m ([], [])) = false := by
          rw [← Bool.not_eq_true]
          intro hcon
          have hm2 : s.below.getD m ([], []) ∈ s.below.take m := by simpa using hcon
          obtain ⟨i, hi, he⟩ := List.mem_iff_getElem.1 hm2
          exact hb2 i (by omega) (by rw [getD_el hi]; exact he)
        exact ⟨m + 1, _, ⟨by omega, below_succ ha ⟨hone, hno⟩⟩, by omega, rfl, by simp⟩
    · refine fin_eq ?_ (by rfl)
      rw [belowOne_no (k := k) (by omega) (by simp only [belowOne, anyS, *, decide_true, Bool.not_true, Bool.and_false, Bool.false_and])]
    · refine fin_eq ?_ (by rfl)
      rw [belowOne_no (k := k) (by omega) (by simp only [belowOne, *, Bool.false_and])]
    · have hall : s.below.all (belowOne s) = true := all_getD (d := ([], [])) (fun j hj => (ha j (by omega)).1)
      have hnd : s.below.Nodup := nodup_ofG (d := ([], [])) (fun j hj => (ha j (by omega)).2)
      clear ha
      refine x_loopG (fun (k : Nat) => [.k, .k, .j, .k, .k, .k, .k, .k, .j, .k, .k, .k, .k, .k, .k, .k, .k, .k, .k, .k, .k, .k, .k, .k, .k, .k, .k, .k, .k, .k, .k, .k, .k, .k, .k, .k, .k, .k, .k, .k, .k, .k, .k, .k, .k, .k, .k, .k, .k, .k, .k, .k, .v (.i .i64 k), .j, .j, .j, .j, .j, .j, .j, .j, .j, .j, .j, .k, .k, .k, .k]) (fun k => [.box false [.sl (s.sorts.map .s) s.sorts.length, .sl (s.below.flatMap pairCells) s.below.length, .sl (s.ops.flatMap opCells) s.ops.length, .sl (s.funs.flatMap opCells) s.funs.length, .sl (s.values.map .s) s.values.length]]) (fun k => k ≤ s.below.length ∧ ∀ j, j < k → belowUp s (s.below.getD j ([], [])) = true) (fun k => s.below.length - k) (0) _ ⟨Nat.zero_le _, fun j h => by omega⟩ rfl (by simp [Fits]) ?_
      rintro k g j ⟨hk, ha⟩
      have hcl := climb_len s.below (s.below.getD k ([], [])).2
      simp -implicitDefEqProofs (disch := omega) only [go_sem, ↓reduceIte, Nat.reduceAdd, Nat.reduceSub, Nat.reduceMul, Nat.reduceLeDiff, Nat.reduceLT, Nat.reduceEqDiff, Int.reduceNeg, Nat.reduceBEq]
      (repeat' (first | refine g_true ?_ ?_ | refine g_false ?_ ?_ | refine cond_intro ?_ ?_ | (refine c_ctrE (ctr114 s (s.below.getD k ([], [])).2 (by omega)) ?_ ?_; (focus (simp -implicitDefEqProofs (disch := omega) only [avs, avb, avi, avo, sigCells, opCells, pairCells, go_sem, ↓reduceIte, Nat.reduceAdd, Nat.reduceSub, Nat.reduceMul, Nat.reduceLeDiff, Nat.reduceLT, Nat.reduceEqDiff, Int.reduceNeg, Nat.reduceBEq]; done)); simp -implicitDefEqProofs (disch := omega) only [go_sem, ↓reduceIte, Nat.reduceAdd, Nat.reduceSub, Nat.reduceMul, Nat.reduceLeDiff, Nat.reduceLT, Nat.reduceEqDiff, Int.reduceNeg, Nat.reduceBEq]) | (refine c_ctrE (ctr27 (climb s.below (s.below.getD k ([], [])).2) (s.below.getD k ([], [])).1 (by omega)) ?_ ?_; (focus (simp -implicitDefEqProofs (disch := omega) only [avs, avb, avi, avo, sigCells, opCells, pairCells, go_sem, ↓reduceIte, Nat.reduceAdd, Nat.reduceSub, Nat.reduceMul, Nat.reduceLeDiff, Nat.reduceLT, Nat.reduceEqDiff, Int.reduceNeg, Nat.reduceBEq]; done)); simp -implicitDefEqProofs (disch := omega) only [go_sem, ↓reduceIte, Nat.reduceAdd, Nat.reduceSub, Nat.reduceMul, Nat.reduceLeDiff, Nat.reduceLT, Nat.reduceEqDiff, Int.reduceNeg, Nat.reduceBEq]) | refine And.intro (by omega) ?_ | (intro hr; have hc := hr; (try simp only [decide_eq_true_eq, decide_eq_false_iff_not, Bool.not_eq_true', Bool.not_eq_false'] at hc); simp -implicitDefEqProofs (disch := omega) only [hr, go_sem, ↓reduceIte, Nat.reduceAdd, Nat.reduceSub, Nat.reduceMul, Nat.reduceLeDiff, Nat.reduceLT, Nat.reduceEqDiff, Int.reduceNeg, Nat.reduceBEq]; (try clear hr))))
      · refine fin_eq ?_ (by rfl)
        rw [belowR, not_all_getD (p := belowUp s) (d := ([], [])) (j := k) (by omega) (by simp only [belowUp, hc, Bool.not_true]), Bool.and_false]; rfl
      · exact ⟨k + 1, _, ⟨by omega, below_succ ha (by simp only [belowUp, hc, Bool.not_false])⟩, by omega, rfl, by simp⟩
      · refine fin_eq ?_ (by rfl)
        have hup : s.below.all (belowUp s) = true := all_getD (d := ([], [])) (fun j hj => ha j (by omega))
        rw [belowR, hall, hup, decide_eq_true hnd]
        simp [castLe200]
end Go.Proofs.YtadileniakikeaaGreatDoor
set_option maxRecDepth 100000
set_option linter.unusedSimpArgs false
set_option linter.unusedVariables false
namespace Go.Proofs.YtadileniakikeaaGreatDoor
open Go Go.Vo

def opR (s : LSig) (o : LOp) : Bool := isName (base o.name) && !builtIns.contains o.name && argsR s o && s.sorts.contains o.sort && piecesR o && strictR o
def funR (s : LSig) (o : LOp) : Bool := isName o.name && !builtIns.contains o.name && argsR s o && existsB s o.sort && decide (o.pieces.length = 0) && decide (o.prec = 0) && decide (o.assoc = 0) && decide (o.strict.length = 0)
def namesOf (s : LSig) : List Str := s.ops.map LOp.name ++ s.funs.map LOp.name
def opsR (s : LSig) : Bool := s.ops.all (opR s) && s.funs.all (funR s) && decide ((namesOf s).length ≤ 200) && decide (namesOf s).Nodup
theorem ops_no {s : LSig} {k : Nat} (hk : k < s.ops.length) (h : opR s (s.ops.getD k default) = false) : opsR s = false := by
  rw [opsR, not_all_getD hk h]; rfl
theorem funs_no {s : LSig} {k : Nat} (hk : k < s.funs.length) (h : funR s (s.funs.getD k default) = false) : opsR s = false := by
  rw [opsR, not_all_getD (p := funR s) hk h]; simp
set_option maxHeartbeats 4000000 in
theorem ctr60 (s : LSig) (hs : OkS s) (hn : s.ops.length + s.funs.length ≤ 1000): Ctr Tryz.prog G0 60 [.agg (sigCells s)] (.b (opsR s)) := by
  refine sem_intro (rx := false) mixed Tryz.func60 rfl (by kernel_rfl) (by kernel_rfl) (ac := ?_) ?_ g0 ?_
  rotate_left
  · simp only [strip, stripOps, stripOp, hoist, List.filter_cons, List.filter_nil, List.nil_append, List.cons_append, isFree, anyPre, Region.binds, Bool.not_true, Bool.not_false, Bool.false_eq_true, if_true, if_false, Option.isNone_none, Option.isNone_some, Bool.true_and, Bool.false_and, List.map_nil, List.map_cons, List.isEmpty_nil, List.isEmpty_cons, List.append_nil]
    rfl
  · simp -implicitDefEqProofs (disch := omega) only [Tryz.f60, go_sem, List.replicate, ↓reduceIte, Nat.reduceAdd, Nat.reduceSub, Nat.reduceMul, Nat.reduceLeDiff, Nat.reduceLT, Nat.reduceEqDiff, Int.reduceNeg, Nat.reduceBEq]
    have h1 := hs.sorts
    refine x_loopJ (fun (t : Nat × AV × List AObj) => [.k, .k, .j, .v (t.2.1), .k, .j, .k, .k, .k, .k, .k, .v (.i .i64 (t.1 : Nat)), .j, .j, .j, .j, .j, .j, .j, .j, .j, .j, .j, .j, .j, .j, .j, .j, .j, .j, .j, .j, .j, .j, .j, .j, .j, .j, .j, .j, .j, .j, .j, .j, .j, .j, .j, .j, .j, .j, .j, .j, .j, .j, .k, .k, .k, .k, .k, .k, .k, .k, .k, .k, .k, .k, .k, .k, .k, .k, .k, .k, .k, .k, .k, .k, .k, .k, .k, .k, .k, .k, .k, .k, .k, .k, .k, .k, .k, .k, .k, .k, .k, .k, .k, .k, .k, .k, .k, .k, .k, .k, .k, .k, .k, .k, .k, .k, .k, .k, .k, .k, .k, .k, .k, .k, .k, .k]) (fun t => .box false [.sl (s.sorts.map .s) s.sorts.length, .sl (s.below.flatMap pairCells) s.below.length, .sl (s.ops.flatMap opCells) s.ops.length, .sl (s.funs.flatMap opCells) s.funs.length, .sl (s.values.map .s) s.values.length] :: t.2.2) (fun t => t.1 ≤ s.ops.length ∧ (∀ j, j < t.1 → opR s (s.ops.getD j default) = true) ∧ OutIs 1 1 t.2.2 t.2.1 (((s.ops.take t.1).map LOp.name).map .s) t.1) (fun t => s.ops.length - t.1) ((0, .e0, [])) ⟨Nat.zero_le _, fun j h => by simp at h, outIs_e0⟩ rfl (by simp [Fits]) ?_
    rintro ⟨k, out, g⟩ j ⟨hk, ha, ho⟩
    dsimp only at hk ha ho
    have o1 : k < s.ops.length → OkO (s.ops.getD k default) := fun h => hs.opsO _ (mem_getD h)
    simp -implicitDefEqProofs (disch := omega) only [go_sem, ↓reduceIte, Nat.reduceAdd, Nat.reduceSub, Nat.reduceMul, Nat.reduceLeDiff, Nat.reduceLT, Nat.reduceEqDiff, Int.reduceNeg, Nat.reduceBEq]
    (repeat' (first | refine g_true ?_ ?_ | refine g_false ?_ ?_ | refine cond_intro ?_ ?_ | refine And.intro (by omega) ?_ | (intro hr; have hc := hr; (try simp only [decide_eq_true_eq, decide_eq_false_iff_not, Bool.not_eq_true', Bool.not_eq_false'] at hc); simp -implicitDefEqProofs (disch := omega) only [hr, go_sem, ↓reduceIte, Nat.reduceAdd, Nat.reduceSub, Nat.reduceMul, Nat.reduceLeDiff, Nat.reduceLT, Nat.reduceEqDiff, Int.reduceNeg, Nat.reduceBEq]; (try clear hr))))
    · refine app_intro' (pre := [.box false [.sl (s.sorts.map .s) s.sorts.length, .sl (s.below.flatMap pairCells) s.below.length, .sl (s.ops.flatMap opCells) s.ops.length, .sl (s.funs.flatMap opCells) s.funs.length, .sl (s.values.map .s) s.values.length]]) (g := g ++ [.box false (opCells (s.ops.getD k default))]) (more := [.arr false 1 ([.s (s.ops.getD k default).name])]) (news := [.s (s.ops.getD k default).name]) (m := 1) ((ho).more _) rfl (by simp -implicitDefEqProofs (disch := omega) only [go_sem, ↓reduceIte, Nat.reduceAdd, Nat.reduceSub, Nat.reduceMul, Nat.reduceLeDiff, Nat.reduceLT, Nat.reduceEqDiff, Int.reduceNeg, Nat.reduceBEq]) el22 zo9 sz9 by9 rfl (by decide) (by simp -implicitDefEqProofs (disch := omega) only [go_sem, ↓reduceIte, Nat.reduceAdd, Nat.reduceSub, Nat.reduceMul, Nat.reduceLeDiff, Nat.reduceLT, Nat.reduceEqDiff, Int.reduceNeg, Nat.reduceBEq]) (by simp -implicitDefEqProofs (disch := omega) only [go_sem, ↓reduceIte, Nat.reduceAdd, Nat.reduceSub, Nat.reduceMul, Nat.reduceLeDiff, Nat.reduceLT, Nat.reduceEqDiff, Int.reduceNeg, Nat.reduceBEq]) ⟨by omega, by omega⟩ ?_
      intro out' g' ho' hkeep
      have hbox := hkeep g.length (.box false (opCells (s.ops.getD k default))) (by rw [get_off0]; rfl) (fun c => nofun)
      clear hkeep
      have ho1 := o1 (by omega)
      simp -implicitDefEqProofs (disch := omega) only [hbox, go_sem, ↓reduceIte, Nat.reduceAdd, Nat.reduceSub, Nat.reduceMul, Nat.reduceLeDiff, Nat.reduceLT, Nat.reduceEqDiff, Int.reduceNeg, Nat.reduceBEq]
      (repeat' (first | refine g_true ?_ ?_ | refine g_false ?_ ?_ | refine cond_intro ?_ ?_ | (refine c_ctrE (ctr115 (s.ops.getD k default).name ho1.name) ?_ ?_; (focus (simp -implicitDefEqProofs (disch := omega) only [hbox, avs, avb, avi, avo, sigCells, opCells, pairCells, go_sem, ↓reduceIte, Nat.reduceAdd, Nat.reduceSub, Nat.reduceMul, Nat.reduceLeDiff, Nat.reduceLT, Nat.reduceEqDiff, Int.reduceNeg, Nat.reduceBEq]; done)); simp -implicitDefEqProofs (disch := omega) only [hbox, go_sem, ↓reduceIte, Nat.reduceAdd, Nat.reduceSub, Nat.reduceMul, Nat.reduceLeDiff, Nat.reduceLT, Nat.reduceEqDiff, Int.reduceNeg, Nat.reduceBEq]) | (refine c_ctrE (ctr40 (s.ops.getD k default).name) ?_ ?_; (focus (simp -implicitDefEqProofs (disch := omega) only [hbox, avs, avb, avi, avo, sigCells, opCells, pairCells, go_sem, ↓reduceIte, Nat.reduceAdd, Nat.reduceSub, Nat.reduceMul, Nat.reduceLeDiff, Nat.reduceLT, Nat.reduceEqDiff, Int.reduceNeg, Nat.reduceBEq]; done)); simp -implicitDefEqProofs (disch := omega) only [hbox, go_sem, ↓reduceIte, Nat.reduceAdd, Nat.reduceSub, Nat.reduceMul, Nat.reduceLeDiff, Nat.reduceLT, Nat.reduceEqDiff, Int.reduceNeg, Nat.reduceBEq]) | (refine c_ctrE (ctr116 s (s.ops.getD k default) h1 ho1.args) ?_ ?_; (focus (simp -implicitDefEqProofs (disch := omega) only [hbox, avs, avb, avi, avo, sigCells, opCells, pairCells, go_sem, ↓reduceIte, Nat.reduceAdd, Nat.reduceSub, Nat.reduceMul, Nat.reduceLeDiff, Nat.reduceLT, Nat.reduceEqDiff, Int.reduceNeg, Nat.reduceBEq]; done)); simp -implicitDefEqProofs (disch := omega) only [hbox, go_sem, ↓reduceIte, Nat.reduceAdd, Nat.reduceSub, Nat.reduceMul, Nat.reduceLeDiff, Nat.reduceLT, Nat.reduceEqDiff, Int.reduceNeg, Nat.reduceBEq]) | (refine c_ctrE (ctr27 s.sorts (s.ops.getD k default).sort h1) ?_ ?_; (focus (simp -implicitDefEqProofs (disch := omega) only [hbox, avs, avb, avi, avo, sigCells, opCells, pairCells, go_sem, ↓reduceIte, Nat.reduceAdd, Nat.reduceSub, Nat.reduceMul, Nat.reduceLeDiff, Nat.reduceLT, Nat.reduceEqDiff, Int.reduceNeg, Nat.reduceBEq]; done)); simp -implicitDefEqProofs (disch := omega) only [hbox, go_sem, ↓reduceIte, Nat.reduceAdd, Nat.reduceSub, Nat.reduceMul, Nat.reduceLeDiff, Nat.reduceLT, Nat.reduceEqDiff, Int.reduceNeg, Nat.reduceBEq]) | (refine c_ctrE (ctr117 (s.ops.getD k default) ho1) ?_ ?_; (focus (simp -implicitDefEqProofs (disch := omega) only [hbox, avs, avb, avi, avo, sigCells, opCells, pairCells, go_sem, ↓reduceIte, Nat.reduceAdd, Nat.reduceSub, Nat.reduceMul, Nat.reduceLeDiff, Nat.reduceLT, Nat.reduceEqDiff, Int.reduceNeg, Nat.reduceBEq]; done)); simp -implicitDefEqProofs (disch := omega) only [hbox, go_sem, ↓reduceIte, Nat.reduceAdd, Nat.reduceSub, Nat.reduceMul, Nat.reduceLeDiff, Nat.reduceLT, Nat.reduceEqDiff, Int.reduceNeg, Nat.reduceBEq]) | (refine c_ctrE (ctr118 (s.ops.getD k default) ho1) ?_ ?_; (focus (simp -implicitDefEqProofs (disch := omega) only [hbox, avs, avb, avi, avo, sigCells, opCells, pairCells, go_sem, ↓reduceIte, Nat.reduceAdd, Nat.reduceSub, Nat.reduceMul, Nat.reduceLeDiff, Nat.reduceLT, Nat.reduceEqDiff, Int.reduceNeg, Nat.reduceBEq]; done)); simp -implicitDefEqProofs (disch := omega) only [hbox, go_sem, ↓reduceIte, Nat.reduceAdd, Nat.reduceSub, Nat.reduceMul, Nat.reduceLeDiff, Nat.reduceLT, Nat.reduceEqDiff, Int.reduceNeg, Nat.reduceBEq]) | refine And.intro (by omega) ?_ | (intro hr; have hc := hr; (try simp only [decide_eq_true_eq, decide_eq_false_iff_not, Bool.not_eq_true', Bool.not_eq_false'] at hc); simp -implicitDefEqProofs (disch := omega) only [hr, hbox, go_sem, ↓reduceIte, Nat.reduceAdd, Nat.reduceSub, Nat.reduceMul, Nat.reduceLeDiff, Nat.reduceLT, Nat.reduceEqDiff, Int.reduceNeg, Nat.reduceBEq]; (try clear hr))))
      all_goals first | (refine fin_eq ?_ (by rfl); rw [ops_no (k := k) (by omega) (by simp only [opR, *, decide_true, decide_false, Bool.and_false, Bool.false_and, Bool.and_true, Bool.true_and, Bool.not_true, Bool.not_false])]; done) | skip
      refine ⟨(k + 1, out', g'), ⟨by dsimp only; omega, below_succ ha (by simp only [opR, *, decide_true, decide_false, Bool.and_false, Bool.false_and, Bool.and_true, Bool.true_and, Bool.not_true, Bool.not_false]), ?_⟩, by dsimp only; omega, rfl, rfl, by simp⟩
      dsimp only
      rw [take_getD (d := default) (by omega), List.map_append, List.map_append]
      exact ho'
    · have hk2 : k = s.ops.length := by omega
      have hall : s.ops.all (opR s) = true := all_getD (d := default) (fun j hj => ha j (by omega))
      rw [hk2, List.take_length] at ho
      clear ha hk o1
      refine x_loopJ (fun (t : Nat × AV × List AObj) => [.k, .k, .j, .v (t.2.1), .k, .k, .k, .j, .k, .k, .k, .k, .k, .k, .k, .k, .k, .k, .k, .k, .k, .k, .k, .k, .k, .k, .k, .k, .k, .k, .k, .k, .k, .k, .k, .k, .k, .k, .k, .k, .k, .k, .k, .k, .k, .k, .k, .k, .k, .k, .k, .k, .k, .k, .k, .k, .k, .v (.i .i64 (t.1 : Nat)), .j, .j, .j, .j, .j, .j, .j, .j, .j, .j, .j, .j, .j, .j, .j, .j, .j, .j, .j, .j, .j, .j, .j, .j, .j, .j, .j, .j, .j, .j, .j, .j, .j, .j, .j, .j, .j, .j, .j, .j, .j, .j, .j, .j, .j, .j, .j, .j, .j, .j, .j, .j, .j, .k, .k, .k, .k, .k, .k, .k]) (fun t => .box false [.sl (s.sorts.map .s) s.sorts.length, .sl (s.below.flatMap pairCells) s.below.length, .sl (s.ops.flatMap opCells) s.ops.length, .sl (s.funs.flatMap opCells) s.funs.length, .sl (s.values.map .s) s.values.length] :: t.2.2) (fun t => t.1 ≤ s.funs.length ∧ (∀ j, j < t.1 → funR s (s.funs.getD j default) = true) ∧ OutIs 1 1 t.2.2 t.2.1 ((s.ops.map LOp.name).map .s ++ ((s.funs.take t.1).map LOp.name).map .s) (s.ops.length + t.1)) (fun t => s.funs.length - t.1) ((0, out, g)) ⟨Nat.zero_le _, fun j h => by simp at h, by simpa using ho⟩ rfl (by simp [Fits]) ?_
      clear ho hk2
      rintro ⟨k, out, g⟩ j ⟨hk, ha, ho⟩
      dsimp only at hk ha ho
      have o1 : k < s.funs.length → OkO (s.funs.getD k default) := fun h => hs.funsO _ (mem_getD h)
      simp -implicitDefEqProofs (disch := omega) only [go_sem, ↓reduceIte, Nat.reduceAdd, Nat.reduceSub, Nat.reduceMul, Nat.reduceLeDiff, Nat.reduceLT, Nat.reduceEqDiff, Int.reduceNeg, Nat.reduceBEq]
      (repeat' (first | refine g_true ?_ ?_ | refine g_false ?_ ?_ | refine cond_intro ?_ ?_ | refine And.intro (by omega) ?_ | (intro hr; have hc := hr; (try simp only [decide_eq_true_eq, decide_eq_false_iff_not, Bool.not_eq_true', Bool.not_eq_false'] at hc); simp -implicitDefEqProofs (disch := omega) only [hr, go_sem, ↓reduceIte, Nat.reduceAdd, Nat.reduceSub, Nat.reduceMul, Nat.reduceLeDiff, Nat.reduceLT, Nat.reduceEqDiff, Int.reduceNeg, Nat.reduceBEq]; (try clear hr))))
      · refine app_intro' (pre := [.box false [.sl (s.sorts.map .s) s.sorts.length, .sl (s.below.flatMap pairCells) s.below.length, .sl (s.ops.flatMap opCells) s.ops.length, .sl (s.funs.flatMap opCells) s.funs.length, .sl (s.values.map .s) s.values.length]]) (g := g ++ [.box false (opCells (s.funs.getD k default))]) (more := [.arr false 1 ([.s (s.funs.getD k default).name])]) (news := [.s (s.funs.getD k default).name]) (m := 1) ((ho).more _) rfl (by simp -implicitDefEqProofs (disch := omega) only [go_sem, ↓reduceIte, Nat.reduceAdd, Nat.reduceSub, Nat.reduceMul, Nat.reduceLeDiff, Nat.reduceLT, Nat.reduceEqDiff, Int.reduceNeg, Nat.reduceBEq]) el22 zo9 sz9 by9 rfl (by decide) (by simp -implicitDefEqProofs (disch := omega) only [go_sem, ↓reduceIte, Nat.reduceAdd, Nat.reduceSub, Nat.reduceMul, Nat.reduceLeDiff, Nat.reduceLT, Nat.reduceEqDiff, Int.reduceNeg, Nat.reduceBEq]) (by simp -implicitDefEqProofs (disch := omega) only [go_sem, ↓reduceIte, Nat.reduceAdd, Nat.reduceSub, Nat.reduceMul, Nat.reduceLeDiff, Nat.reduceLT, Nat.reduceEqDiff, Int.reduceNeg, Nat.reduceBEq]) ⟨by omega, by omega⟩ ?_
        intro out' g' ho' hkeep
        have hbox := hkeep g.length (.box false (opCells (s.funs.getD k default))) (by rw [get_off0]; rfl) (fun c => nofun)
        clear hkeep
        have ho1 := o1 (by omega)
        simp -implicitDefEqProofs (disch := omega) only [hbox, go_sem, ↓reduceIte, Nat.reduceAdd, Nat.reduceSub, Nat.reduceMul, Nat.reduceLeDiff, Nat.reduceLT, Nat.reduceEqDiff, Int.reduceNeg, Nat.reduceBEq]
        (repeat' (first | refine g_true ?_ ?_ | refine g_false ?_ ?_ | refine cond_intro ?_ ?_ | (refine c_ctrE (ctr42 (s.funs.getD k default).name ho1.name) ?_ ?_; (focus (simp -implicitDefEqProofs (disch := omega) only [hbox, avs, avb, avi, avo, sigCells, opCells, pairCells, go_sem, ↓reduceIte, Nat.reduceAdd, Nat.reduceSub, Nat.reduceMul, Nat.reduceLeDiff, Nat.reduceLT, Nat.reduceEqDiff, Int.reduceNeg, Nat.reduceBEq]; done)); simp -implicitDefEqProofs (disch := omega) only [hbox, go_sem, ↓reduceIte, Nat.reduceAdd, Nat.reduceSub, Nat.reduceMul, Nat.reduceLeDiff, Nat.reduceLT, Nat.reduceEqDiff, Int.reduceNeg, Nat.reduceBEq]) | (refine c_ctrE (ctr40 (s.funs.getD k default).name) ?_ ?_; (focus (simp -implicitDefEqProofs (disch := omega) only [hbox, avs, avb, avi, avo, sigCells, opCells, pairCells, go_sem, ↓reduceIte, Nat.reduceAdd, Nat.reduceSub, Nat.reduceMul, Nat.reduceLeDiff, Nat.reduceLT, Nat.reduceEqDiff, Int.reduceNeg, Nat.reduceBEq]; done)); simp -implicitDefEqProofs (disch := omega) only [hbox, go_sem, ↓reduceIte, Nat.reduceAdd, Nat.reduceSub, Nat.reduceMul, Nat.reduceLeDiff, Nat.reduceLT, Nat.reduceEqDiff, Int.reduceNeg, Nat.reduceBEq]) | (refine c_ctrE (ctr116 s (s.funs.getD k default) h1 ho1.args) ?_ ?_; (focus (simp -implicitDefEqProofs (disch := omega) only [hbox, avs, avb, avi, avo, sigCells, opCells, pairCells, go_sem, ↓reduceIte, Nat.reduceAdd, Nat.reduceSub, Nat.reduceMul, Nat.reduceLeDiff, Nat.reduceLT, Nat.reduceEqDiff, Int.reduceNeg, Nat.reduceBEq]; done)); simp -implicitDefEqProofs (disch := omega) only [hbox, go_sem, ↓reduceIte, Nat.reduceAdd, Nat.reduceSub, Nat.reduceMul, Nat.reduceLeDiff, Nat.reduceLT, Nat.reduceEqDiff, Int.reduceNeg, Nat.reduceBEq]) | (refine c_ctrE (ctr61 s (s.funs.getD k default).sort h1) ?_ ?_; (focus (simp -implicitDefEqProofs (disch := omega) only [hbox, avs, avb, avi, avo, sigCells, opCells, pairCells, go_sem, ↓reduceIte, Nat.reduceAdd, Nat.reduceSub, Nat.reduceMul, Nat.reduceLeDiff, Nat.reduceLT, Nat.reduceEqDiff, Int.reduceNeg, Nat.reduceBEq]; done)); simp -implicitDefEqProofs (disch := omega) only [hbox, go_sem, ↓reduceIte, Nat.reduceAdd, Nat.reduceSub, Nat.reduceMul, Nat.reduceLeDiff, Nat.reduceLT, Nat.reduceEqDiff, Int.reduceNeg, Nat.reduceBEq]) | refine And.intro (by omega) ?_ | (intro hr; have hc := hr; (try simp only [decide_eq_true_eq, decide_eq_false_iff_not, Bool.not_eq_true', Bool.not_eq_false'] at hc); simp -implicitDefEqProofs (disch := omega) only [hr, hbox, go_sem, ↓reduceIte, Nat.reduceAdd, Nat.reduceSub, Nat.reduceMul, Nat.reduceLeDiff, Nat.reduceLT, Nat.reduceEqDiff, Int.reduceNeg, Nat.reduceBEq]; (try clear hr))))
        all_goals try simp only [castPos, Nat.pos_iff_ne_zero, Decidable.not_not] at *
        all_goals first | (refine fin_eq ?_ (by rfl); rw [funs_no (k := k) (by omega) (by simp only [funR, *, decide_true, decide_false, Bool.and_false, Bool.false_and, Bool.and_true, Bool.true_and, Bool.not_true, Bool.not_false])]; done) | skip
        refine ⟨(k + 1, out', g'), ⟨by dsimp only; omega, below_succ ha (by simp only [funR, *, decide_true, decide_false, Bool.and_false, Bool.false_and, Bool.and_true, Bool.true_and, Bool.not_true, Bool.not_false]), ?_⟩, by dsimp only; omega, rfl, rfl, by simp⟩
        dsimp only
        rw [take_getD (d := default) (by omega), List.map_append, List.map_append, ← List.append_assoc]
        exact ho'
      · have hk2 : k = s.funs.length := by omega
        have hf : s.funs.all (funR s) = true := all_getD (d := default) (fun j hj => ha j (by omega))
        rw [hk2, List.take_length] at ho
        clear ha hk o1 hc hk2
        have hnl : (namesOf s).length = s.ops.length + s.funs.length := by simp [namesOf]
        have hop : opsR s = (decide ((namesOf s).length ≤ 200) && decide (namesOf s).Nodup) := by rw [opsR, hall, hf]; rfl
        have hcell : (s.ops.map LOp.name).map AV.s ++ (s.funs.map LOp.name).map AV.s = (namesOf s).map .s := by simp [namesOf]
        rw [hcell, ← hnl] at ho
        rcases ho with ⟨rfl, hnil, _⟩ | ⟨i0, rfl, hg, _⟩
        · have hnil : namesOf s = [] := by simpa using hnil
          simp -implicitDefEqProofs (disch := omega) only [go_sem, ↓reduceIte, Nat.reduceAdd, Nat.reduceSub, Nat.reduceMul, Nat.reduceLeDiff, Nat.reduceLT, Nat.reduceEqDiff, Int.reduceNeg, Nat.reduceBEq]
          (repeat' (first | refine g_true ?_ ?_ | refine g_false ?_ ?_ | refine cond_intro ?_ ?_ | (refine c_ctrE (ctr62 [] (by simp)) ?_ ?_; (focus (simp -implicitDefEqProofs (disch := omega) only [avs, avb, avi, avo, sigCells, opCells, pairCells, go_sem, ↓reduceIte, Nat.reduceAdd, Nat.reduceSub, Nat.reduceMul, Nat.reduceLeDiff, Nat.reduceLT, Nat.reduceEqDiff, Int.reduceNeg, Nat.reduceBEq]; done)); simp -implicitDefEqProofs (disch := omega) only [go_sem, ↓reduceIte, Nat.reduceAdd, Nat.reduceSub, Nat.reduceMul, Nat.reduceLeDiff, Nat.reduceLT, Nat.reduceEqDiff, Int.reduceNeg, Nat.reduceBEq]) | refine And.intro (by omega) ?_ | (intro hr; have hc := hr; (try simp only [decide_eq_true_eq, decide_eq_false_iff_not, Bool.not_eq_true', Bool.not_eq_false'] at hc); simp -implicitDefEqProofs (disch := omega) only [hr, go_sem, ↓reduceIte, Nat.reduceAdd, Nat.reduceSub, Nat.reduceMul, Nat.reduceLeDiff, Nat.reduceLT, Nat.reduceEqDiff, Int.reduceNeg, Nat.reduceBEq]; (try clear hr))))
          all_goals refine fin_eq ?_ (by rfl)
          all_goals first | (exfalso; omega) | (rw [hop, hnil]; rfl)
        · simp -implicitDefEqProofs (disch := omega) only [hg, go_sem, ↓reduceIte, Nat.reduceAdd, Nat.reduceSub, Nat.reduceMul, Nat.reduceLeDiff, Nat.reduceLT, Nat.reduceEqDiff, Int.reduceNeg, Nat.reduceBEq]
          (repeat' (first | refine g_true ?_ ?_ | refine g_false ?_ ?_ | refine cond_intro ?_ ?_ | (refine c_ctrE (ctr62 (namesOf s) (by omega)) ?_ ?_; (focus (simp -implicitDefEqProofs (disch := omega) only [hg, avs, avb, avi, avo, sigCells, opCells, pairCells, go_sem, ↓reduceIte, Nat.reduceAdd, Nat.reduceSub, Nat.reduceMul, Nat.reduceLeDiff, Nat.reduceLT, Nat.reduceEqDiff, Int.reduceNeg, Nat.reduceBEq]; done)); simp -implicitDefEqProofs (disch := omega) only [hg, go_sem, ↓reduceIte, Nat.reduceAdd, Nat.reduceSub, Nat.reduceMul, Nat.reduceLeDiff, Nat.reduceLT, Nat.reduceEqDiff, Int.reduceNeg, Nat.reduceBEq]) | refine And.intro (by omega) ?_ | (intro hr; have hc := hr; (try simp only [decide_eq_true_eq, decide_eq_false_iff_not, Bool.not_eq_true', Bool.not_eq_false'] at hc); simp -implicitDefEqProofs (disch := omega) only [hr, hg, go_sem, ↓reduceIte, Nat.reduceAdd, Nat.reduceSub, Nat.reduceMul, Nat.reduceLeDiff, Nat.reduceLT, Nat.reduceEqDiff, Int.reduceNeg, Nat.reduceBEq]; (try clear hr))))
          all_goals refine fin_eq ?_ (by rfl)
          all_goals simp only [castLe200] at hc
          all_goals rw [hop]
          all_goals first | rw [decide_eq_true hc, Bool.true_and] | rw [decide_eq_false hc, Bool.false_and]
end Go.Proofs.YtadileniakikeaaGreatDoor
set_option maxRecDepth 100000
set_option linter.unusedSimpArgs false
set_option linter.unusedVariables false
namespace Go.Proofs.YtadileniakikeaaGreatDoor
open Go Go.Vo

/-! ## the reference says of the same signatures that they are valid -/
def validR (s : LSig) : Bool := decide (s.sorts.length ≤ 40) && decide (s.below.length ≤ 200) && decide (s.ops.length + s.funs.length ≤ 200) && sortsR s && belowR s && opsR s && s.values.all (existsB s) && decide s.values.Nodup
theorem exists_eq (s : LSig) (x : Str) : existsB s x = existsA s x := by
  have := always_eq x
  unfold existsB existsA keysOf
  rw [Bool.eq_iff_iff]
  have h2 := Bool.eq_iff_iff.1 this
  simp only [List.contains_iff_mem] at h2
  simp [h2]
theorem pieceText_eq {t : Str} : pieceText t = pieceR t := by
  unfold pieceText pieceR isSign
  have hc : (fun c : UInt8 => signChar c.toNat) = fun c => pieceChar c.toNat := by
    funext c
    simp only [signChar, pieceChar, part, Bool.or_assoc]
  rw [hc]
  have hn : isName t = true → 1 ≤ t.length := by
    intro h
    cases t with
    | nil => revert h; decide
    | cons a l => simp
  cases h : isName t
  · simp
  · have := hn h
    simp [this]
    by_cases h2 : t.length ≤ 20 <;> simp [h2]
theorem piece_eq (p : Str × Str) : pieceA p = okR p := by
  unfold pieceA okR
  rw [pieceText_eq]
  have h0 : pieceR [] = false := by decide
  by_cases h2 : p.2 = []
  · simp [h2]
  · by_cases h1 : p.1 = []
    · simp [h2, h1, h0]
    · simp [h2, h1]
theorem op_eq (s : LSig) (o : LOp) : isOp s o = opR s o := by
  have hp : (fun p => pieceA p) = okR := by funext p; exact piece_eq p
  have hx : s.sorts.contains o.sort = s.sorts.contains o.sort := rfl
  have he : o.args.all (existsA s) = o.args.all (existsB s) := by congr 1; funext x; exact (exists_eq s x).symm
  unfold isOp opR opHead argsR piecesR strictR precR precOK assocOK syntaxA
  rw [show pieceA = okR from hp, he]
  rw [Bool.eq_iff_iff]
  by_cases hz : o.pieces = []
  · simp only [hz, List.all_nil, List.length_nil, List.isEmpty_nil, if_true, Bool.and_eq_true, decide_eq_true_eq, Bool.or_eq_true, Bool.not_eq_true']
    constructor
    · rintro h; simp_all; omega
    · rintro h; simp_all
  · have : o.pieces.isEmpty = false := by simpa using hz
    have hl : 0 < o.pieces.length := List.length_pos_iff.2 hz
    simp only [hz, this, hl, if_false, Bool.and_eq_true, decide_eq_true_eq, Bool.or_eq_true, Bool.not_eq_true', Bool.false_eq_true, false_or, true_or, and_true]
    constructor
    · rintro h; simp_all
    · rintro h; simp_all
theorem fun_eq (s : LSig) (o : LOp) : isFun s o = funR s o := by
  have he : o.args.all (existsA s) = o.args.all (existsB s) := by congr 1; funext x; exact (exists_eq s x).symm
  unfold isFun funR argsR
  rw [he, exists_eq]
  rw [Bool.eq_iff_iff]
  simp only [Bool.and_eq_true, decide_eq_true_eq, Bool.not_eq_true']
  constructor
  · rintro h; simp_all
  · rintro h; simp_all
theorem sorts_eq (s : LSig) : sortsR s = (s.sorts.all freshA && decide (s.sorts.length ≤ 40) && decide s.sorts.Nodup) := by
  unfold sortsR
  have : freshB = freshA := by funext x; simp only [freshA, freshB, always_eq]
  rw [this]
theorem below_one (s : LSig) (b : Str × Str) : (belowOne s b && belowUp s b) = isBelow s b := by
  unfold belowOne belowUp isBelow above
  rw [exists_eq]
  by_cases h : s.sorts.contains b.2 = true
  · have h2 : existsA s b.2 = true := by
      rw [← exists_eq]; unfold existsB; rw [h, Bool.or_true]
    rw [h, h2, if_pos rfl]
    rw [Bool.eq_iff_iff]; simp only [Bool.and_eq_true, Bool.not_eq_true', decide_eq_true_eq, decide_eq_false_iff_not]; exact ⟨fun ⟨⟨⟨a, b⟩, c⟩, d⟩ => ⟨⟨⟨b, a⟩, c⟩, d⟩, fun ⟨⟨⟨a, b⟩, c⟩, d⟩ => ⟨⟨⟨b, a⟩, c⟩, d⟩⟩
  · have h := Bool.eq_false_iff.2 h
    rw [h]; simp
theorem all_and {α : Type} {p q : α → Bool} {l : List α} : (l.all p && l.all q) = l.all fun x => p x && q x := by
  induction l with
  | nil => rfl
  | cons x l ih =>
    simp only [List.all_cons, ← ih]
    cases p x <;> cases q x <;> cases l.all p <;> cases l.all q <;> rfl
theorem below_eq (s : LSig) : belowR s = (s.below.all (isBelow s) && decide s.below.Nodup && decide (s.below.length ≤ 200)) := by
  have h : s.below.all (isBelow s) = (s.below.all (belowOne s) && s.below.all (belowUp s)) := by
    rw [all_and]; congr 1; funext b; exact (below_one s b).symm
  rw [h, belowR]
  cases s.below.all (belowOne s) <;> cases s.below.all (belowUp s) <;> simp
theorem valid_eq (s : LSig) : validR s = validB s := by
  have h1 : s.ops.all (isOp s) = s.ops.all (opR s) := by congr 1; funext x; exact op_eq s x
  have h2 : s.funs.all (isFun s) = s.funs.all (funR s) := by congr 1; funext x; exact fun_eq s x
  have h3 : s.values.all (existsA s) = s.values.all (existsB s) := by congr 1; funext x; exact (exists_eq s x).symm
  have h4 : (namesOf s).length = s.ops.length + s.funs.length := by simp [namesOf]
  have h5 : opNames s = namesOf s := rfl
  unfold validR validB validHead validMid validTail
  rw [sorts_eq, below_eq, opsR, h1, h2, h3, h4, h5]
  rw [Bool.eq_iff_iff]
  simp only [Bool.and_eq_true]
  constructor
  · rintro ⟨⟨⟨⟨⟨⟨⟨a, b⟩, c⟩, ⟨d, e⟩, f⟩, ⟨g, h⟩, i⟩, ⟨⟨j, k⟩, l⟩, m⟩, n⟩, o⟩
    exact ⟨⟨⟨⟨⟨⟨a, b⟩, c⟩, h⟩, o⟩, ⟨f, d⟩, m⟩, ⟨⟨g, n⟩, j⟩, k⟩
  · rintro ⟨⟨⟨⟨⟨⟨a, b⟩, c⟩, h⟩, o⟩, ⟨f, d⟩, m⟩, ⟨⟨g, n⟩, j⟩, k⟩
    exact ⟨⟨⟨⟨⟨⟨⟨a, b⟩, c⟩, ⟨d, a⟩, f⟩, ⟨g, h⟩, b⟩, ⟨⟨j, k⟩, c⟩, m⟩, n⟩, o⟩
theorem gt40 {n : Nat} : (40 < (n : Int)) ↔ ¬ n ≤ 40 := by omega
theorem gt200 {n : Nat} : (200 < (n : Int)) ↔ ¬ n ≤ 200 := by omega
theorem gt200' {n m : Nat} : (200 < (n : Int) + m) ↔ ¬ n + m ≤ 200 := by omega
set_option maxHeartbeats 4000000 in
theorem ctr13 (s : LSig) (hm : Small s) (hs : OkS s): Ctr Tryz.prog G0 13 [.agg (sigCells s)] (.b (validB s)) := by
  refine sem_intro (rx := false) mixed Tryz.func13 rfl (by kernel_rfl) (by kernel_rfl) (ac := ?_) ?_ g0 ?_
  rotate_left
  · simp only [strip, stripOps, stripOp, hoist, List.filter_cons, List.filter_nil, List.nil_append, List.cons_append, isFree, anyPre, Region.binds, Bool.not_true, Bool.not_false, Bool.false_eq_true, if_true, if_false, Option.isNone_none, Option.isNone_some, Bool.true_and, Bool.false_and, List.map_nil, List.map_cons, List.isEmpty_nil, List.isEmpty_cons, List.append_nil]
    rfl
  · simp -implicitDefEqProofs (disch := omega) only [Tryz.f13, go_sem, List.replicate, ↓reduceIte, Nat.reduceAdd, Nat.reduceSub, Nat.reduceMul, Nat.reduceLeDiff, Nat.reduceLT, Nat.reduceEqDiff, Int.reduceNeg, Nat.reduceBEq]
    have h1 := hm.sorts
    have h2 := hm.below
    have h3 := hm.ops
    have h4 := hm.funs
    have h5 := hm.values
    rw [← valid_eq]
    (repeat' (first | refine g_true ?_ ?_ | refine g_false ?_ ?_ | refine cond_intro ?_ ?_ | (refine c_ctrE (ctr58 s hs) ?_ ?_; (focus (simp -implicitDefEqProofs (disch := omega) only [avs, avb, avi, avo, sigCells, opCells, pairCells, go_sem, ↓reduceIte, Nat.reduceAdd, Nat.reduceSub, Nat.reduceMul, Nat.reduceLeDiff, Nat.reduceLT, Nat.reduceEqDiff, Int.reduceNeg, Nat.reduceBEq]; done)); simp -implicitDefEqProofs (disch := omega) only [go_sem, ↓reduceIte, Nat.reduceAdd, Nat.reduceSub, Nat.reduceMul, Nat.reduceLeDiff, Nat.reduceLT, Nat.reduceEqDiff, Int.reduceNeg, Nat.reduceBEq]) | (refine c_ctrE (ctr59 s hs h2) ?_ ?_; (focus (simp -implicitDefEqProofs (disch := omega) only [avs, avb, avi, avo, sigCells, opCells, pairCells, go_sem, ↓reduceIte, Nat.reduceAdd, Nat.reduceSub, Nat.reduceMul, Nat.reduceLeDiff, Nat.reduceLT, Nat.reduceEqDiff, Int.reduceNeg, Nat.reduceBEq]; done)); simp -implicitDefEqProofs (disch := omega) only [go_sem, ↓reduceIte, Nat.reduceAdd, Nat.reduceSub, Nat.reduceMul, Nat.reduceLeDiff, Nat.reduceLT, Nat.reduceEqDiff, Int.reduceNeg, Nat.reduceBEq]) | (refine c_ctrE (ctr60 s hs (by omega)) ?_ ?_; (focus (simp -implicitDefEqProofs (disch := omega) only [avs, avb, avi, avo, sigCells, opCells, pairCells, go_sem, ↓reduceIte, Nat.reduceAdd, Nat.reduceSub, Nat.reduceMul, Nat.reduceLeDiff, Nat.reduceLT, Nat.reduceEqDiff, Int.reduceNeg, Nat.reduceBEq]; done)); simp -implicitDefEqProofs (disch := omega) only [go_sem, ↓reduceIte, Nat.reduceAdd, Nat.reduceSub, Nat.reduceMul, Nat.reduceLeDiff, Nat.reduceLT, Nat.reduceEqDiff, Int.reduceNeg, Nat.reduceBEq]) | refine And.intro (by omega) ?_ | (intro hr; have hc := hr; (try simp only [decide_eq_true_eq, decide_eq_false_iff_not, Bool.not_eq_true', Bool.not_eq_false'] at hc); simp -implicitDefEqProofs (disch := omega) only [hr, go_sem, ↓reduceIte, Nat.reduceAdd, Nat.reduceSub, Nat.reduceMul, Nat.reduceLeDiff, Nat.reduceLT, Nat.reduceEqDiff, Int.reduceNeg, Nat.reduceBEq]; (try clear hr))))
    all_goals try simp only [gt40, gt200, gt200', Decidable.not_not] at *
    all_goals first | (refine fin_eq ?_ (by rfl); simp only [validR, *, decide_true, decide_false, Bool.and_false, Bool.false_and, Bool.and_true, Bool.true_and, Bool.not_true, Bool.not_false]; done) | skip
    refine x_loopJ (fun (k : Nat) => [.k, .k, .j, .k, .j, .k, .k, .k, .k, .k, .k, .k, .k, .k, .k, .k, .k, .k, .k, .k, .k, .k, .k, .k, .k, .k, .k, .k, .k, .k, .k, .k, .k, .k, .k, .k, .k, .k, .k, .k, .k, .k, .k, .v (.i .i64 k), .j, .j, .j, .j, .j, .j, .j, .j, .k, .k, .k]) (fun k => [.box false [.sl (s.sorts.map .s) s.sorts.length, .sl (s.below.flatMap pairCells) s.below.length, .sl (s.ops.flatMap opCells) s.ops.length, .sl (s.funs.flatMap opCells) s.funs.length, .sl (s.values.map .s) s.values.length]]) (fun k => k ≤ s.values.length ∧ ∀ j, j < k → existsB s (s.values.getD j []) = true) (fun k => s.values.length - k) (0) ⟨Nat.zero_le _, fun j h => by omega⟩ rfl (by simp [Fits]) ?_
    rintro k j ⟨hk, ha⟩
    simp -implicitDefEqProofs (disch := omega) only [go_sem, ↓reduceIte, Nat.reduceAdd, Nat.reduceSub, Nat.reduceMul, Nat.reduceLeDiff, Nat.reduceLT, Nat.reduceEqDiff, Int.reduceNeg, Nat.reduceBEq]
    (repeat' (first | refine g_true ?_ ?_ | refine g_false ?_ ?_ | refine cond_intro ?_ ?_ | (refine c_ctrE (ctr61 s (s.values.getD k []) (by omega)) ?_ ?_; (focus (simp -implicitDefEqProofs (disch := omega) only [avs, avb, avi, avo, sigCells, opCells, pairCells, go_sem, ↓reduceIte, Nat.reduceAdd, Nat.reduceSub, Nat.reduceMul, Nat.reduceLeDiff, Nat.reduceLT, Nat.reduceEqDiff, Int.reduceNeg, Nat.reduceBEq]; done)); simp -implicitDefEqProofs (disch := omega) only [go_sem, ↓reduceIte, Nat.reduceAdd, Nat.reduceSub, Nat.reduceMul, Nat.reduceLeDiff, Nat.reduceLT, Nat.reduceEqDiff, Int.reduceNeg, Nat.reduceBEq]) | (refine c_ctrE (ctr62 s.values (by omega)) ?_ ?_; (focus (simp -implicitDefEqProofs (disch := omega) only [avs, avb, avi, avo, sigCells, opCells, pairCells, go_sem, ↓reduceIte, Nat.reduceAdd, Nat.reduceSub, Nat.reduceMul, Nat.reduceLeDiff, Nat.reduceLT, Nat.reduceEqDiff, Int.reduceNeg, Nat.reduceBEq]; done)); simp -implicitDefEqProofs (disch := omega) only [go_sem, ↓reduceIte, Nat.reduceAdd, Nat.reduceSub, Nat.reduceMul, Nat.reduceLeDiff, Nat.reduceLT, Nat.reduceEqDiff, Int.reduceNeg, Nat.reduceBEq]) | refine And.intro (by omega) ?_ | (intro hr; have hc := hr; (try simp only [decide_eq_true_eq, decide_eq_false_iff_not, Bool.not_eq_true', Bool.not_eq_false'] at hc); simp -implicitDefEqProofs (disch := omega) only [hr, go_sem, ↓reduceIte, Nat.reduceAdd, Nat.reduceSub, Nat.reduceMul, Nat.reduceLeDiff, Nat.reduceLT, Nat.reduceEqDiff, Int.reduceNeg, Nat.reduceBEq]; (try clear hr))))
    · refine fin_eq ?_ (by rfl)
      have hno : s.values.all (existsB s) = false := not_all_getD (d := []) (j := k) (by omega) hc
      rw [validR, hno]; simp
    · exact ⟨k + 1, ⟨by omega, below_succ ha hc⟩, by omega, by simp⟩
    · refine fin_eq ?_ (by rfl)
      have hall : s.values.all (existsB s) = true := all_getD (d := []) (fun j hj => ha j (by omega))
      simp only [validR, *, decide_true, decide_false, Bool.and_false, Bool.false_and, Bool.and_true, Bool.true_and, Bool.not_true, Bool.not_false]
end Go.Proofs.YtadileniakikeaaGreatDoor
set_option maxRecDepth 100000
set_option linter.unusedSimpArgs false
set_option linter.unusedVariables false
namespace Go.Proofs.YtadileniakikeaaGreatDoor
open Go Go.Vo

theorem few_small {s : LSig} (h : few s = true) : Small s := by
  simp only [few, Bool.and_eq_true, decide_eq_true_eq] at h
  exact ⟨by omega, by omega, by omega, by omega, by omega⟩
theorem bulk_le {l : List LOp} {o : LOp} (h : o ∈ l) : bulk o ≤ bulks l := by
  unfold bulks
  induction l with
  | nil => cases h
  | cons a l ih =>
    rw [List.map_cons, List.sum_cons]
    rcases List.mem_cons.1 h with rfl | h
    · omega
    · have := ih h; omega
theorem few_bulk {s : LSig} (h : few s = true) {o : LOp} (ho : o ∈ s.ops ++ s.funs) : o.args.length ≤ 3000 ∧ o.pieces.length ≤ 3000 ∧ o.strict.length ≤ 3000 := by
  simp only [few, Bool.and_eq_true, decide_eq_true_eq] at h
  have := bulk_le ho
  unfold bulk at this
  omega
theorem few_short {s : LSig} (h : few s = true) : Short s :=
  ⟨fun o ho => by have := few_bulk h (List.mem_append_left _ ho); omega, fun o ho => by have := few_bulk h (List.mem_append_right _ ho); omega⟩
set_option maxHeartbeats 4000000 in
theorem ctr3 (s : LSig) (hs : OkS s): Ctr Tryz.prog G0 3 [.agg (sigCells s)] (.b true) := by
  refine sem_intro (rx := false) mixed Tryz.func3 rfl (by kernel_rfl) (by kernel_rfl) (ac := ?_) ?_ g0 ?_
  rotate_left
  · simp only [strip, stripOps, stripOp, hoist, List.filter_cons, List.filter_nil, List.nil_append, List.cons_append, isFree, anyPre, Region.binds, Bool.not_true, Bool.not_false, Bool.false_eq_true, if_true, if_false, Option.isNone_none, Option.isNone_some, Bool.true_and, Bool.false_and, List.map_nil, List.map_cons, List.isEmpty_nil, List.isEmpty_cons, List.append_nil]
    rfl
  · simp -implicitDefEqProofs (disch := omega) only [Tryz.f3, go_sem, List.replicate, ↓reduceIte, Nat.reduceAdd, Nat.reduceSub, Nat.reduceMul, Nat.reduceLeDiff, Nat.reduceLT, Nat.reduceEqDiff, Int.reduceNeg, Nat.reduceBEq]
    by_cases hf : few s = true
    · have hm := few_small hf
      (repeat' (first | refine g_true ?_ ?_ | refine g_false ?_ ?_ | refine cond_intro ?_ ?_ | (refine c_ctrE (ctr10 s hs) ?_ ?_; (focus (simp -implicitDefEqProofs (disch := omega) only [hf, avs, avb, avi, avo, sigCells, opCells, pairCells, go_sem, ↓reduceIte, Nat.reduceAdd, Nat.reduceSub, Nat.reduceMul, Nat.reduceLeDiff, Nat.reduceLT, Nat.reduceEqDiff, Int.reduceNeg, Nat.reduceBEq]; done)); simp -implicitDefEqProofs (disch := omega) only [hf, go_sem, ↓reduceIte, Nat.reduceAdd, Nat.reduceSub, Nat.reduceMul, Nat.reduceLeDiff, Nat.reduceLT, Nat.reduceEqDiff, Int.reduceNeg, Nat.reduceBEq]) | (refine c_ctrE (ctr11) ?_ ?_; (focus (simp -implicitDefEqProofs (disch := omega) only [hf, avs, avb, avi, avo, sigCells, opCells, pairCells, go_sem, ↓reduceIte, Nat.reduceAdd, Nat.reduceSub, Nat.reduceMul, Nat.reduceLeDiff, Nat.reduceLT, Nat.reduceEqDiff, Int.reduceNeg, Nat.reduceBEq]; done)); simp -implicitDefEqProofs (disch := omega) only [hf, go_sem, ↓reduceIte, Nat.reduceAdd, Nat.reduceSub, Nat.reduceMul, Nat.reduceLeDiff, Nat.reduceLT, Nat.reduceEqDiff, Int.reduceNeg, Nat.reduceBEq]) | (refine c_ctrE (ctr12 s hm hs) ?_ ?_; (focus (simp -implicitDefEqProofs (disch := omega) only [hf, avs, avb, avi, avo, sigCells, opCells, pairCells, go_sem, ↓reduceIte, Nat.reduceAdd, Nat.reduceSub, Nat.reduceMul, Nat.reduceLeDiff, Nat.reduceLT, Nat.reduceEqDiff, Int.reduceNeg, Nat.reduceBEq]; done)); simp -implicitDefEqProofs (disch := omega) only [hf, go_sem, ↓reduceIte, Nat.reduceAdd, Nat.reduceSub, Nat.reduceMul, Nat.reduceLeDiff, Nat.reduceLT, Nat.reduceEqDiff, Int.reduceNeg, Nat.reduceBEq]) | (refine c_ctrE (ctr13 s hm hs) ?_ ?_; (focus (simp -implicitDefEqProofs (disch := omega) only [hf, avs, avb, avi, avo, sigCells, opCells, pairCells, go_sem, ↓reduceIte, Nat.reduceAdd, Nat.reduceSub, Nat.reduceMul, Nat.reduceLeDiff, Nat.reduceLT, Nat.reduceEqDiff, Int.reduceNeg, Nat.reduceBEq]; done)); simp -implicitDefEqProofs (disch := omega) only [hf, go_sem, ↓reduceIte, Nat.reduceAdd, Nat.reduceSub, Nat.reduceMul, Nat.reduceLeDiff, Nat.reduceLT, Nat.reduceEqDiff, Int.reduceNeg, Nat.reduceBEq]) | refine And.intro (by omega) ?_ | (intro hr; have hc := hr; (try simp only [decide_eq_true_eq, decide_eq_false_iff_not, Bool.not_eq_true', Bool.not_eq_false'] at hc); simp -implicitDefEqProofs (disch := omega) only [hr, hf, go_sem, ↓reduceIte, Nat.reduceAdd, Nat.reduceSub, Nat.reduceMul, Nat.reduceLeDiff, Nat.reduceLT, Nat.reduceEqDiff, Int.reduceNeg, Nat.reduceBEq]; (try clear hr))))
      exact fin_eq rfl rfl
    · have hf := Bool.eq_false_iff.2 hf
      (repeat' (first | refine g_true ?_ ?_ | refine g_false ?_ ?_ | refine cond_intro ?_ ?_ | (refine c_ctrE (ctr10 s hs) ?_ ?_; (focus (simp -implicitDefEqProofs (disch := omega) only [hf, avs, avb, avi, avo, sigCells, opCells, pairCells, go_sem, ↓reduceIte, Nat.reduceAdd, Nat.reduceSub, Nat.reduceMul, Nat.reduceLeDiff, Nat.reduceLT, Nat.reduceEqDiff, Int.reduceNeg, Nat.reduceBEq]; done)); simp -implicitDefEqProofs (disch := omega) only [hf, go_sem, ↓reduceIte, Nat.reduceAdd, Nat.reduceSub, Nat.reduceMul, Nat.reduceLeDiff, Nat.reduceLT, Nat.reduceEqDiff, Int.reduceNeg, Nat.reduceBEq]) | (refine c_ctrE (ctr11) ?_ ?_; (focus (simp -implicitDefEqProofs (disch := omega) only [hf, avs, avb, avi, avo, sigCells, opCells, pairCells, go_sem, ↓reduceIte, Nat.reduceAdd, Nat.reduceSub, Nat.reduceMul, Nat.reduceLeDiff, Nat.reduceLT, Nat.reduceEqDiff, Int.reduceNeg, Nat.reduceBEq]; done)); simp -implicitDefEqProofs (disch := omega) only [hf, go_sem, ↓reduceIte, Nat.reduceAdd, Nat.reduceSub, Nat.reduceMul, Nat.reduceLeDiff, Nat.reduceLT, Nat.reduceEqDiff, Int.reduceNeg, Nat.reduceBEq]) | refine And.intro (by omega) ?_ | (intro hr; have hc := hr; (try simp only [decide_eq_true_eq, decide_eq_false_iff_not, Bool.not_eq_true', Bool.not_eq_false'] at hc); simp -implicitDefEqProofs (disch := omega) only [hr, hf, go_sem, ↓reduceIte, Nat.reduceAdd, Nat.reduceSub, Nat.reduceMul, Nat.reduceLeDiff, Nat.reduceLT, Nat.reduceEqDiff, Int.reduceNeg, Nat.reduceBEq]; (try clear hr))))
      exact fin_eq rfl rfl
end Go.Proofs.YtadileniakikeaaGreatDoor
set_option maxRecDepth 100000
set_option linter.unusedSimpArgs false
set_option linter.unusedVariables false
namespace Go.Proofs.YtadileniakikeaaGreatDoor
open Go Go.Vo

/-! ## the reference: order -/
def sureC (s : LSig) (xs : List Str) : Int := if validB s then (if xs.all (existsA s) then 0 else 13) else 2
theorem sure_n {s : LSig} {xs : List Str} (h : validB s = false) : sureC s xs = 2 := by simp [sureC, h]
theorem sure_x {s : LSig} {xs : List Str} (h : validB s = true) (h2 : xs.all (existsA s) = false) : sureC s xs = 13 := by simp only [sureC, h, h2, if_true, Bool.false_eq_true, if_false]
theorem sure_y {s : LSig} {xs : List Str} (h : validB s = true) (h2 : xs.all (existsA s) = true) : sureC s xs = 0 := by simp only [sureC, h, h2, if_true]
theorem ask_eq {s : LSig} {xs : List Str} {b : Bool} : askR s xs b = .tup [.b (decide (sureC s xs = 0) && b), .i .i64 (sureC s xs)] := by
  unfold askR sureC
  split
  · split <;> simp
  · simp
set_option maxHeartbeats 4000000 in
theorem ctr72 (s : LSig) (xs : List Str) (hm : Small s) (hs : OkS s) (hx : xs.length ≤ 1000): Ctr Tryz.prog G0 72 [.agg (sigCells s), avs xs] (.i .i64 (sureC s xs)) := by
  refine sem_intro (rx := false) mixed Tryz.func72 rfl (by kernel_rfl) (by kernel_rfl) (ac := ?_) ?_ g0 ?_
  rotate_left
  · simp only [strip, stripOps, stripOp, hoist, List.filter_cons, List.filter_nil, List.nil_append, List.cons_append, isFree, anyPre, Region.binds, Bool.not_true, Bool.not_false, Bool.false_eq_true, if_true, if_false, Option.isNone_none, Option.isNone_some, Bool.true_and, Bool.false_and, List.map_nil, List.map_cons, List.isEmpty_nil, List.isEmpty_cons, List.append_nil]
    rfl
  · simp -implicitDefEqProofs (disch := omega) only [Tryz.f72, go_sem, List.replicate, ↓reduceIte, Nat.reduceAdd, Nat.reduceSub, Nat.reduceMul, Nat.reduceLeDiff, Nat.reduceLT, Nat.reduceEqDiff, Int.reduceNeg, Nat.reduceBEq, avs]
    have h1 := hs.sorts
    (repeat' (first | refine g_true ?_ ?_ | refine g_false ?_ ?_ | refine cond_intro ?_ ?_ | (refine c_ctrE (ctr13 s hm hs) ?_ ?_; (focus (simp -implicitDefEqProofs (disch := omega) only [avs, avb, avi, avo, sigCells, opCells, pairCells, go_sem, ↓reduceIte, Nat.reduceAdd, Nat.reduceSub, Nat.reduceMul, Nat.reduceLeDiff, Nat.reduceLT, Nat.reduceEqDiff, Int.reduceNeg, Nat.reduceBEq]; done)); simp -implicitDefEqProofs (disch := omega) only [go_sem, ↓reduceIte, Nat.reduceAdd, Nat.reduceSub, Nat.reduceMul, Nat.reduceLeDiff, Nat.reduceLT, Nat.reduceEqDiff, Int.reduceNeg, Nat.reduceBEq]) | refine And.intro (by omega) ?_ | (intro hr; have hc := hr; (try simp only [decide_eq_true_eq, decide_eq_false_iff_not, Bool.not_eq_true', Bool.not_eq_false'] at hc); simp -implicitDefEqProofs (disch := omega) only [hr, go_sem, ↓reduceIte, Nat.reduceAdd, Nat.reduceSub, Nat.reduceMul, Nat.reduceLeDiff, Nat.reduceLT, Nat.reduceEqDiff, Int.reduceNeg, Nat.reduceBEq]; (try clear hr))))
    · exact fin_eq (by rw [sure_n hc]) rfl
    · refine x_loopJ (fun (k : Nat) => [.k, .k, .k, .k, .j, .k, .j, .k, .k, .k, .k, .k, .v (.i .i64 k), .j, .j, .j, .j, .j, .j, .j, .j]) (fun k => [.box false [.sl (s.sorts.map .s) s.sorts.length, .sl (s.below.flatMap pairCells) s.below.length, .sl (s.ops.flatMap opCells) s.ops.length, .sl (s.funs.flatMap opCells) s.funs.length, .sl (s.values.map .s) s.values.length]]) (fun k => k ≤ xs.length ∧ ∀ j, j < k → existsA s (xs.getD j []) = true) (fun k => xs.length - k) (0) ⟨Nat.zero_le _, fun j h => by omega⟩ rfl (by simp [Fits]) ?_
      rintro k j ⟨hk, ha⟩
      have hv := hc
      clear hc
      simp -implicitDefEqProofs (disch := omega) only [go_sem, ↓reduceIte, Nat.reduceAdd, Nat.reduceSub, Nat.reduceMul, Nat.reduceLeDiff, Nat.reduceLT, Nat.reduceEqDiff, Int.reduceNeg, Nat.reduceBEq]
      (repeat' (first | refine g_true ?_ ?_ | refine g_false ?_ ?_ | refine cond_intro ?_ ?_ | (refine c_ctrE (ctr61 s (xs.getD k []) h1) ?_ ?_; (focus (simp -implicitDefEqProofs (disch := omega) only [avs, avb, avi, avo, sigCells, opCells, pairCells, go_sem, ↓reduceIte, Nat.reduceAdd, Nat.reduceSub, Nat.reduceMul, Nat.reduceLeDiff, Nat.reduceLT, Nat.reduceEqDiff, Int.reduceNeg, Nat.reduceBEq]; done)); simp -implicitDefEqProofs (disch := omega) only [go_sem, ↓reduceIte, Nat.reduceAdd, Nat.reduceSub, Nat.reduceMul, Nat.reduceLeDiff, Nat.reduceLT, Nat.reduceEqDiff, Int.reduceNeg, Nat.reduceBEq]) | refine And.intro (by omega) ?_ | (intro hr; have hc := hr; (try simp only [decide_eq_true_eq, decide_eq_false_iff_not, Bool.not_eq_true', Bool.not_eq_false'] at hc); simp -implicitDefEqProofs (disch := omega) only [hr, go_sem, ↓reduceIte, Nat.reduceAdd, Nat.reduceSub, Nat.reduceMul, Nat.reduceLeDiff, Nat.reduceLT, Nat.reduceEqDiff, Int.reduceNeg, Nat.reduceBEq]; (try clear hr))))
      · rw [exists_eq] at hc
        exact fin_eq (by rw [sure_x hv (not_all_getD (d := []) (j := k) (by omega) hc)]) rfl
      · rw [exists_eq] at hc
        exact ⟨k + 1, ⟨by omega, below_succ ha hc⟩, by omega, by simp⟩
      · exact fin_eq (by rw [sure_y hv (all_getD (d := []) (fun j hj => ha j (by omega)))]) rfl
def underR (s : LSig) (x y : Str) : Bool := decide (y = anyS) || (climb s.below x).contains y
theorem under_eq {s : LSig} {x y : Str} (h : existsA s x = true) : underR s x y = atMost s x y := by simp only [underR, atMost, above, h, if_true]
set_option maxHeartbeats 4000000 in
theorem ctr74 (s : LSig) (x y : Str) (hm : Small s): Ctr Tryz.prog G0 74 [.agg (sigCells s), .s x, .s y] (.b (underR s x y)) := by
  refine sem_intro (rx := false) mixed Tryz.func74 rfl (by kernel_rfl) (by kernel_rfl) (ac := ?_) ?_ g0 ?_
  rotate_left
  · simp only [strip, stripOps, stripOp, hoist, List.filter_cons, List.filter_nil, List.nil_append, List.cons_append, isFree, anyPre, Region.binds, Bool.not_true, Bool.not_false, Bool.false_eq_true, if_true, if_false, Option.isNone_none, Option.isNone_some, Bool.true_and, Bool.false_and, List.map_nil, List.map_cons, List.isEmpty_nil, List.isEmpty_cons, List.append_nil]
    rfl
  · simp -implicitDefEqProofs (disch := omega) only [Tryz.f74, go_sem, List.replicate, ↓reduceIte, Nat.reduceAdd, Nat.reduceSub, Nat.reduceMul, Nat.reduceLeDiff, Nat.reduceLT, Nat.reduceEqDiff, Int.reduceNeg, Nat.reduceBEq]
    have hl := climb_len s.below x
    have h2 := hm.below
    (repeat' (first | refine g_true ?_ ?_ | refine g_false ?_ ?_ | refine cond_intro ?_ ?_ | (refine c_ctrE (ctr114 s x (by omega)) ?_ ?_; (focus (simp -implicitDefEqProofs (disch := omega) only [avs, avb, avi, avo, sigCells, opCells, pairCells, go_sem, ↓reduceIte, Nat.reduceAdd, Nat.reduceSub, Nat.reduceMul, Nat.reduceLeDiff, Nat.reduceLT, Nat.reduceEqDiff, Int.reduceNeg, Nat.reduceBEq]; done)); simp -implicitDefEqProofs (disch := omega) only [go_sem, ↓reduceIte, Nat.reduceAdd, Nat.reduceSub, Nat.reduceMul, Nat.reduceLeDiff, Nat.reduceLT, Nat.reduceEqDiff, Int.reduceNeg, Nat.reduceBEq]) | (refine c_ctrE (ctr27 (climb s.below x) y (by omega)) ?_ ?_; (focus (simp -implicitDefEqProofs (disch := omega) only [avs, avb, avi, avo, sigCells, opCells, pairCells, go_sem, ↓reduceIte, Nat.reduceAdd, Nat.reduceSub, Nat.reduceMul, Nat.reduceLeDiff, Nat.reduceLT, Nat.reduceEqDiff, Int.reduceNeg, Nat.reduceBEq]; done)); simp -implicitDefEqProofs (disch := omega) only [go_sem, ↓reduceIte, Nat.reduceAdd, Nat.reduceSub, Nat.reduceMul, Nat.reduceLeDiff, Nat.reduceLT, Nat.reduceEqDiff, Int.reduceNeg, Nat.reduceBEq]) | refine And.intro (by omega) ?_ | (intro hr; have hc := hr; (try simp only [decide_eq_true_eq, decide_eq_false_iff_not, Bool.not_eq_true', Bool.not_eq_false'] at hc); simp -implicitDefEqProofs (disch := omega) only [hr, go_sem, ↓reduceIte, Nat.reduceAdd, Nat.reduceSub, Nat.reduceMul, Nat.reduceLeDiff, Nat.reduceLT, Nat.reduceEqDiff, Int.reduceNeg, Nat.reduceBEq]; (try clear hr))))
    all_goals (refine fin_eq ?_ (by rfl))
    all_goals simp_all [underR, anyS]
set_option maxHeartbeats 4000000 in
theorem ctr86 (s : LSig) (x y : Str) (hm : Small s): Ctr Tryz.prog G0 86 [.agg (sigCells s), .s x, .s y] (.b (underR s x y || underR s y x)) := by
  refine sem_intro (rx := false) mixed Tryz.func86 rfl (by kernel_rfl) (by kernel_rfl) (ac := ?_) ?_ g0 ?_
  rotate_left
  · simp only [strip, stripOps, stripOp, hoist, List.filter_cons, List.filter_nil, List.nil_append, List.cons_append, isFree, anyPre, Region.binds, Bool.not_true, Bool.not_false, Bool.false_eq_true, if_true, if_false, Option.isNone_none, Option.isNone_some, Bool.true_and, Bool.false_and, List.map_nil, List.map_cons, List.isEmpty_nil, List.isEmpty_cons, List.append_nil]
    rfl
  · simp -implicitDefEqProofs (disch := omega) only [Tryz.f86, go_sem, List.replicate, ↓reduceIte, Nat.reduceAdd, Nat.reduceSub, Nat.reduceMul, Nat.reduceLeDiff, Nat.reduceLT, Nat.reduceEqDiff, Int.reduceNeg, Nat.reduceBEq]
    (repeat' (first | refine g_true ?_ ?_ | refine g_false ?_ ?_ | refine cond_intro ?_ ?_ | (refine c_ctrE (ctr74 s x y hm) ?_ ?_; (focus (simp -implicitDefEqProofs (disch := omega) only [avs, avb, avi, avo, sigCells, opCells, pairCells, go_sem, ↓reduceIte, Nat.reduceAdd, Nat.reduceSub, Nat.reduceMul, Nat.reduceLeDiff, Nat.reduceLT, Nat.reduceEqDiff, Int.reduceNeg, Nat.reduceBEq]; done)); simp -implicitDefEqProofs (disch := omega) only [go_sem, ↓reduceIte, Nat.reduceAdd, Nat.reduceSub, Nat.reduceMul, Nat.reduceLeDiff, Nat.reduceLT, Nat.reduceEqDiff, Int.reduceNeg, Nat.reduceBEq]) | (refine c_ctrE (ctr74 s y x hm) ?_ ?_; (focus (simp -implicitDefEqProofs (disch := omega) only [avs, avb, avi, avo, sigCells, opCells, pairCells, go_sem, ↓reduceIte, Nat.reduceAdd, Nat.reduceSub, Nat.reduceMul, Nat.reduceLeDiff, Nat.reduceLT, Nat.reduceEqDiff, Int.reduceNeg, Nat.reduceBEq]; done)); simp -implicitDefEqProofs (disch := omega) only [go_sem, ↓reduceIte, Nat.reduceAdd, Nat.reduceSub, Nat.reduceMul, Nat.reduceLeDiff, Nat.reduceLT, Nat.reduceEqDiff, Int.reduceNeg, Nat.reduceBEq]) | refine And.intro (by omega) ?_ | (intro hr; have hc := hr; (try simp only [decide_eq_true_eq, decide_eq_false_iff_not, Bool.not_eq_true', Bool.not_eq_false'] at hc); simp -implicitDefEqProofs (disch := omega) only [hr, go_sem, ↓reduceIte, Nat.reduceAdd, Nat.reduceSub, Nat.reduceMul, Nat.reduceLeDiff, Nat.reduceLT, Nat.reduceEqDiff, Int.reduceNeg, Nat.reduceBEq]; (try clear hr))))
    all_goals (refine fin_eq ?_ (by rfl))
    all_goals simp_all
set_option maxHeartbeats 4000000 in
theorem ctr87 (s : LSig) (x : Str) (hm : Small s): Ctr Tryz.prog G0 87 [.agg (sigCells s), .s x] (.b (s.values.any fun v => underR s x v)) := by
  refine sem_intro (rx := false) mixed Tryz.func87 rfl (by kernel_rfl) (by kernel_rfl) (ac := ?_) ?_ g0 ?_
  rotate_left
  · simp only [strip, stripOps, stripOp, hoist, List.filter_cons, List.filter_nil, List.nil_append, List.cons_append, isFree, anyPre, Region.binds, Bool.not_true, Bool.not_false, Bool.false_eq_true, if_true, if_false, Option.isNone_none, Option.isNone_some, Bool.true_and, Bool.false_and, List.map_nil, List.map_cons, List.isEmpty_nil, List.isEmpty_cons, List.append_nil]
    rfl
  · simp -implicitDefEqProofs (disch := omega) only [Tryz.f87, go_sem, List.replicate, ↓reduceIte, Nat.reduceAdd, Nat.reduceSub, Nat.reduceMul, Nat.reduceLeDiff, Nat.reduceLT, Nat.reduceEqDiff, Int.reduceNeg, Nat.reduceBEq]
    have h1 := hm.values
    refine x_loopJ (fun (k : Nat) => [.k, .k, .k, .k, .j, .k, .j, .k, .k, .k, .v (.i .i64 k), .j, .j, .j, .j, .j, .j, .j, .j]) (fun k => [.box false [.sl (s.sorts.map .s) s.sorts.length, .sl (s.below.flatMap pairCells) s.below.length, .sl (s.ops.flatMap opCells) s.ops.length, .sl (s.funs.flatMap opCells) s.funs.length, .sl (s.values.map .s) s.values.length]]) (fun k => k ≤ s.values.length ∧ ∀ j, j < k → (!underR s x (s.values.getD j [])) = true) (fun k => s.values.length - k) (0) ⟨Nat.zero_le _, fun j h => by omega⟩ rfl (by simp [Fits]) ?_
    rintro k j ⟨hk, ha⟩
    simp -implicitDefEqProofs (disch := omega) only [go_sem, ↓reduceIte, Nat.reduceAdd, Nat.reduceSub, Nat.reduceMul, Nat.reduceLeDiff, Nat.reduceLT, Nat.reduceEqDiff, Int.reduceNeg, Nat.reduceBEq]
    (repeat' (first | refine g_true ?_ ?_ | refine g_false ?_ ?_ | refine cond_intro ?_ ?_ | (refine c_ctrE (ctr74 s x (s.values.getD k []) hm) ?_ ?_; (focus (simp -implicitDefEqProofs (disch := omega) only [avs, avb, avi, avo, sigCells, opCells, pairCells, go_sem, ↓reduceIte, Nat.reduceAdd, Nat.reduceSub, Nat.reduceMul, Nat.reduceLeDiff, Nat.reduceLT, Nat.reduceEqDiff, Int.reduceNeg, Nat.reduceBEq]; done)); simp -implicitDefEqProofs (disch := omega) only [go_sem, ↓reduceIte, Nat.reduceAdd, Nat.reduceSub, Nat.reduceMul, Nat.reduceLeDiff, Nat.reduceLT, Nat.reduceEqDiff, Int.reduceNeg, Nat.reduceBEq]) | refine And.intro (by omega) ?_ | (intro hr; have hc := hr; (try simp only [decide_eq_true_eq, decide_eq_false_iff_not, Bool.not_eq_true', Bool.not_eq_false'] at hc); simp -implicitDefEqProofs (disch := omega) only [hr, go_sem, ↓reduceIte, Nat.reduceAdd, Nat.reduceSub, Nat.reduceMul, Nat.reduceLeDiff, Nat.reduceLT, Nat.reduceEqDiff, Int.reduceNeg, Nat.reduceBEq]; (try clear hr))))
    · refine fin_eq ?_ (by rfl)
      have : (s.values.any fun v => underR s x v) = true := List.any_eq_true.2 ⟨_, mem_getD (d := []) (k := k) (by omega), hc⟩
      rw [this]
    · exact ⟨k + 1, ⟨by omega, below_succ ha (by rw [hc]; rfl)⟩, by omega, by simp⟩
    · refine fin_eq ?_ (by rfl)
      have hall := all_getD (p := fun v => !underR s x v) (l := s.values) (d := []) (fun j hj => ha j (by omega))
      have : (s.values.any fun v => underR s x v) = false := by
        rw [← Bool.not_eq_true, List.any_eq_true]
        rintro ⟨v, hv, h⟩
        have := List.all_eq_true.1 hall v hv
        rw [h] at this; cases this
      rw [this]
theorem valueU {s : LSig} {x : Str} (h : existsA s x = true) : (s.values.any fun v => underR s x v) = isValue s x := by
  unfold isValue; congr 1; funext v; exact under_eq h
theorem sure_ok {s : LSig} {xs : List Str} (h : sureC s xs = 0) : validB s = true ∧ xs.all (existsA s) = true := by
  unfold sureC at h
  split at h
  · rename_i hv
    split at h
    · rename_i hx; exact ⟨hv, hx⟩
    · cases h
  · cases h
theorem ask_no {s : LSig} {xs : List Str} {b : Bool} (h : ¬ sureC s xs = 0) : askR s xs b = .tup [.b false, .i .i64 (sureC s xs)] := by rw [ask_eq, decide_eq_false h]; rfl
theorem ask_is {s : LSig} {xs : List Str} {b c : Bool} (h : sureC s xs = 0) (hb : validB s = true → xs.all (existsA s) = true → b = c) : askR s xs c = .tup [.b b, .i .i64 0] := by
  obtain ⟨h1, h2⟩ := sure_ok h
  rw [ask_eq, h, hb h1 h2]; rfl
theorem all1 {s : LSig} {x : Str} (h : [x].all (existsA s) = true) : existsA s x = true := by simpa using h
theorem all2 {s : LSig} {x y : Str} (h : [x, y].all (existsA s) = true) : existsA s x = true ∧ existsA s y = true := by simpa using h
set_option maxHeartbeats 4000000 in
theorem ctr31 (s : LSig) (x y : Str) (hm : Small s) (hs : OkS s): Ctr Tryz.prog G0 31 [.agg (sigCells s), .s x, .s y] (askR s [x, y] (atMost s x y)) := by
  refine sem_intro (rx := false) mixed Tryz.func31 rfl (by kernel_rfl) (by kernel_rfl) (ac := ?_) ?_ g0 ?_
  rotate_left
  · simp only [strip, stripOps, stripOp, hoist, List.filter_cons, List.filter_nil, List.nil_append, List.cons_append, isFree, anyPre, Region.binds, Bool.not_true, Bool.not_false, Bool.false_eq_true, if_true, if_false, Option.isNone_none, Option.isNone_some, Bool.true_and, Bool.false_and, List.map_nil, List.map_cons, List.isEmpty_nil, List.isEmpty_cons, List.append_nil]
    rfl
  · simp -implicitDefEqProofs (disch := omega) only [Tryz.f31, go_sem, List.replicate, ↓reduceIte, Nat.reduceAdd, Nat.reduceSub, Nat.reduceMul, Nat.reduceLeDiff, Nat.reduceLT, Nat.reduceEqDiff, Int.reduceNeg, Nat.reduceBEq]
    have h1 := hs.sorts
    by_cases h0 : sureC s [x, y] = 0
    · rw [ask_is h0 (b := underR s x y) (fun _ h => under_eq (all2 h).1)]
      (repeat' (first | refine g_true ?_ ?_ | refine g_false ?_ ?_ | refine cond_intro ?_ ?_ | (refine c_ctrE (ctr72 s [x, y] hm hs (by simp)) ?_ ?_; (focus (simp -implicitDefEqProofs (disch := omega) only [h0, avs, avb, avi, avo, sigCells, opCells, pairCells, go_sem, ↓reduceIte, Nat.reduceAdd, Nat.reduceSub, Nat.reduceMul, Nat.reduceLeDiff, Nat.reduceLT, Nat.reduceEqDiff, Int.reduceNeg, Nat.reduceBEq]; done)); simp -implicitDefEqProofs (disch := omega) only [h0, go_sem, ↓reduceIte, Nat.reduceAdd, Nat.reduceSub, Nat.reduceMul, Nat.reduceLeDiff, Nat.reduceLT, Nat.reduceEqDiff, Int.reduceNeg, Nat.reduceBEq]) | (refine c_ctrE (ctr74 s x y hm) ?_ ?_; (focus (simp -implicitDefEqProofs (disch := omega) only [h0, avs, avb, avi, avo, sigCells, opCells, pairCells, go_sem, ↓reduceIte, Nat.reduceAdd, Nat.reduceSub, Nat.reduceMul, Nat.reduceLeDiff, Nat.reduceLT, Nat.reduceEqDiff, Int.reduceNeg, Nat.reduceBEq]; done)); simp -implicitDefEqProofs (disch := omega) only [h0, go_sem, ↓reduceIte, Nat.reduceAdd, Nat.reduceSub, Nat.reduceMul, Nat.reduceLeDiff, Nat.reduceLT, Nat.reduceEqDiff, Int.reduceNeg, Nat.reduceBEq]) | refine And.intro (by omega) ?_ | (intro hr; have hc := hr; (try simp only [decide_eq_true_eq, decide_eq_false_iff_not, Bool.not_eq_true', Bool.not_eq_false'] at hc); simp -implicitDefEqProofs (disch := omega) only [hr, h0, go_sem, ↓reduceIte, Nat.reduceAdd, Nat.reduceSub, Nat.reduceMul, Nat.reduceLeDiff, Nat.reduceLT, Nat.reduceEqDiff, Int.reduceNeg, Nat.reduceBEq]; (try clear hr))))
      exact fin_eq rfl rfl
    · rw [ask_no h0]
      (repeat' (first | refine g_true ?_ ?_ | refine g_false ?_ ?_ | refine cond_intro ?_ ?_ | (refine c_ctrE (ctr72 s [x, y] hm hs (by simp)) ?_ ?_; (focus (simp -implicitDefEqProofs (disch := omega) only [h0, avs, avb, avi, avo, sigCells, opCells, pairCells, go_sem, ↓reduceIte, Nat.reduceAdd, Nat.reduceSub, Nat.reduceMul, Nat.reduceLeDiff, Nat.reduceLT, Nat.reduceEqDiff, Int.reduceNeg, Nat.reduceBEq]; done)); simp -implicitDefEqProofs (disch := omega) only [h0, go_sem, ↓reduceIte, Nat.reduceAdd, Nat.reduceSub, Nat.reduceMul, Nat.reduceLeDiff, Nat.reduceLT, Nat.reduceEqDiff, Int.reduceNeg, Nat.reduceBEq]) | refine And.intro (by omega) ?_ | (intro hr; have hc := hr; (try simp only [decide_eq_true_eq, decide_eq_false_iff_not, Bool.not_eq_true', Bool.not_eq_false'] at hc); simp -implicitDefEqProofs (disch := omega) only [hr, h0, go_sem, ↓reduceIte, Nat.reduceAdd, Nat.reduceSub, Nat.reduceMul, Nat.reduceLeDiff, Nat.reduceLT, Nat.reduceEqDiff, Int.reduceNeg, Nat.reduceBEq]; (try clear hr))))
      exact fin_eq rfl rfl
set_option maxHeartbeats 4000000 in
theorem ctr33 (s : LSig) (x y : Str) (hm : Small s) (hs : OkS s): Ctr Tryz.prog G0 33 [.agg (sigCells s), .s x, .s y] (askR s [x, y] (meets s x y)) := by
  refine sem_intro (rx := false) mixed Tryz.func33 rfl (by kernel_rfl) (by kernel_rfl) (ac := ?_) ?_ g0 ?_
  rotate_left
  · simp only [strip, stripOps, stripOp, hoist, List.filter_cons, List.filter_nil, List.nil_append, List.cons_append, isFree, anyPre, Region.binds, Bool.not_true, Bool.not_false, Bool.false_eq_true, if_true, if_false, Option.isNone_none, Option.isNone_some, Bool.true_and, Bool.false_and, List.map_nil, List.map_cons, List.isEmpty_nil, List.isEmpty_cons, List.append_nil]
    rfl
  · simp -implicitDefEqProofs (disch := omega) only [Tryz.f33, go_sem, List.replicate, ↓reduceIte, Nat.reduceAdd, Nat.reduceSub, Nat.reduceMul, Nat.reduceLeDiff, Nat.reduceLT, Nat.reduceEqDiff, Int.reduceNeg, Nat.reduceBEq]
    have h1 := hs.sorts
    by_cases h0 : sureC s [x, y] = 0
    · rw [ask_is h0 (b := underR s x y || underR s y x) (fun _ h => by rw [under_eq (all2 h).1, under_eq (all2 h).2]; rfl)]
      (repeat' (first | refine g_true ?_ ?_ | refine g_false ?_ ?_ | refine cond_intro ?_ ?_ | (refine c_ctrE (ctr72 s [x, y] hm hs (by simp)) ?_ ?_; (focus (simp -implicitDefEqProofs (disch := omega) only [h0, avs, avb, avi, avo, sigCells, opCells, pairCells, go_sem, ↓reduceIte, Nat.reduceAdd, Nat.reduceSub, Nat.reduceMul, Nat.reduceLeDiff, Nat.reduceLT, Nat.reduceEqDiff, Int.reduceNeg, Nat.reduceBEq]; done)); simp -implicitDefEqProofs (disch := omega) only [h0, go_sem, ↓reduceIte, Nat.reduceAdd, Nat.reduceSub, Nat.reduceMul, Nat.reduceLeDiff, Nat.reduceLT, Nat.reduceEqDiff, Int.reduceNeg, Nat.reduceBEq]) | (refine c_ctrE (ctr86 s x y hm) ?_ ?_; (focus (simp -implicitDefEqProofs (disch := omega) only [h0, avs, avb, avi, avo, sigCells, opCells, pairCells, go_sem, ↓reduceIte, Nat.reduceAdd, Nat.reduceSub, Nat.reduceMul, Nat.reduceLeDiff, Nat.reduceLT, Nat.reduceEqDiff, Int.reduceNeg, Nat.reduceBEq]; done)); simp -implicitDefEqProofs (disch := omega) only [h0, go_sem, ↓reduceIte, Nat.reduceAdd, Nat.reduceSub, Nat.reduceMul, Nat.reduceLeDiff, Nat.reduceLT, Nat.reduceEqDiff, Int.reduceNeg, Nat.reduceBEq]) | refine And.intro (by omega) ?_ | (intro hr; have hc := hr; (try simp only [decide_eq_true_eq, decide_eq_false_iff_not, Bool.not_eq_true', Bool.not_eq_false'] at hc); simp -implicitDefEqProofs (disch := omega) only [hr, h0, go_sem, ↓reduceIte, Nat.reduceAdd, Nat.reduceSub, Nat.reduceMul, Nat.reduceLeDiff, Nat.reduceLT, Nat.reduceEqDiff, Int.reduceNeg, Nat.reduceBEq]; (try clear hr))))
      exact fin_eq rfl rfl
    · rw [ask_no h0]
      (repeat' (first | refine g_true ?_ ?_ | refine g_false ?_ ?_ | refine cond_intro ?_ ?_ | (refine c_ctrE (ctr72 s [x, y] hm hs (by simp)) ?_ ?_; (focus (simp -implicitDefEqProofs (disch := omega) only [h0, avs, avb, avi, avo, sigCells, opCells, pairCells, go_sem, ↓reduceIte, Nat.reduceAdd, Nat.reduceSub, Nat.reduceMul, Nat.reduceLeDiff, Nat.reduceLT, Nat.reduceEqDiff, Int.reduceNeg, Nat.reduceBEq]; done)); simp -implicitDefEqProofs (disch := omega) only [h0, go_sem, ↓reduceIte, Nat.reduceAdd, Nat.reduceSub, Nat.reduceMul, Nat.reduceLeDiff, Nat.reduceLT, Nat.reduceEqDiff, Int.reduceNeg, Nat.reduceBEq]) | refine And.intro (by omega) ?_ | (intro hr; have hc := hr; (try simp only [decide_eq_true_eq, decide_eq_false_iff_not, Bool.not_eq_true', Bool.not_eq_false'] at hc); simp -implicitDefEqProofs (disch := omega) only [hr, h0, go_sem, ↓reduceIte, Nat.reduceAdd, Nat.reduceSub, Nat.reduceMul, Nat.reduceLeDiff, Nat.reduceLT, Nat.reduceEqDiff, Int.reduceNeg, Nat.reduceBEq]; (try clear hr))))
      exact fin_eq rfl rfl
set_option maxHeartbeats 4000000 in
theorem ctr35 (s : LSig) (x : Str) (hm : Small s) (hs : OkS s): Ctr Tryz.prog G0 35 [.agg (sigCells s), .s x] (askR s [] (existsA s x)) := by
  refine sem_intro (rx := false) mixed Tryz.func35 rfl (by kernel_rfl) (by kernel_rfl) (ac := ?_) ?_ g0 ?_
  rotate_left
  · simp only [strip, stripOps, stripOp, hoist, List.filter_cons, List.filter_nil, List.nil_append, List.cons_append, isFree, anyPre, Region.binds, Bool.not_true, Bool.not_false, Bool.false_eq_true, if_true, if_false, Option.isNone_none, Option.isNone_some, Bool.true_and, Bool.false_and, List.map_nil, List.map_cons, List.isEmpty_nil, List.isEmpty_cons, List.append_nil]
    rfl
  · simp -implicitDefEqProofs (disch := omega) only [Tryz.f35, go_sem, List.replicate, ↓reduceIte, Nat.reduceAdd, Nat.reduceSub, Nat.reduceMul, Nat.reduceLeDiff, Nat.reduceLT, Nat.reduceEqDiff, Int.reduceNeg, Nat.reduceBEq]
    have h1 := hs.sorts
    by_cases h0 : sureC s [] = 0
    · rw [ask_is h0 (b := existsB s x) (fun _ h => exists_eq s x)]
      (repeat' (first | refine g_true ?_ ?_ | refine g_false ?_ ?_ | refine cond_intro ?_ ?_ | (refine c_ctrE (ctr72 s [] hm hs (by simp)) ?_ ?_; (focus (simp -implicitDefEqProofs (disch := omega) only [h0, avs, avb, avi, avo, sigCells, opCells, pairCells, go_sem, ↓reduceIte, Nat.reduceAdd, Nat.reduceSub, Nat.reduceMul, Nat.reduceLeDiff, Nat.reduceLT, Nat.reduceEqDiff, Int.reduceNeg, Nat.reduceBEq]; done)); simp -implicitDefEqProofs (disch := omega) only [h0, go_sem, ↓reduceIte, Nat.reduceAdd, Nat.reduceSub, Nat.reduceMul, Nat.reduceLeDiff, Nat.reduceLT, Nat.reduceEqDiff, Int.reduceNeg, Nat.reduceBEq]) | (refine c_ctrE (ctr61 s x h1) ?_ ?_; (focus (simp -implicitDefEqProofs (disch := omega) only [h0, avs, avb, avi, avo, sigCells, opCells, pairCells, go_sem, ↓reduceIte, Nat.reduceAdd, Nat.reduceSub, Nat.reduceMul, Nat.reduceLeDiff, Nat.reduceLT, Nat.reduceEqDiff, Int.reduceNeg, Nat.reduceBEq]; done)); simp -implicitDefEqProofs (disch := omega) only [h0, go_sem, ↓reduceIte, Nat.reduceAdd, Nat.reduceSub, Nat.reduceMul, Nat.reduceLeDiff, Nat.reduceLT, Nat.reduceEqDiff, Int.reduceNeg, Nat.reduceBEq]) | refine And.intro (by omega) ?_ | (intro hr; have hc := hr; (try simp only [decide_eq_true_eq, decide_eq_false_iff_not, Bool.not_eq_true', Bool.not_eq_false'] at hc); simp -implicitDefEqProofs (disch := omega) only [hr, h0, go_sem, ↓reduceIte, Nat.reduceAdd, Nat.reduceSub, Nat.reduceMul, Nat.reduceLeDiff, Nat.reduceLT, Nat.reduceEqDiff, Int.reduceNeg, Nat.reduceBEq]; (try clear hr))))
      exact fin_eq rfl rfl
    · rw [ask_no h0]
      (repeat' (first | refine g_true ?_ ?_ | refine g_false ?_ ?_ | refine cond_intro ?_ ?_ | (refine c_ctrE (ctr72 s [] hm hs (by simp)) ?_ ?_; (focus (simp -implicitDefEqProofs (disch := omega) only [h0, avs, avb, avi, avo, sigCells, opCells, pairCells, go_sem, ↓reduceIte, Nat.reduceAdd, Nat.reduceSub, Nat.reduceMul, Nat.reduceLeDiff, Nat.reduceLT, Nat.reduceEqDiff, Int.reduceNeg, Nat.reduceBEq]; done)); simp -implicitDefEqProofs (disch := omega) only [h0, go_sem, ↓reduceIte, Nat.reduceAdd, Nat.reduceSub, Nat.reduceMul, Nat.reduceLeDiff, Nat.reduceLT, Nat.reduceEqDiff, Int.reduceNeg, Nat.reduceBEq]) | refine And.intro (by omega) ?_ | (intro hr; have hc := hr; (try simp only [decide_eq_true_eq, decide_eq_false_iff_not, Bool.not_eq_true', Bool.not_eq_false'] at hc); simp -implicitDefEqProofs (disch := omega) only [hr, h0, go_sem, ↓reduceIte, Nat.reduceAdd, Nat.reduceSub, Nat.reduceMul, Nat.reduceLeDiff, Nat.reduceLT, Nat.reduceEqDiff, Int.reduceNeg, Nat.reduceBEq]; (try clear hr))))
      exact fin_eq rfl rfl
set_option maxHeartbeats 4000000 in
theorem ctr36 (s : LSig) (x : Str) (hm : Small s) (hs : OkS s): Ctr Tryz.prog G0 36 [.agg (sigCells s), .s x] (askR s [x] (isValue s x)) := by
  refine sem_intro (rx := false) mixed Tryz.func36 rfl (by kernel_rfl) (by kernel_rfl) (ac := ?_) ?_ g0 ?_
  rotate_left
  · simp only [strip, stripOps, stripOp, hoist, List.filter_cons, List.filter_nil, List.nil_append, List.cons_append, isFree, anyPre, Region.binds, Bool.not_true, Bool.not_false, Bool.false_eq_true, if_true, if_false, Option.isNone_none, Option.isNone_some, Bool.true_and, Bool.false_and, List.map_nil, List.map_cons, List.isEmpty_nil, List.isEmpty_cons, List.append_nil]
    rfl
  · simp -implicitDefEqProofs (disch := omega) only [Tryz.f36, go_sem, List.replicate, ↓reduceIte, Nat.reduceAdd, Nat.reduceSub, Nat.reduceMul, Nat.reduceLeDiff, Nat.reduceLT, Nat.reduceEqDiff, Int.reduceNeg, Nat.reduceBEq]
    have h1 := hs.sorts
    by_cases h0 : sureC s [x] = 0
    · rw [ask_is h0 (b := s.values.any fun v => underR s x v) (fun _ h => valueU (all1 h))]
      (repeat' (first | refine g_true ?_ ?_ | refine g_false ?_ ?_ | refine cond_intro ?_ ?_ | (refine c_ctrE (ctr72 s [x] hm hs (by simp)) ?_ ?_; (focus (simp -implicitDefEqProofs (disch := omega) only [h0, avs, avb, avi, avo, sigCells, opCells, pairCells, go_sem, ↓reduceIte, Nat.reduceAdd, Nat.reduceSub, Nat.reduceMul, Nat.reduceLeDiff, Nat.reduceLT, Nat.reduceEqDiff, Int.reduceNeg, Nat.reduceBEq]; done)); simp -implicitDefEqProofs (disch := omega) only [h0, go_sem, ↓reduceIte, Nat.reduceAdd, Nat.reduceSub, Nat.reduceMul, Nat.reduceLeDiff, Nat.reduceLT, Nat.reduceEqDiff, Int.reduceNeg, Nat.reduceBEq]) | (refine c_ctrE (ctr87 s x hm) ?_ ?_; (focus (simp -implicitDefEqProofs (disch := omega) only [h0, avs, avb, avi, avo, sigCells, opCells, pairCells, go_sem, ↓reduceIte, Nat.reduceAdd, Nat.reduceSub, Nat.reduceMul, Nat.reduceLeDiff, Nat.reduceLT, Nat.reduceEqDiff, Int.reduceNeg, Nat.reduceBEq]; done)); simp -implicitDefEqProofs (disch := omega) only [h0, go_sem, ↓reduceIte, Nat.reduceAdd, Nat.reduceSub, Nat.reduceMul, Nat.reduceLeDiff, Nat.reduceLT, Nat.reduceEqDiff, Int.reduceNeg, Nat.reduceBEq]) | refine And.intro (by omega) ?_ | (intro hr; have hc := hr; (try simp only [decide_eq_true_eq, decide_eq_false_iff_not, Bool.not_eq_true', Bool.not_eq_false'] at hc); simp -implicitDefEqProofs (disch := omega) only [hr, h0, go_sem, ↓reduceIte, Nat.reduceAdd, Nat.reduceSub, Nat.reduceMul, Nat.reduceLeDiff, Nat.reduceLT, Nat.reduceEqDiff, Int.reduceNeg, Nat.reduceBEq]; (try clear hr))))
      exact fin_eq rfl rfl
    · rw [ask_no h0]
      (repeat' (first | refine g_true ?_ ?_ | refine g_false ?_ ?_ | refine cond_intro ?_ ?_ | (refine c_ctrE (ctr72 s [x] hm hs (by simp)) ?_ ?_; (focus (simp -implicitDefEqProofs (disch := omega) only [h0, avs, avb, avi, avo, sigCells, opCells, pairCells, go_sem, ↓reduceIte, Nat.reduceAdd, Nat.reduceSub, Nat.reduceMul, Nat.reduceLeDiff, Nat.reduceLT, Nat.reduceEqDiff, Int.reduceNeg, Nat.reduceBEq]; done)); simp -implicitDefEqProofs (disch := omega) only [h0, go_sem, ↓reduceIte, Nat.reduceAdd, Nat.reduceSub, Nat.reduceMul, Nat.reduceLeDiff, Nat.reduceLT, Nat.reduceEqDiff, Int.reduceNeg, Nat.reduceBEq]) | refine And.intro (by omega) ?_ | (intro hr; have hc := hr; (try simp only [decide_eq_true_eq, decide_eq_false_iff_not, Bool.not_eq_true', Bool.not_eq_false'] at hc); simp -implicitDefEqProofs (disch := omega) only [hr, h0, go_sem, ↓reduceIte, Nat.reduceAdd, Nat.reduceSub, Nat.reduceMul, Nat.reduceLeDiff, Nat.reduceLT, Nat.reduceEqDiff, Int.reduceNeg, Nat.reduceBEq]; (try clear hr))))
      exact fin_eq rfl rfl
theorem c30 (s : LSig) (x y : Str) (hm : Small s) (hs : OkS s) : Ctr Tryz.prog G0 30 [.agg (sigCells s), .s x, .s y] (.tup [.b (decide (sureC s [x, y] = 0) && atMost s x y), .i .i64 (sureC s [x, y])]) := ask_eq ▸ ctr30 s x y hm hs
theorem c31 (s : LSig) (x y : Str) (hm : Small s) (hs : OkS s) : Ctr Tryz.prog G0 31 [.agg (sigCells s), .s x, .s y] (.tup [.b (decide (sureC s [x, y] = 0) && atMost s x y), .i .i64 (sureC s [x, y])]) := ask_eq ▸ ctr31 s x y hm hs
theorem c32 (s : LSig) (x y : Str) (hm : Small s) (hs : OkS s) : Ctr Tryz.prog G0 32 [.agg (sigCells s), .s x, .s y] (.tup [.b (decide (sureC s [x, y] = 0) && meets s x y), .i .i64 (sureC s [x, y])]) := ask_eq ▸ ctr32 s x y hm hs
theorem c33 (s : LSig) (x y : Str) (hm : Small s) (hs : OkS s) : Ctr Tryz.prog G0 33 [.agg (sigCells s), .s x, .s y] (.tup [.b (decide (sureC s [x, y] = 0) && meets s x y), .i .i64 (sureC s [x, y])]) := ask_eq ▸ ctr33 s x y hm hs
theorem c34 (s : LSig) (x : Str) (hm : Small s) (hs : OkS s) : Ctr Tryz.prog G0 34 [.agg (sigCells s), .s x] (.tup [.b (decide (sureC s [] = 0) && existsA s x), .i .i64 (sureC s [])]) := ask_eq ▸ ctr34 s x hm hs
theorem c35 (s : LSig) (x : Str) (hm : Small s) (hs : OkS s) : Ctr Tryz.prog G0 35 [.agg (sigCells s), .s x] (.tup [.b (decide (sureC s [] = 0) && existsA s x), .i .i64 (sureC s [])]) := ask_eq ▸ ctr35 s x hm hs
theorem c25 (s : LSig) (x : Str) (hm : Small s) (hs : OkS s) : Ctr Tryz.prog G0 25 [.agg (sigCells s), .s x] (.tup [.b (decide (sureC s [x] = 0) && isValue s x), .i .i64 (sureC s [x])]) := ask_eq ▸ ctr25 s x hm hs
theorem c36 (s : LSig) (x : Str) (hm : Small s) (hs : OkS s) : Ctr Tryz.prog G0 36 [.agg (sigCells s), .s x] (.tup [.b (decide (sureC s [x] = 0) && isValue s x), .i .i64 (sureC s [x])]) := ask_eq ▸ ctr36 s x hm hs
set_option maxHeartbeats 4000000 in
theorem ctr8 (s : LSig) (x y : Str) (hs : OkS s): Ctr Tryz.prog G0 8 [.agg (sigCells s), .s x, .s y] (.b true) := by
  refine sem_intro (rx := false) mixed Tryz.func8 rfl (by kernel_rfl) (by kernel_rfl) (ac := ?_) ?_ g0 ?_
  rotate_left
  · simp only [strip, stripOps, stripOp, hoist, List.filter_cons, List.filter_nil, List.nil_append, List.cons_append, isFree, anyPre, Region.binds, Bool.not_true, Bool.not_false, Bool.false_eq_true, if_true, if_false, Option.isNone_none, Option.isNone_some, Bool.true_and, Bool.false_and, List.map_nil, List.map_cons, List.isEmpty_nil, List.isEmpty_cons, List.append_nil]
    rfl
  · simp -implicitDefEqProofs (disch := omega) only [Tryz.f8, go_sem, List.replicate, ↓reduceIte, Nat.reduceAdd, Nat.reduceSub, Nat.reduceMul, Nat.reduceLeDiff, Nat.reduceLT, Nat.reduceEqDiff, Int.reduceNeg, Nat.reduceBEq]
    by_cases hf : few s = true
    · have hm := few_small hf
      (repeat' (first | refine g_true ?_ ?_ | refine g_false ?_ ?_ | refine cond_intro ?_ ?_ | (refine c_ctrE (ctr10 s hs) ?_ ?_; (focus (simp -implicitDefEqProofs (disch := omega) only [hf, avs, avb, avi, avo, sigCells, opCells, pairCells, go_sem, ↓reduceIte, Nat.reduceAdd, Nat.reduceSub, Nat.reduceMul, Nat.reduceLeDiff, Nat.reduceLT, Nat.reduceEqDiff, Int.reduceNeg, Nat.reduceBEq]; done)); simp -implicitDefEqProofs (disch := omega) only [hf, go_sem, ↓reduceIte, Nat.reduceAdd, Nat.reduceSub, Nat.reduceMul, Nat.reduceLeDiff, Nat.reduceLT, Nat.reduceEqDiff, Int.reduceNeg, Nat.reduceBEq]) | (refine c_ctrE (ctr11) ?_ ?_; (focus (simp -implicitDefEqProofs (disch := omega) only [hf, avs, avb, avi, avo, sigCells, opCells, pairCells, go_sem, ↓reduceIte, Nat.reduceAdd, Nat.reduceSub, Nat.reduceMul, Nat.reduceLeDiff, Nat.reduceLT, Nat.reduceEqDiff, Int.reduceNeg, Nat.reduceBEq]; done)); simp -implicitDefEqProofs (disch := omega) only [hf, go_sem, ↓reduceIte, Nat.reduceAdd, Nat.reduceSub, Nat.reduceMul, Nat.reduceLeDiff, Nat.reduceLT, Nat.reduceEqDiff, Int.reduceNeg, Nat.reduceBEq]) | (refine c_ctrE (c30 s x y hm hs) ?_ ?_; (focus (simp -implicitDefEqProofs (disch := omega) only [hf, avs, avb, avi, avo, sigCells, opCells, pairCells, go_sem, ↓reduceIte, Nat.reduceAdd, Nat.reduceSub, Nat.reduceMul, Nat.reduceLeDiff, Nat.reduceLT, Nat.reduceEqDiff, Int.reduceNeg, Nat.reduceBEq]; done)); simp -implicitDefEqProofs (disch := omega) only [hf, go_sem, ↓reduceIte, Nat.reduceAdd, Nat.reduceSub, Nat.reduceMul, Nat.reduceLeDiff, Nat.reduceLT, Nat.reduceEqDiff, Int.reduceNeg, Nat.reduceBEq]) | (refine c_ctrE (c31 s x y hm hs) ?_ ?_; (focus (simp -implicitDefEqProofs (disch := omega) only [hf, avs, avb, avi, avo, sigCells, opCells, pairCells, go_sem, ↓reduceIte, Nat.reduceAdd, Nat.reduceSub, Nat.reduceMul, Nat.reduceLeDiff, Nat.reduceLT, Nat.reduceEqDiff, Int.reduceNeg, Nat.reduceBEq]; done)); simp -implicitDefEqProofs (disch := omega) only [hf, go_sem, ↓reduceIte, Nat.reduceAdd, Nat.reduceSub, Nat.reduceMul, Nat.reduceLeDiff, Nat.reduceLT, Nat.reduceEqDiff, Int.reduceNeg, Nat.reduceBEq]) | (refine c_ctrE (c32 s x y hm hs) ?_ ?_; (focus (simp -implicitDefEqProofs (disch := omega) only [hf, avs, avb, avi, avo, sigCells, opCells, pairCells, go_sem, ↓reduceIte, Nat.reduceAdd, Nat.reduceSub, Nat.reduceMul, Nat.reduceLeDiff, Nat.reduceLT, Nat.reduceEqDiff, Int.reduceNeg, Nat.reduceBEq]; done)); simp -implicitDefEqProofs (disch := omega) only [hf, go_sem, ↓reduceIte, Nat.reduceAdd, Nat.reduceSub, Nat.reduceMul, Nat.reduceLeDiff, Nat.reduceLT, Nat.reduceEqDiff, Int.reduceNeg, Nat.reduceBEq]) | (refine c_ctrE (c33 s x y hm hs) ?_ ?_; (focus (simp -implicitDefEqProofs (disch := omega) only [hf, avs, avb, avi, avo, sigCells, opCells, pairCells, go_sem, ↓reduceIte, Nat.reduceAdd, Nat.reduceSub, Nat.reduceMul, Nat.reduceLeDiff, Nat.reduceLT, Nat.reduceEqDiff, Int.reduceNeg, Nat.reduceBEq]; done)); simp -implicitDefEqProofs (disch := omega) only [hf, go_sem, ↓reduceIte, Nat.reduceAdd, Nat.reduceSub, Nat.reduceMul, Nat.reduceLeDiff, Nat.reduceLT, Nat.reduceEqDiff, Int.reduceNeg, Nat.reduceBEq]) | (refine c_ctrE (c34 s x hm hs) ?_ ?_; (focus (simp -implicitDefEqProofs (disch := omega) only [hf, avs, avb, avi, avo, sigCells, opCells, pairCells, go_sem, ↓reduceIte, Nat.reduceAdd, Nat.reduceSub, Nat.reduceMul, Nat.reduceLeDiff, Nat.reduceLT, Nat.reduceEqDiff, Int.reduceNeg, Nat.reduceBEq]; done)); simp -implicitDefEqProofs (disch := omega) only [hf, go_sem, ↓reduceIte, Nat.reduceAdd, Nat.reduceSub, Nat.reduceMul, Nat.reduceLeDiff, Nat.reduceLT, Nat.reduceEqDiff, Int.reduceNeg, Nat.reduceBEq]) | (refine c_ctrE (c35 s x hm hs) ?_ ?_; (focus (simp -implicitDefEqProofs (disch := omega) only [hf, avs, avb, avi, avo, sigCells, opCells, pairCells, go_sem, ↓reduceIte, Nat.reduceAdd, Nat.reduceSub, Nat.reduceMul, Nat.reduceLeDiff, Nat.reduceLT, Nat.reduceEqDiff, Int.reduceNeg, Nat.reduceBEq]; done)); simp -implicitDefEqProofs (disch := omega) only [hf, go_sem, ↓reduceIte, Nat.reduceAdd, Nat.reduceSub, Nat.reduceMul, Nat.reduceLeDiff, Nat.reduceLT, Nat.reduceEqDiff, Int.reduceNeg, Nat.reduceBEq]) | (refine c_ctrE (c25 s x hm hs) ?_ ?_; (focus (simp -implicitDefEqProofs (disch := omega) only [hf, avs, avb, avi, avo, sigCells, opCells, pairCells, go_sem, ↓reduceIte, Nat.reduceAdd, Nat.reduceSub, Nat.reduceMul, Nat.reduceLeDiff, Nat.reduceLT, Nat.reduceEqDiff, Int.reduceNeg, Nat.reduceBEq]; done)); simp -implicitDefEqProofs (disch := omega) only [hf, go_sem, ↓reduceIte, Nat.reduceAdd, Nat.reduceSub, Nat.reduceMul, Nat.reduceLeDiff, Nat.reduceLT, Nat.reduceEqDiff, Int.reduceNeg, Nat.reduceBEq]) | (refine c_ctrE (c36 s x hm hs) ?_ ?_; (focus (simp -implicitDefEqProofs (disch := omega) only [hf, avs, avb, avi, avo, sigCells, opCells, pairCells, go_sem, ↓reduceIte, Nat.reduceAdd, Nat.reduceSub, Nat.reduceMul, Nat.reduceLeDiff, Nat.reduceLT, Nat.reduceEqDiff, Int.reduceNeg, Nat.reduceBEq]; done)); simp -implicitDefEqProofs (disch := omega) only [hf, go_sem, ↓reduceIte, Nat.reduceAdd, Nat.reduceSub, Nat.reduceMul, Nat.reduceLeDiff, Nat.reduceLT, Nat.reduceEqDiff, Int.reduceNeg, Nat.reduceBEq]) | refine And.intro (by omega) ?_ | (intro hr; have hc := hr; (try simp only [decide_eq_true_eq, decide_eq_false_iff_not, Bool.not_eq_true', Bool.not_eq_false'] at hc); simp -implicitDefEqProofs (disch := omega) only [hr, hf, go_sem, ↓reduceIte, Nat.reduceAdd, Nat.reduceSub, Nat.reduceMul, Nat.reduceLeDiff, Nat.reduceLT, Nat.reduceEqDiff, Int.reduceNeg, Nat.reduceBEq]; (try clear hr))))
      exact fin_eq rfl rfl
    · have hf := Bool.eq_false_iff.2 hf
      (repeat' (first | refine g_true ?_ ?_ | refine g_false ?_ ?_ | refine cond_intro ?_ ?_ | (refine c_ctrE (ctr10 s hs) ?_ ?_; (focus (simp -implicitDefEqProofs (disch := omega) only [hf, avs, avb, avi, avo, sigCells, opCells, pairCells, go_sem, ↓reduceIte, Nat.reduceAdd, Nat.reduceSub, Nat.reduceMul, Nat.reduceLeDiff, Nat.reduceLT, Nat.reduceEqDiff, Int.reduceNeg, Nat.reduceBEq]; done)); simp -implicitDefEqProofs (disch := omega) only [hf, go_sem, ↓reduceIte, Nat.reduceAdd, Nat.reduceSub, Nat.reduceMul, Nat.reduceLeDiff, Nat.reduceLT, Nat.reduceEqDiff, Int.reduceNeg, Nat.reduceBEq]) | (refine c_ctrE (ctr11) ?_ ?_; (focus (simp -implicitDefEqProofs (disch := omega) only [hf, avs, avb, avi, avo, sigCells, opCells, pairCells, go_sem, ↓reduceIte, Nat.reduceAdd, Nat.reduceSub, Nat.reduceMul, Nat.reduceLeDiff, Nat.reduceLT, Nat.reduceEqDiff, Int.reduceNeg, Nat.reduceBEq]; done)); simp -implicitDefEqProofs (disch := omega) only [hf, go_sem, ↓reduceIte, Nat.reduceAdd, Nat.reduceSub, Nat.reduceMul, Nat.reduceLeDiff, Nat.reduceLT, Nat.reduceEqDiff, Int.reduceNeg, Nat.reduceBEq]) | refine And.intro (by omega) ?_ | (intro hr; have hc := hr; (try simp only [decide_eq_true_eq, decide_eq_false_iff_not, Bool.not_eq_true', Bool.not_eq_false'] at hc); simp -implicitDefEqProofs (disch := omega) only [hr, hf, go_sem, ↓reduceIte, Nat.reduceAdd, Nat.reduceSub, Nat.reduceMul, Nat.reduceLeDiff, Nat.reduceLT, Nat.reduceEqDiff, Int.reduceNeg, Nat.reduceBEq]; (try clear hr))))
      exact fin_eq rfl rfl
end Go.Proofs.YtadileniakikeaaGreatDoor
set_option maxRecDepth 100000
set_option linter.unusedSimpArgs false
set_option linter.unusedVariables false
namespace Go.Proofs.YtadileniakikeaaGreatDoor
open Go Go.Vo

/-! ## the order of the sorts of a valid signature, in plain words -/
/-- from a sort upwards -/
inductive Up (l : List (Str × Str)) : Str → Str → Prop
  | refl (a : Str) : Up l a a
  | step {a b c : Str} : Up l a b → (b, c) ∈ l → Up l a c
theorem Up.trans {l : List (Str × Str)} {a b c : Str} (h : Up l a b) (k : Up l b c) : Up l a c := by
  induction k with
  | refl => exact h
  | step _ hm ih => exact .step ih hm
theorem Up.head {l : List (Str × Str)} {a b : Str} (h : Up l a b) : a = b ∨ ∃ m, (a, m) ∈ l ∧ Up l m b := by
  induction h with
  | refl => exact .inl rfl
  | step hu hm ih =>
    rename_i b c
    rcases ih with rfl | ⟨m, h1, h2⟩
    · exact .inr ⟨c, hm, .refl _⟩
    · exact .inr ⟨m, h1, .step h2 hm⟩
theorem stepsUp_mono {x : Str} : ∀ {l : List (Str × Str)} {L : List Str} {y : Str}, y ∈ L → y ∈ stepsUp l x L
  | [], L, y, h => h
  | b :: l, L, y, h => by
    show y ∈ stepsUp l x (stepUp x L b)
    refine stepsUp_mono ?_
    rcases stepUp_cases x L b with e | ⟨_, _, e⟩ <;> rw [e] <;> simp [h]
theorem stepsUp_get {x : Str} : ∀ {l : List (Str × Str)} {L : List Str} {i : Nat}, i < L.length → (stepsUp l x L).getD i [] = L.getD i []
  | [], L, i, h => rfl
  | b :: l, L, i, h => by
    show (stepsUp l x (stepUp x L b)).getD i [] = _
    have h2 := stepUp_prefix (x := x) (b := b) h
    rw [stepsUp_get h2.2, h2.1]
theorem stepsUp_len {x : Str} : ∀ {l : List (Str × Str)} {L : List Str}, L.length ≤ (stepsUp l x L).length
  | [], L => Nat.le_refl _
  | b :: l, L => by
    show _ ≤ (stepsUp l x (stepUp x L b)).length
    refine Nat.le_trans ?_ stepsUp_len
    rcases stepUp_cases x L b with e | ⟨_, _, e⟩ <;> rw [e] <;> simp
theorem stepsUp_all {x : Str} : ∀ {l : List (Str × Str)} {L : List Str} {c : Str}, (x, c) ∈ l → c ∈ stepsUp l x L
  | b :: l, L, c, h => by
    show c ∈ stepsUp l x (stepUp x L b)
    rcases List.mem_cons.1 h with h | h
    · subst h
      refine stepsUp_mono ?_
      unfold stepUp
      by_cases hc : L.contains c = false
      · rw [if_pos ⟨rfl, hc⟩]; simp
      · rw [if_neg (fun h => hc h.2)]
        simpa using hc
    · exact stepsUp_all h
theorem stepsUp_sub {x : Str} : ∀ {l : List (Str × Str)} {L : List Str} {y : Str}, y ∈ stepsUp l x L → y ∈ L ∨ (x, y) ∈ l
  | [], L, y, h => .inl h
  | b :: l, L, y, h => by
    have h : y ∈ stepsUp l x (stepUp x L b) := h
    rcases stepsUp_sub h with h | h
    · rcases stepUp_cases x L b with e | ⟨h1, _, e⟩
      · rw [e] at h; exact .inl h
      · rw [e] at h
        rcases List.mem_append.1 h with h | h
        · exact .inl h
        · simp only [List.mem_singleton] at h
          subst h h1
          exact .inr (by simp)
    · exact .inr (List.mem_cons_of_mem _ h)
theorem climbG_up {l : List (Str × Str)} {a : Str} : ∀ (f i : Nat) (L : List Str), (∀ y ∈ L, Up l a y) → ∀ y ∈ climbG l f i L, Up l a y
  | 0, i, L, h => h
  | f + 1, i, L, h => by
    unfold climbG
    split
    · rename_i hi
      refine climbG_up f (i + 1) _ (fun y hy => ?_)
      rcases stepsUp_sub hy with hy | hy
      · exact h y hy
      · exact .step (h _ (by simp [List.getD, hi])) hy
    · exact h
theorem climbG_closed {l : List (Str × Str)} {a : Str} : ∀ (f i : Nat) (L : List Str), Climbs l a L → i ≤ L.length → l.length + 1 ≤ i + f → (∀ j c, j < i → (L.getD j [], c) ∈ l → c ∈ L) → (∀ y ∈ L, y ∈ climbG l f i L) ∧ ∀ x c, x ∈ climbG l f i L → (x, c) ∈ l → c ∈ climbG l f i L
  | 0, i, L, hC, hi, hf, h => by
    have := hC.len
    refine ⟨fun y hy => hy, fun x c hx hc => ?_⟩
    have hx : x ∈ L := hx
    obtain ⟨j, hj, rfl⟩ := List.mem_iff_getElem.1 hx
    exact h j c (by omega) (by rw [getD_el hj]; exact hc)
  | f + 1, i, L, hC, hi, hf, h => by
    unfold climbG
    split
    · rename_i hlt
      have hl := stepsUp_len (x := L.getD i []) (l := l) (L := L)
      have ih := climbG_closed (a := a) f (i + 1) (stepsUp l (L.getD i []) L) (stepsUp_climbs l _ (fun b hb => hb) hC) (by omega) (by omega) (fun j c hj hc => by
        rw [stepsUp_get (by omega)] at hc
        rcases Nat.lt_succ_iff_lt_or_eq.1 hj with h1 | rfl
        · exact stepsUp_mono (h j c h1 hc)
        · exact stepsUp_all hc)
      exact ⟨fun y hy => ih.1 y (stepsUp_mono hy), ih.2⟩
    · rename_i hge
      refine ⟨fun y hy => hy, fun x c hx hc => ?_⟩
      obtain ⟨j, hj, rfl⟩ := List.mem_iff_getElem.1 hx
      exact h j c (by omega) (by rw [getD_el hj]; exact hc)
theorem mem_climb {l : List (Str × Str)} {a y : Str} : y ∈ climb l a ↔ Up l a y := by
  constructor
  · exact climbG_up _ _ _ (fun y hy => by simp only [List.mem_singleton] at hy; subst hy; exact .refl _) y
  · intro h
    have hcl := climbG_closed (l := l) (a := a) (l.length + 1) 0 [a] ⟨by simp, by simp, by simp⟩ (by simp) (by omega) (fun j c hj => by omega)
    induction h with
    | refl => exact hcl.1 a (by simp)
    | step _ hm ih => exact hcl.2 _ _ ih hm
/-- what a valid signature is, in plain words -/
structure Val (s : LSig) : Prop where
  low : ∀ b ∈ s.below, b.1 ≠ anyS ∧ existsA s b.1 = true ∧ b.2 ∈ s.sorts ∧ ¬ Up s.below b.2 b.1
  fresh : ∀ x ∈ s.sorts, isName x = true ∧ x ∉ alwaysA
  values : ∀ x ∈ s.values, existsA s x = true
  nd : s.sorts.Nodup
  ops : ∀ o ∈ s.ops, isOp s o = true
  funs : ∀ o ∈ s.funs, isFun s o = true
theorem exists_sort {s : LSig} {x : Str} (h : x ∈ s.sorts) : existsA s x = true := by simp [existsA, keysOf, h]
theorem valid_val {s : LSig} (h : validB s = true) : Val s := by
  simp only [validB, validHead, validMid, validTail, Bool.and_eq_true, List.all_eq_true, decide_eq_true_eq] at h
  obtain ⟨⟨_, ⟨hnd, hf⟩, _⟩, ⟨⟨hb, hv⟩, ho⟩, hfu⟩ := h
  refine ⟨fun b hb' => ?_, fun x hx => ?_, hv, hnd, ho, hfu⟩
  · have := hb b hb'
    simp only [isBelow, Bool.and_eq_true, decide_eq_true_eq, Bool.not_eq_true', List.contains_iff_mem] at this
    obtain ⟨⟨⟨h1, h2⟩, h3⟩, h4⟩ := this
    refine ⟨h1, h2, h3, fun hu => ?_⟩
    rw [above, if_pos (exists_sort h3)] at h4
    have h5 := mem_climb.2 hu
    rw [← List.contains_iff_mem, h4] at h5
    cases h5
  · have := hf x hx
    simp only [freshA, Bool.and_eq_true, Bool.not_eq_true'] at this
    refine ⟨this.1, fun hm => ?_⟩
    rw [← List.contains_iff_mem, this.2] at hm
    cases hm
theorem atMost_iff {s : LSig} {x y : Str} (hx : existsA s x = true) : atMost s x y = true ↔ y = anyS ∨ Up s.below x y := by
  simp only [atMost, above, hx, if_true, Bool.or_eq_true, decide_eq_true_eq, List.contains_iff_mem, mem_climb]
theorem Val.up_any {s : LSig} (v : Val s) {y : Str} (h : Up s.below anyS y) : y = anyS := by
  rcases h.head with h | ⟨m, h, _⟩
  · exact h.symm
  · exact absurd rfl (v.low _ h).1
theorem Val.up_ex {s : LSig} (v : Val s) {x y : Str} (h : Up s.below x y) (hx : existsA s x = true) : existsA s y = true := by
  cases h with
  | refl => exact hx
  | step _ hm => exact exists_sort (v.low _ hm).2.2.1
theorem any_ex (s : LSig) : existsA s anyS = true := by simp [existsA, keysOf, alwaysA, anyS]
theorem atMost_refl {s : LSig} {x : Str} (hx : existsA s x = true) : atMost s x x = true := (atMost_iff hx).2 (.inr (.refl _))
theorem atMost_any {s : LSig} {x : Str} : atMost s x anyS = true := by simp [atMost]
theorem atMost_ex {s : LSig} (v : Val s) {x y : Str} (hx : existsA s x = true) (h : atMost s x y = true) : existsA s y = true := by
  rcases (atMost_iff hx).1 h with rfl | h
  · exact any_ex s
  · exact v.up_ex h hx
theorem atMost_trans {s : LSig} (v : Val s) {x y z : Str} (hx : existsA s x = true) (h : atMost s x y = true) (k : atMost s y z = true) : atMost s x z = true := by
  have hy := atMost_ex v hx h
  rw [atMost_iff hx] at h ⊢
  rw [atMost_iff hy] at k
  rcases k with k | k
  · exact .inl k
  · rcases h with rfl | h
    · exact .inl (v.up_any k)
    · exact .inr (h.trans k)
theorem atMost_antisymm {s : LSig} (v : Val s) {x y : Str} (hx : existsA s x = true) (h : atMost s x y = true) (k : atMost s y x = true) : x = y := by
  have hy := atMost_ex v hx h
  rw [atMost_iff hx] at h
  rw [atMost_iff hy] at k
  rcases h with rfl | h
  · rcases k with k | k
    · exact k
    · exact v.up_any k
  · rcases k with rfl | k
    · exact (v.up_any h).symm
    · rcases h.head with e | ⟨m, hm, hu⟩
      · exact e
      · exact absurd (hu.trans k) (v.low _ hm).2.2.2
theorem value_down {s : LSig} (v : Val s) {x y : Str} (hx : existsA s x = true) (h : atMost s x y = true) (k : isValue s y = true) : isValue s x = true := by
  unfold isValue at k ⊢
  rw [List.any_eq_true] at k ⊢
  obtain ⟨z, hz, hk⟩ := k
  exact ⟨z, hz, atMost_trans v hx h hk⟩
end Go.Proofs.YtadileniakikeaaGreatDoor
set_option maxRecDepth 100000
set_option linter.unusedSimpArgs false
set_option linter.unusedVariables false
namespace Go.Proofs.YtadileniakikeaaGreatDoor
open Go Go.Vo

/-! ## a signature renamed twice -/
theorem swap_swap {x a b : Str} : swap (swap x a b) a b = x := by
  unfold swap
  by_cases h1 : x = a
  · subst h1
    by_cases h2 : b = x
    · subst h2; simp
    · simp [h2]
  · by_cases h2 : x = b
    · subst h2; simp [h1]
    · simp [h1, h2]
theorem swap_name {x a b : Str} (hx : isName x = true) (ha : isName a = true) (hb : isName b = true) : isName (swap x a b) = true := by
  unfold swap
  split
  · exact hb
  · split
    · exact ha
    · exact hx
theorem name_pos {x : Str} (h : isName x = true) : 0 < x.length := by
  cases x with
  | nil => revert h; decide
  | cons a l => simp
theorem name_part {x : Str} (h : isName x = true) {k : Nat} (hk : k < x.length) : part (at_ x k) = true := by
  simp only [isName, Bool.and_eq_true, List.all_eq_true] at h
  have := h.2 x[k] (List.getElem_mem hk)
  simpa [at_, List.getD, hk] using this
theorem name_frame {x : Str} (h : isName x = true) : isFrame x = false := by
  rw [← Bool.not_eq_true]
  intro hf
  simp only [isFrame, Bool.and_eq_true, decide_eq_true_eq] at hf
  obtain ⟨⟨⟨h1, h2⟩, _⟩, _⟩ := hf
  have := name_part h (k := x.length - 2) (by omega)
  rw [h2] at this
  revert this; decide
theorem name_base {x : Str} (h : isName x = true) : base x = x := by simp [base, name_frame h]
theorem at_app {x y : Str} {k : Nat} : at_ (x ++ y) (x.length + k) = at_ y k := by
  unfold at_; simp only [List.getD]
  rw [List.getElem?_append_right (by omega), Nat.add_sub_cancel_left]
theorem refr {n t : Str} (ht : isName t = true) : base (t ++ frame n) = t ∧ frame (t ++ frame n) = frame n := by
  have hp := name_pos ht
  cases hf : isFrame n with
  | false =>
    have e : frame n = [] := by simp [frame, hf]
    rw [e, List.append_nil]
    exact ⟨name_base ht, by simp [frame, name_frame ht]⟩
  | true =>
    have hf' := hf
    simp only [isFrame, Bool.and_eq_true, decide_eq_true_eq] at hf'
    obtain ⟨⟨⟨h1, h2⟩, h3⟩, h4⟩ := hf'
    have e : frame n = n.drop (n.length - 2) := by simp [frame, hf]
    have hl : (frame n).length = 2 := by rw [e]; simp; omega
    have g0 : at_ (frame n) 0 = at_ n (n.length - 2) := by rw [e]; simp [at_, List.getD]
    have g1 : at_ (frame n) 1 = at_ n (n.length - 1) := by
      rw [e]; simp only [at_, List.getD, List.getElem?_drop]
      rw [show n.length - 2 + 1 = n.length - 1 by omega]
    have hlen : (t ++ frame n).length = t.length + 2 := by rw [List.length_append, hl]
    have e0 : at_ (t ++ frame n) (t.length + 2 - 2) = 39 := by
      have := at_app (x := t) (y := frame n) (k := 0)
      rw [show t.length + 2 - 2 = t.length + 0 by omega, this, g0, h2]
    have e1 : at_ (t ++ frame n) (t.length + 2 - 1) = at_ n (n.length - 1) := by
      have := at_app (x := t) (y := frame n) (k := 1)
      rw [show t.length + 2 - 1 = t.length + 1 by omega, this, g1]
    have hF : isFrame (t ++ frame n) = true := by
      simp only [isFrame, hlen, e0, e1, Bool.and_eq_true, decide_eq_true_eq]
      exact ⟨⟨⟨by omega, trivial⟩, h3⟩, h4⟩
    refine ⟨?_, ?_⟩
    · rw [base, if_pos hF, hlen, show t.length + 2 - 2 = t.length by omega, List.take_left]
    · rw [frame, if_pos hF, hlen, show t.length + 2 - 2 = t.length by omega, List.drop_left]
theorem swapOp_swapOp {n a b : Str} (hn : isName (base n) = true) (ha : isName a = true) (hb : isName b = true) : swapOp (swapOp n a b) a b = n := by
  obtain ⟨h1, h2⟩ := refr (n := n) (swap_name hn ha hb)
  unfold swapOp
  rw [h1, h2, swap_swap, base_frame]
structure Ren (s : LSig) (a b : Str) : Prop where
  v : Val s
  r : Val (renamed s a b)
  a : isName a = true
  b : isName b = true
theorem Ren.inv {s : LSig} {a b x : Str} (h : Ren s a b) (hx : existsA s x = true) : sortSw (renamed s a b) a b (sortSw s a b x) = x := by
  by_cases hm : x ∈ s.sorts
  · have e : sortSw s a b x = swap x a b := by simp [sortSw, hm]
    have hm2 : swap x a b ∈ (renamed s a b).sorts := by
      show swap x a b ∈ s.sorts.map (sortSw s a b)
      rw [← e]; exact List.mem_map_of_mem hm
    rw [e]
    have : sortSw (renamed s a b) a b (swap x a b) = swap (swap x a b) a b := by simp [sortSw, hm2]
    rw [this, swap_swap]
  · have e : sortSw s a b x = x := by simp [sortSw, hm]
    have hA : x ∈ alwaysA := by
      simp only [existsA, keysOf, List.contains_iff_mem, List.mem_append] at hx
      exact hx.resolve_right hm
    rw [e]
    have hm2 : x ∉ (renamed s a b).sorts := fun h2 => (h.r.fresh x h2).2 hA
    simp [sortSw, hm2]
theorem sw_ne {s : LSig} {a b x : Str} (ha : isName a = true) (hb : isName b = true) (hx : x ≠ []) : sortSw s a b x ≠ [] := by
  have h1 := name_pos ha
  have h2 := name_pos hb
  unfold sortSw swap
  split
  · split
    · exact List.ne_nil_of_length_pos h2
    · split
      · exact List.ne_nil_of_length_pos h1
      · exact hx
  · exact hx
theorem Ren.piece {s : LSig} {a b : Str} (h : Ren s a b) {p : Str × Str} (hp : p.2 = [] ∨ existsA s p.2 = true) : changeP (sortSw (renamed s a b) a b) (changeP (sortSw s a b) p) = p := by
  obtain ⟨t, q⟩ := p
  unfold changeP
  simp only
  by_cases hq : q = []
  · simp [hq]
  · rw [if_neg hq, if_neg (sw_ne h.a h.b hq), h.inv (hp.resolve_left hq)]
theorem map_inv {α : Type} {f g : α → α} {l : List α} (h : ∀ x ∈ l, g (f x) = x) : (l.map f).map g = l := by
  rw [List.map_map]
  conv => rhs; rw [← List.map_id l]
  exact List.map_congr_left fun x hx => h x hx
theorem argsOf_mem {l : List (Str × Str)} {p : Str × Str} (h : p ∈ l) (hp : p.2 ≠ []) : p.2 ∈ argsOf l := by
  unfold argsOf
  refine List.mem_map_of_mem (List.mem_filter.2 ⟨h, ?_⟩)
  simp [hp]
structure OkPart (s : LSig) (o : LOp) : Prop where
  name : isName (base o.name) = true
  args : ∀ x ∈ o.args, existsA s x = true
  sort : existsA s o.sort = true
  pieces : ∀ p ∈ o.pieces, p.2 = [] ∨ existsA s p.2 = true
theorem Val.part {s : LSig} (v : Val s) {o : LOp} (h : o ∈ s.ops ++ s.funs) : OkPart s o := by
  rcases List.mem_append.1 h with h | h
  · have := v.ops o h
    simp only [isOp, opHead, syntaxA, Bool.and_eq_true, Bool.or_eq_true, decide_eq_true_eq, List.all_eq_true, List.contains_iff_mem, List.isEmpty_iff] at this
    obtain ⟨⟨⟨⟨⟨⟨⟨⟨⟨h1, _⟩, _⟩, h2⟩, h3⟩, _⟩, _⟩, _⟩, _⟩, h4⟩ := this
    refine ⟨h1, h2, exists_sort h3, fun p hp => ?_⟩
    rcases h4 with h4 | ⟨⟨_, _⟩, h4⟩
    · rw [h4] at hp; cases hp
    · by_cases hq : p.2 = []
      · exact .inl hq
      · exact .inr (h2 _ (h4 ▸ argsOf_mem hp hq))
  · have := v.funs o h
    simp only [isFun, Bool.and_eq_true, decide_eq_true_eq, List.all_eq_true] at this
    obtain ⟨⟨⟨⟨⟨h1, _⟩, _⟩, h2⟩, h3⟩, h4⟩ := this
    refine ⟨by rw [name_base h1]; exact h1, h2, h3, fun p hp => ?_⟩
    have : o.pieces = [] := List.eq_nil_of_length_eq_zero (by
      first | exact h4.1 | exact h4.1.1 | exact h4.1.1.1)
    rw [this] at hp; cases hp
theorem Ren.op {s : LSig} {a b : Str} (h : Ren s a b) {o : LOp} (ho : OkPart s o) : changeO (fun x => swapOp x a b) (sortSw (renamed s a b) a b) (changeO (fun x => swapOp x a b) (sortSw s a b) o) = o := by
  have e1 := swapOp_swapOp ho.name h.a h.b
  have e2 : (o.args.map (sortSw s a b)).map (sortSw (renamed s a b) a b) = o.args := map_inv fun x hx => h.inv (ho.args x hx)
  have e3 := h.inv ho.sort
  have e4 : (o.pieces.map (changeP (sortSw s a b))).map (changeP (sortSw (renamed s a b) a b)) = o.pieces := map_inv fun p hp => h.piece (ho.pieces p hp)
  unfold changeO
  simp only [e1, e2, e3, e4]
theorem Ren.back {s : LSig} {a b : Str} (h : Ren s a b) : renamed (renamed s a b) a b = s := by
  have e1 : (s.sorts.map (sortSw s a b)).map (sortSw (renamed s a b) a b) = s.sorts := map_inv fun x hx => h.inv (exists_sort hx)
  have e2 : (s.below.map (changeB (sortSw s a b))).map (changeB (sortSw (renamed s a b) a b)) = s.below := map_inv fun p hp => by
    obtain ⟨_, h1, h2, _⟩ := h.v.low p hp
    unfold changeB
    simp only [h.inv h1, h.inv (exists_sort h2)]
  have e3 : (s.ops.map (changeO (fun x => swapOp x a b) (sortSw s a b))).map (changeO (fun x => swapOp x a b) (sortSw (renamed s a b) a b)) = s.ops := map_inv fun o ho => h.op (h.v.part (List.mem_append_left _ ho))
  have e4 : (s.funs.map (changeO (fun x => swapOp x a b) (sortSw s a b))).map (changeO (fun x => swapOp x a b) (sortSw (renamed s a b) a b)) = s.funs := map_inv fun o ho => h.op (h.v.part (List.mem_append_right _ ho))
  have e5 : (s.values.map (sortSw s a b)).map (sortSw (renamed s a b) a b) = s.values := map_inv fun x hx => h.inv (h.v.values x hx)
  show changeS (fun x => swapOp x a b) (sortSw (renamed s a b) a b) (changeS (fun x => swapOp x a b) (sortSw s a b) s) = s
  unfold changeS
  simp only [e1, e2, e3, e4, e5]
theorem Ren.up {s : LSig} {a b x y : Str} (h : Ren s a b) (hu : Up s.below x y) : Up (renamed s a b).below (sortSw s a b x) (sortSw s a b y) := by
  induction hu with
  | refl => exact .refl _
  | step _ hm ih =>
    refine .step ih ?_
    exact List.mem_map.2 ⟨_, hm, rfl⟩
theorem Ren.down {s : LSig} {a b x v : Str} (h : Ren s a b) (hx : existsA s x = true) (hu : Up (renamed s a b).below (sortSw s a b x) v) : ∃ y, v = sortSw s a b y ∧ Up s.below x y := by
  generalize hq : sortSw s a b x = u at hu
  induction hu with
  | refl => exact ⟨x, hq.symm, .refl _⟩
  | step _ hm ih =>
    obtain ⟨y, rfl, hy⟩ := ih
    obtain ⟨p, hp, hpe⟩ := List.mem_map.1 hm
    have h1 : sortSw s a b p.1 = sortSw s a b y := by rw [Prod.ext_iff] at hpe; exact hpe.1
    have h2 := (Prod.ext_iff.1 hpe).2
    simp only [changeB] at h2
    have h3 : p.1 = y := by
      have k1 := h.inv (h.v.low p hp).2.1
      have k2 := h.inv (h.v.up_ex hy hx)
      rw [h1, k2] at k1
      exact k1.symm
    refine ⟨p.2, h2.symm, hy.step ?_⟩
    rw [← h3]; exact hp
theorem Ren.order {s : LSig} {a b x y : Str} (h : Ren s a b) (hx : x ∈ s.sorts) (hy : y ∈ s.sorts) : atMost (renamed s a b) (sortSw s a b x) (sortSw s a b y) = atMost s x y := by
  have hxe := exists_sort hx
  have m1 : sortSw s a b x ∈ (renamed s a b).sorts := List.mem_map_of_mem hx
  have m2 : sortSw s a b y ∈ (renamed s a b).sorts := List.mem_map_of_mem hy
  have hA : anyS ∈ alwaysA := by simp [alwaysA, anyS]
  rw [Bool.eq_iff_iff, atMost_iff (exists_sort m1), atMost_iff hxe]
  have n1 : y ≠ anyS := fun e => (h.v.fresh y hy).2 (e ▸ hA)
  have n2 : sortSw s a b y ≠ anyS := fun e => (h.r.fresh _ m2).2 (e ▸ hA)
  constructor
  · intro k
    obtain ⟨z, hz, hu⟩ := h.down hxe (k.resolve_left n2)
    have k1 := h.inv (exists_sort hy)
    have k2 := h.inv (h.v.up_ex hu hxe)
    rw [hz, k2] at k1
    exact .inr (k1 ▸ hu)
  · intro k
    exact .inr (h.up (k.resolve_left n1))
end Go.Proofs.YtadileniakikeaaGreatDoor
set_option maxRecDepth 100000
set_option linter.unusedSimpArgs false
set_option linter.unusedVariables false
namespace Go.Proofs.YtadileniakikeaaGreatDoor
open Go Go.Vo

/-! ## SortsOrdered -/
def atB (s : LSig) (x y : Str) : Bool := decide (sureC s [x, y] = 0) && atMost s x y
theorem atB_is {s : LSig} {x y : Str} (hv : validB s = true) (hx : existsA s x = true) (hy : existsA s y = true) : atB s x y = atMost s x y := by
  unfold atB
  rw [sure_y hv (by simp [hx, hy])]; simp
set_option maxHeartbeats 4000000 in
theorem ctr24 (s : LSig) (x y : Str) (hm : Small s) (hs : OkS s): Ctr Tryz.prog G0 24 [.agg (sigCells s), .s x, .s y] (.b (atB s x y)) := by
  refine sem_intro (rx := false) mixed Tryz.func24 rfl (by kernel_rfl) (by kernel_rfl) (ac := ?_) ?_ g0 ?_
  rotate_left
  · simp only [strip, stripOps, stripOp, hoist, List.filter_cons, List.filter_nil, List.nil_append, List.cons_append, isFree, anyPre, Region.binds, Bool.not_true, Bool.not_false, Bool.false_eq_true, if_true, if_false, Option.isNone_none, Option.isNone_some, Bool.true_and, Bool.false_and, List.map_nil, List.map_cons, List.isEmpty_nil, List.isEmpty_cons, List.append_nil]
    rfl
  · simp -implicitDefEqProofs (disch := omega) only [Tryz.f24, go_sem, List.replicate, ↓reduceIte, Nat.reduceAdd, Nat.reduceSub, Nat.reduceMul, Nat.reduceLeDiff, Nat.reduceLT, Nat.reduceEqDiff, Int.reduceNeg, Nat.reduceBEq]
    by_cases h0 : sureC s [x, y] = 0
    · (repeat' (first | refine g_true ?_ ?_ | refine g_false ?_ ?_ | refine cond_intro ?_ ?_ | (refine c_ctrE (c30 s x y hm hs) ?_ ?_; (focus (simp -implicitDefEqProofs (disch := omega) only [h0, avs, avb, avi, avo, sigCells, opCells, pairCells, go_sem, ↓reduceIte, Nat.reduceAdd, Nat.reduceSub, Nat.reduceMul, Nat.reduceLeDiff, Nat.reduceLT, Nat.reduceEqDiff, Int.reduceNeg, Nat.reduceBEq]; done)); simp -implicitDefEqProofs (disch := omega) only [h0, go_sem, ↓reduceIte, Nat.reduceAdd, Nat.reduceSub, Nat.reduceMul, Nat.reduceLeDiff, Nat.reduceLT, Nat.reduceEqDiff, Int.reduceNeg, Nat.reduceBEq]) | refine And.intro (by omega) ?_ | (intro hr; have hc := hr; (try simp only [decide_eq_true_eq, decide_eq_false_iff_not, Bool.not_eq_true', Bool.not_eq_false'] at hc); simp -implicitDefEqProofs (disch := omega) only [hr, h0, go_sem, ↓reduceIte, Nat.reduceAdd, Nat.reduceSub, Nat.reduceMul, Nat.reduceLeDiff, Nat.reduceLT, Nat.reduceEqDiff, Int.reduceNeg, Nat.reduceBEq]; (try clear hr))))
      all_goals (refine fin_eq ?_ (by rfl))
      all_goals simp_all [atB]
    · (repeat' (first | refine g_true ?_ ?_ | refine g_false ?_ ?_ | refine cond_intro ?_ ?_ | (refine c_ctrE (c30 s x y hm hs) ?_ ?_; (focus (simp -implicitDefEqProofs (disch := omega) only [h0, avs, avb, avi, avo, sigCells, opCells, pairCells, go_sem, ↓reduceIte, Nat.reduceAdd, Nat.reduceSub, Nat.reduceMul, Nat.reduceLeDiff, Nat.reduceLT, Nat.reduceEqDiff, Int.reduceNeg, Nat.reduceBEq]; done)); simp -implicitDefEqProofs (disch := omega) only [h0, go_sem, ↓reduceIte, Nat.reduceAdd, Nat.reduceSub, Nat.reduceMul, Nat.reduceLeDiff, Nat.reduceLT, Nat.reduceEqDiff, Int.reduceNeg, Nat.reduceBEq]) | refine And.intro (by omega) ?_ | (intro hr; have hc := hr; (try simp only [decide_eq_true_eq, decide_eq_false_iff_not, Bool.not_eq_true', Bool.not_eq_false'] at hc); simp -implicitDefEqProofs (disch := omega) only [hr, h0, go_sem, ↓reduceIte, Nat.reduceAdd, Nat.reduceSub, Nat.reduceMul, Nat.reduceLeDiff, Nat.reduceLT, Nat.reduceEqDiff, Int.reduceNeg, Nat.reduceBEq]; (try clear hr))))
      all_goals (refine fin_eq ?_ (by rfl))
      all_goals simp_all [atB]
theorem ord_anti {s : LSig} {x y : Str} (hv : validB s = true) (hx : existsA s x = true) (hy : existsA s y = true) (h : atB s x y = true) (k : atB s y x = true) : x = y := by
  rw [atB_is hv hx hy] at h
  rw [atB_is hv hy hx] at k
  exact atMost_antisymm (valid_val hv) hx h k
theorem ord_trans {s : LSig} {x y z : Str} (hv : validB s = true) (hx : existsA s x = true) (hy : existsA s y = true) (hz : existsA s z = true) (h : atB s x y = true) (k : atB s y z = true) (n : atB s x z = false) : False := by
  rw [atB_is hv hx hy] at h
  rw [atB_is hv hy hz] at k
  rw [atB_is hv hx hz, atMost_trans (valid_val hv) hx h k] at n
  cases n
def ordL (s : LSig) : List Str := anyS :: cInt :: s.sorts
theorem ordL_ex {s : LSig} {x : Str} (h : x ∈ ordL s) : existsA s x = true := by
  rcases List.mem_cons.1 h with rfl | h
  · exact any_ex s
  · rcases List.mem_cons.1 h with rfl | h
    · simp [existsA, keysOf, alwaysA, cInt]
    · exact exists_sort h
theorem ordL_ok {s : LSig} (hv : validB s = true) {k : Nat} (h : k < (ordL s).length) : existsA s ((ordL s).getD k []) = true := ordL_ex (mem_getD h)
set_option maxHeartbeats 4000000 in
theorem ctr5 (s : LSig) (hs : OkS s): Ctr Tryz.prog G0 5 [.agg (sigCells s)] (.b true) := by
  refine sem_intro (rx := false) mixed Tryz.func5 rfl (by kernel_rfl) (by kernel_rfl) (ac := ?_) ?_ g0 ?_
  rotate_left
  · simp only [strip, stripOps, stripOp, hoist, List.filter_cons, List.filter_nil, List.nil_append, List.cons_append, isFree, anyPre, Region.binds, Bool.not_true, Bool.not_false, Bool.false_eq_true, if_true, if_false, Option.isNone_none, Option.isNone_some, Bool.true_and, Bool.false_and, List.map_nil, List.map_cons, List.isEmpty_nil, List.isEmpty_cons, List.append_nil]
    rfl
  · simp -implicitDefEqProofs (disch := omega) only [Tryz.f5, go_sem, List.replicate, ↓reduceIte, Nat.reduceAdd, Nat.reduceSub, Nat.reduceMul, Nat.reduceLeDiff, Nat.reduceLT, Nat.reduceEqDiff, Int.reduceNeg, Nat.reduceBEq]
    by_cases hf : few s = true
    · have hm := few_small hf
      have h1 := hm.sorts
      (repeat' (first | refine g_true ?_ ?_ | refine g_false ?_ ?_ | refine cond_intro ?_ ?_ | (refine c_ctrE (ctr10 s hs) ?_ ?_; (focus (simp -implicitDefEqProofs (disch := omega) only [hf, avs, avb, avi, avo, sigCells, opCells, pairCells, go_sem, ↓reduceIte, Nat.reduceAdd, Nat.reduceSub, Nat.reduceMul, Nat.reduceLeDiff, Nat.reduceLT, Nat.reduceEqDiff, Int.reduceNeg, Nat.reduceBEq]; done)); simp -implicitDefEqProofs (disch := omega) only [hf, go_sem, ↓reduceIte, Nat.reduceAdd, Nat.reduceSub, Nat.reduceMul, Nat.reduceLeDiff, Nat.reduceLT, Nat.reduceEqDiff, Int.reduceNeg, Nat.reduceBEq]) | (refine c_ctrE (ctr11) ?_ ?_; (focus (simp -implicitDefEqProofs (disch := omega) only [hf, avs, avb, avi, avo, sigCells, opCells, pairCells, go_sem, ↓reduceIte, Nat.reduceAdd, Nat.reduceSub, Nat.reduceMul, Nat.reduceLeDiff, Nat.reduceLT, Nat.reduceEqDiff, Int.reduceNeg, Nat.reduceBEq]; done)); simp -implicitDefEqProofs (disch := omega) only [hf, go_sem, ↓reduceIte, Nat.reduceAdd, Nat.reduceSub, Nat.reduceMul, Nat.reduceLeDiff, Nat.reduceLT, Nat.reduceEqDiff, Int.reduceNeg, Nat.reduceBEq]) | (refine c_ctrE (ctr12 s hm hs) ?_ ?_; (focus (simp -implicitDefEqProofs (disch := omega) only [hf, avs, avb, avi, avo, sigCells, opCells, pairCells, go_sem, ↓reduceIte, Nat.reduceAdd, Nat.reduceSub, Nat.reduceMul, Nat.reduceLeDiff, Nat.reduceLT, Nat.reduceEqDiff, Int.reduceNeg, Nat.reduceBEq]; done)); simp -implicitDefEqProofs (disch := omega) only [hf, go_sem, ↓reduceIte, Nat.reduceAdd, Nat.reduceSub, Nat.reduceMul, Nat.reduceLeDiff, Nat.reduceLT, Nat.reduceEqDiff, Int.reduceNeg, Nat.reduceBEq]) | refine And.intro (by omega) ?_ | (intro hr; have hc := hr; (try simp only [decide_eq_true_eq, decide_eq_false_iff_not, Bool.not_eq_true', Bool.not_eq_false'] at hc); simp -implicitDefEqProofs (disch := omega) only [hr, hf, go_sem, ↓reduceIte, Nat.reduceAdd, Nat.reduceSub, Nat.reduceMul, Nat.reduceLeDiff, Nat.reduceLT, Nat.reduceEqDiff, Int.reduceNeg, Nat.reduceBEq]; (try clear hr))))
      all_goals first | (exact fin_eq rfl rfl) | skip
      have hv := hc
      have v := valid_val hv
      clear hc
      have hcells : (AV.s [65, 110, 121] :: AV.s [73, 110, 116] :: List.map AV.s s.sorts) = (ordL s).map .s := rfl
      have hn : 2 + s.sorts.length = (ordL s).length := by simp [ordL]; omega
      rw [hcells, hn]
      have hL : (ordL s).length ≤ 102 := by omega
      clear hcells hn
      refine x_loopJ (fun (k : Nat) => [.k, .k, .j, .k, .k, .j, .k, .j, .k, .j, .k, .k, .k, .k, .k, .k, .k, .k, .k, .k, .k, .k, .k, .k, .k, .k, .k, .k, .k, .k, .k, .v (.i .i64 k), .j, .j, .j, .j, .j, .j, .j, .j, .j, .j, .j, .j, .j, .j, .j, .j, .j, .j, .j, .j, .j, .j, .j, .j, .j, .j, .j, .j, .j, .j, .j, .j, .j, .j, .j, .j, .j, .j, .j, .j, .j, .j, .j, .j, .j, .j, .j, .j, .j, .j, .j, .j, .j, .j, .j, .j, .j, .j, .j, .j, .j, .k]) (fun k => [.box false [.sl (s.sorts.map .s) s.sorts.length, .sl (s.below.flatMap pairCells) s.below.length, .sl (s.ops.flatMap opCells) s.ops.length, .sl (s.funs.flatMap opCells) s.funs.length, .sl (s.values.map .s) s.values.length], .dead, .arr false 1 ((ordL s).map .s)]) (fun k => k ≤ (ordL s).length) (fun k => (ordL s).length - k) (0) (Nat.zero_le _) rfl (by simp [Fits]) ?_
      rintro k j hk
      have hx : k < (ordL s).length → existsA s ((ordL s).getD k []) = true := ordL_ok hv
      have c1 : k < (ordL s).length → Ctr Tryz.prog G0 24 [.agg (sigCells s), .s ((ordL s).getD k []), .s ((ordL s).getD k [])] (.b true) := fun h => by
        have e : atB s ((ordL s).getD k []) ((ordL s).getD k []) = true := by rw [atB_is hv (hx h) (hx h), atMost_refl (hx h)]
        exact e ▸ ctr24 s ((ordL s).getD k []) ((ordL s).getD k []) hm hs
      have c2 : k < (ordL s).length → Ctr Tryz.prog G0 24 [.agg (sigCells s), .s ((ordL s).getD k []), .s [65, 110, 121]] (.b true) := fun h => by
        have e : atB s ((ordL s).getD k []) anyS = true := by rw [atB_is hv (hx h) (any_ex s), atMost_any]
        exact e ▸ ctr24 s ((ordL s).getD k []) anyS hm hs
      simp -implicitDefEqProofs (disch := omega) only [go_sem, ↓reduceIte, Nat.reduceAdd, Nat.reduceSub, Nat.reduceMul, Nat.reduceLeDiff, Nat.reduceLT, Nat.reduceEqDiff, Int.reduceNeg, Nat.reduceBEq]
      (repeat' (first | refine g_true ?_ ?_ | refine g_false ?_ ?_ | refine cond_intro ?_ ?_ | (refine c_ctrE (c1 (by omega)) ?_ ?_; (focus (simp -implicitDefEqProofs (disch := omega) only [avs, avb, avi, avo, sigCells, opCells, pairCells, go_sem, ↓reduceIte, Nat.reduceAdd, Nat.reduceSub, Nat.reduceMul, Nat.reduceLeDiff, Nat.reduceLT, Nat.reduceEqDiff, Int.reduceNeg, Nat.reduceBEq]; done)); simp -implicitDefEqProofs (disch := omega) only [go_sem, ↓reduceIte, Nat.reduceAdd, Nat.reduceSub, Nat.reduceMul, Nat.reduceLeDiff, Nat.reduceLT, Nat.reduceEqDiff, Int.reduceNeg, Nat.reduceBEq]) | (refine c_ctrE (c2 (by omega)) ?_ ?_; (focus (simp -implicitDefEqProofs (disch := omega) only [avs, avb, avi, avo, sigCells, opCells, pairCells, go_sem, ↓reduceIte, Nat.reduceAdd, Nat.reduceSub, Nat.reduceMul, Nat.reduceLeDiff, Nat.reduceLT, Nat.reduceEqDiff, Int.reduceNeg, Nat.reduceBEq]; done)); simp -implicitDefEqProofs (disch := omega) only [go_sem, ↓reduceIte, Nat.reduceAdd, Nat.reduceSub, Nat.reduceMul, Nat.reduceLeDiff, Nat.reduceLT, Nat.reduceEqDiff, Int.reduceNeg, Nat.reduceBEq]) | (refine c_ctrE (ctr11) ?_ ?_; (focus (simp -implicitDefEqProofs (disch := omega) only [avs, avb, avi, avo, sigCells, opCells, pairCells, go_sem, ↓reduceIte, Nat.reduceAdd, Nat.reduceSub, Nat.reduceMul, Nat.reduceLeDiff, Nat.reduceLT, Nat.reduceEqDiff, Int.reduceNeg, Nat.reduceBEq]; done)); simp -implicitDefEqProofs (disch := omega) only [go_sem, ↓reduceIte, Nat.reduceAdd, Nat.reduceSub, Nat.reduceMul, Nat.reduceLeDiff, Nat.reduceLT, Nat.reduceEqDiff, Int.reduceNeg, Nat.reduceBEq]) | refine And.intro (by omega) ?_ | (intro hr; have hc := hr; (try simp only [decide_eq_true_eq, decide_eq_false_iff_not, Bool.not_eq_true', Bool.not_eq_false'] at hc); simp -implicitDefEqProofs (disch := omega) only [hr, go_sem, ↓reduceIte, Nat.reduceAdd, Nat.reduceSub, Nat.reduceMul, Nat.reduceLeDiff, Nat.reduceLT, Nat.reduceEqDiff, Int.reduceNeg, Nat.reduceBEq]; (try clear hr))))
      · clear c1 c2
        have hx := hx (by omega)
        refine x_loopJ (fun (m : Nat) => [.k, .k, .j, .k, .k, .k, .k, .j, .k, .j, .k, .k, .k, .k, .k, .k, .k, .k, .k, .k, .k, .k, .k, .k, .k, .k, .k, .k, .k, .k, .k, .k, .k, .k, .k, .k, .k, .k, .k, .k, .k, .k, .k, .k, .k, .k, .k, .k, .v (.i .i64 m), .j, .j, .j, .j, .j, .j, .j, .j, .j, .j, .j, .j, .j, .j, .j, .j, .j, .j, .j, .j, .j, .j, .j, .j, .j, .j, .j, .j, .j, .j, .j, .j, .j, .j, .j, .j, .j, .j, .j, .j, .j, .j, .j, .k, .k]) (fun m => [.box false [.sl (s.sorts.map .s) s.sorts.length, .sl (s.below.flatMap pairCells) s.below.length, .sl (s.ops.flatMap opCells) s.ops.length, .sl (s.funs.flatMap opCells) s.funs.length, .sl (s.values.map .s) s.values.length], .dead, .arr false 1 ((ordL s).map .s)]) (fun m => m ≤ (ordL s).length) (fun m => (ordL s).length - m) (0) (Nat.zero_le _) rfl (by simp [Fits]) ?_
        rintro m j hm2
        have hy : m < (ordL s).length → existsA s ((ordL s).getD m []) = true := ordL_ok hv
        have hkl := hc
        clear hc
        simp -implicitDefEqProofs (disch := omega) only [go_sem, ↓reduceIte, Nat.reduceAdd, Nat.reduceSub, Nat.reduceMul, Nat.reduceLeDiff, Nat.reduceLT, Nat.reduceEqDiff, Int.reduceNeg, Nat.reduceBEq]
        (repeat' (first | refine g_true ?_ ?_ | refine g_false ?_ ?_ | refine cond_intro ?_ ?_ | (refine c_ctrE (ctr24 s ((ordL s).getD k []) ((ordL s).getD m []) hm hs) ?_ ?_; (focus (simp -implicitDefEqProofs (disch := omega) only [avs, avb, avi, avo, sigCells, opCells, pairCells, go_sem, ↓reduceIte, Nat.reduceAdd, Nat.reduceSub, Nat.reduceMul, Nat.reduceLeDiff, Nat.reduceLT, Nat.reduceEqDiff, Int.reduceNeg, Nat.reduceBEq]; done)); simp -implicitDefEqProofs (disch := omega) only [go_sem, ↓reduceIte, Nat.reduceAdd, Nat.reduceSub, Nat.reduceMul, Nat.reduceLeDiff, Nat.reduceLT, Nat.reduceEqDiff, Int.reduceNeg, Nat.reduceBEq]) | (refine c_ctrE (ctr24 s ((ordL s).getD m []) ((ordL s).getD k []) hm hs) ?_ ?_; (focus (simp -implicitDefEqProofs (disch := omega) only [avs, avb, avi, avo, sigCells, opCells, pairCells, go_sem, ↓reduceIte, Nat.reduceAdd, Nat.reduceSub, Nat.reduceMul, Nat.reduceLeDiff, Nat.reduceLT, Nat.reduceEqDiff, Int.reduceNeg, Nat.reduceBEq]; done)); simp -implicitDefEqProofs (disch := omega) only [go_sem, ↓reduceIte, Nat.reduceAdd, Nat.reduceSub, Nat.reduceMul, Nat.reduceLeDiff, Nat.reduceLT, Nat.reduceEqDiff, Int.reduceNeg, Nat.reduceBEq]) | refine And.intro (by omega) ?_ | (intro hr; have hc := hr; (try simp only [decide_eq_true_eq, decide_eq_false_iff_not, Bool.not_eq_true', Bool.not_eq_false'] at hc); simp -implicitDefEqProofs (disch := omega) only [hr, go_sem, ↓reduceIte, Nat.reduceAdd, Nat.reduceSub, Nat.reduceMul, Nat.reduceLeDiff, Nat.reduceLT, Nat.reduceEqDiff, Int.reduceNeg, Nat.reduceBEq]; (try clear hr))))
        · exact absurd (ord_anti hv hx (hy (by omega)) (by assumption) (by assumption)) (by assumption)
        all_goals first | exact ⟨k + 1, by omega, by omega, by simp⟩ | skip
        · have hyy := hy (by omega)
          clear hc
          refine x_loopJ (fun (n : Nat) => [.k, .k, .j, .k, .k, .k, .k, .k, .k, .j, .k, .k, .k, .k, .k, .k, .k, .k, .k, .k, .k, .k, .k, .k, .k, .k, .k, .k, .k, .k, .k, .k, .k, .k, .k, .k, .k, .k, .k, .k, .k, .k, .k, .k, .k, .k, .k, .k, .k, .k, .k, .k, .k, .k, .k, .k, .k, .k, .k, .k, .k, .k, .k, .k, .k, .k, .k, .k, .k, .v (.i .i64 n), .j, .j, .j, .j, .j, .j, .j, .j, .j, .j, .j, .j, .j, .j, .j, .j, .j, .j, .j, .j, .j, .k, .k, .k]) (fun n => [.box false [.sl (s.sorts.map .s) s.sorts.length, .sl (s.below.flatMap pairCells) s.below.length, .sl (s.ops.flatMap opCells) s.ops.length, .sl (s.funs.flatMap opCells) s.funs.length, .sl (s.values.map .s) s.values.length], .dead, .arr false 1 ((ordL s).map .s)]) (fun n => n ≤ (ordL s).length) (fun n => (ordL s).length - n) (0) (Nat.zero_le _) rfl (by simp [Fits]) ?_
          rintro n j hn3
          have hz : n < (ordL s).length → existsA s ((ordL s).getD n []) = true := ordL_ok hv
          simp -implicitDefEqProofs (disch := omega) only [go_sem, ↓reduceIte, Nat.reduceAdd, Nat.reduceSub, Nat.reduceMul, Nat.reduceLeDiff, Nat.reduceLT, Nat.reduceEqDiff, Int.reduceNeg, Nat.reduceBEq]
          (repeat' (first | refine g_true ?_ ?_ | refine g_false ?_ ?_ | refine cond_intro ?_ ?_ | (refine c_ctrE (ctr24 s ((ordL s).getD k []) ((ordL s).getD m []) hm hs) ?_ ?_; (focus (simp -implicitDefEqProofs (disch := omega) only [avs, avb, avi, avo, sigCells, opCells, pairCells, go_sem, ↓reduceIte, Nat.reduceAdd, Nat.reduceSub, Nat.reduceMul, Nat.reduceLeDiff, Nat.reduceLT, Nat.reduceEqDiff, Int.reduceNeg, Nat.reduceBEq]; done)); simp -implicitDefEqProofs (disch := omega) only [go_sem, ↓reduceIte, Nat.reduceAdd, Nat.reduceSub, Nat.reduceMul, Nat.reduceLeDiff, Nat.reduceLT, Nat.reduceEqDiff, Int.reduceNeg, Nat.reduceBEq]) | (refine c_ctrE (ctr24 s ((ordL s).getD m []) ((ordL s).getD n []) hm hs) ?_ ?_; (focus (simp -implicitDefEqProofs (disch := omega) only [avs, avb, avi, avo, sigCells, opCells, pairCells, go_sem, ↓reduceIte, Nat.reduceAdd, Nat.reduceSub, Nat.reduceMul, Nat.reduceLeDiff, Nat.reduceLT, Nat.reduceEqDiff, Int.reduceNeg, Nat.reduceBEq]; done)); simp -implicitDefEqProofs (disch := omega) only [go_sem, ↓reduceIte, Nat.reduceAdd, Nat.reduceSub, Nat.reduceMul, Nat.reduceLeDiff, Nat.reduceLT, Nat.reduceEqDiff, Int.reduceNeg, Nat.reduceBEq]) | (refine c_ctrE (ctr24 s ((ordL s).getD k []) ((ordL s).getD n []) hm hs) ?_ ?_; (focus (simp -implicitDefEqProofs (disch := omega) only [avs, avb, avi, avo, sigCells, opCells, pairCells, go_sem, ↓reduceIte, Nat.reduceAdd, Nat.reduceSub, Nat.reduceMul, Nat.reduceLeDiff, Nat.reduceLT, Nat.reduceEqDiff, Int.reduceNeg, Nat.reduceBEq]; done)); simp -implicitDefEqProofs (disch := omega) only [go_sem, ↓reduceIte, Nat.reduceAdd, Nat.reduceSub, Nat.reduceMul, Nat.reduceLeDiff, Nat.reduceLT, Nat.reduceEqDiff, Int.reduceNeg, Nat.reduceBEq]) | refine And.intro (by omega) ?_ | (intro hr; have hc := hr; (try simp only [decide_eq_true_eq, decide_eq_false_iff_not, Bool.not_eq_true', Bool.not_eq_false'] at hc); simp -implicitDefEqProofs (disch := omega) only [hr, go_sem, ↓reduceIte, Nat.reduceAdd, Nat.reduceSub, Nat.reduceMul, Nat.reduceLeDiff, Nat.reduceLT, Nat.reduceEqDiff, Int.reduceNeg, Nat.reduceBEq]; (try clear hr))))
          all_goals first | exact ⟨n + 1, by omega, by omega, by simp⟩ | exact ⟨m + 1, by omega, by omega, by simp⟩ | (exfalso; exact ord_trans hv hx hyy (hz (by omega)) (by assumption) (by assumption) (by assumption))
        · have hyy := hy (by omega)
          clear hc
          refine x_loopJ (fun (n : Nat) => [.k, .k, .j, .k, .k, .k, .k, .k, .k, .j, .k, .k, .k, .k, .k, .k, .k, .k, .k, .k, .k, .k, .k, .k, .k, .k, .k, .k, .k, .k, .k, .k, .k, .k, .k, .k, .k, .k, .k, .k, .k, .k, .k, .k, .k, .k, .k, .k, .k, .k, .k, .k, .k, .k, .k, .k, .k, .k, .k, .k, .k, .k, .k, .k, .k, .k, .k, .k, .k, .v (.i .i64 n), .j, .j, .j, .j, .j, .j, .j, .j, .j, .j, .j, .j, .j, .j, .j, .j, .j, .j, .j, .j, .j, .k, .k, .k]) (fun n => [.box false [.sl (s.sorts.map .s) s.sorts.length, .sl (s.below.flatMap pairCells) s.below.length, .sl (s.ops.flatMap opCells) s.ops.length, .sl (s.funs.flatMap opCells) s.funs.length, .sl (s.values.map .s) s.values.length], .dead, .arr false 1 ((ordL s).map .s)]) (fun n => n ≤ (ordL s).length) (fun n => (ordL s).length - n) (0) (Nat.zero_le _) rfl (by simp [Fits]) ?_
          rintro n j hn3
          have hz : n < (ordL s).length → existsA s ((ordL s).getD n []) = true := ordL_ok hv
          simp -implicitDefEqProofs (disch := omega) only [go_sem, ↓reduceIte, Nat.reduceAdd, Nat.reduceSub, Nat.reduceMul, Nat.reduceLeDiff, Nat.reduceLT, Nat.reduceEqDiff, Int.reduceNeg, Nat.reduceBEq]
          (repeat' (first | refine g_true ?_ ?_ | refine g_false ?_ ?_ | refine cond_intro ?_ ?_ | (refine c_ctrE (ctr24 s ((ordL s).getD k []) ((ordL s).getD m []) hm hs) ?_ ?_; (focus (simp -implicitDefEqProofs (disch := omega) only [avs, avb, avi, avo, sigCells, opCells, pairCells, go_sem, ↓reduceIte, Nat.reduceAdd, Nat.reduceSub, Nat.reduceMul, Nat.reduceLeDiff, Nat.reduceLT, Nat.reduceEqDiff, Int.reduceNeg, Nat.reduceBEq]; done)); simp -implicitDefEqProofs (disch := omega) only [go_sem, ↓reduceIte, Nat.reduceAdd, Nat.reduceSub, Nat.reduceMul, Nat.reduceLeDiff, Nat.reduceLT, Nat.reduceEqDiff, Int.reduceNeg, Nat.reduceBEq]) | (refine c_ctrE (ctr24 s ((ordL s).getD m []) ((ordL s).getD n []) hm hs) ?_ ?_; (focus (simp -implicitDefEqProofs (disch := omega) only [avs, avb, avi, avo, sigCells, opCells, pairCells, go_sem, ↓reduceIte, Nat.reduceAdd, Nat.reduceSub, Nat.reduceMul, Nat.reduceLeDiff, Nat.reduceLT, Nat.reduceEqDiff, Int.reduceNeg, Nat.reduceBEq]; done)); simp -implicitDefEqProofs (disch := omega) only [go_sem, ↓reduceIte, Nat.reduceAdd, Nat.reduceSub, Nat.reduceMul, Nat.reduceLeDiff, Nat.reduceLT, Nat.reduceEqDiff, Int.reduceNeg, Nat.reduceBEq]) | (refine c_ctrE (ctr24 s ((ordL s).getD k []) ((ordL s).getD n []) hm hs) ?_ ?_; (focus (simp -implicitDefEqProofs (disch := omega) only [avs, avb, avi, avo, sigCells, opCells, pairCells, go_sem, ↓reduceIte, Nat.reduceAdd, Nat.reduceSub, Nat.reduceMul, Nat.reduceLeDiff, Nat.reduceLT, Nat.reduceEqDiff, Int.reduceNeg, Nat.reduceBEq]; done)); simp -implicitDefEqProofs (disch := omega) only [go_sem, ↓reduceIte, Nat.reduceAdd, Nat.reduceSub, Nat.reduceMul, Nat.reduceLeDiff, Nat.reduceLT, Nat.reduceEqDiff, Int.reduceNeg, Nat.reduceBEq]) | refine And.intro (by omega) ?_ | (intro hr; have hc := hr; (try simp only [decide_eq_true_eq, decide_eq_false_iff_not, Bool.not_eq_true', Bool.not_eq_false'] at hc); simp -implicitDefEqProofs (disch := omega) only [hr, go_sem, ↓reduceIte, Nat.reduceAdd, Nat.reduceSub, Nat.reduceMul, Nat.reduceLeDiff, Nat.reduceLT, Nat.reduceEqDiff, Int.reduceNeg, Nat.reduceBEq]; (try clear hr))))
          all_goals first | exact ⟨n + 1, by omega, by omega, by simp⟩ | exact ⟨m + 1, by omega, by omega, by simp⟩ | (exfalso; exact ord_trans hv hx hyy (hz (by omega)) (by assumption) (by assumption) (by assumption))
        · have hyy := hy (by omega)
          clear hc
          refine x_loopJ (fun (n : Nat) => [.k, .k, .j, .k, .k, .k, .k, .k, .k, .j, .k, .k, .k, .k, .k, .k, .k, .k, .k, .k, .k, .k, .k, .k, .k, .k, .k, .k, .k, .k, .k, .k, .k, .k, .k, .k, .k, .k, .k, .k, .k, .k, .k, .k, .k, .k, .k, .k, .k, .k, .k, .k, .k, .k, .k, .k, .k, .k, .k, .k, .k, .k, .k, .k, .k, .k, .k, .k, .k, .v (.i .i64 n), .j, .j, .j, .j, .j, .j, .j, .j, .j, .j, .j, .j, .j, .j, .j, .j, .j, .j, .j, .j, .j, .k, .k, .k]) (fun n => [.box false [.sl (s.sorts.map .s) s.sorts.length, .sl (s.below.flatMap pairCells) s.below.length, .sl (s.ops.flatMap opCells) s.ops.length, .sl (s.funs.flatMap opCells) s.funs.length, .sl (s.values.map .s) s.values.length], .dead, .arr false 1 ((ordL s).map .s)]) (fun n => n ≤ (ordL s).length) (fun n => (ordL s).length - n) (0) (Nat.zero_le _) rfl (by simp [Fits]) ?_
          rintro n j hn3
          have hz : n < (ordL s).length → existsA s ((ordL s).getD n []) = true := ordL_ok hv
          simp -implicitDefEqProofs (disch := omega) only [go_sem, ↓reduceIte, Nat.reduceAdd, Nat.reduceSub, Nat.reduceMul, Nat.reduceLeDiff, Nat.reduceLT, Nat.reduceEqDiff, Int.reduceNeg, Nat.reduceBEq]
          (repeat' (first | refine g_true ?_ ?_ | refine g_false ?_ ?_ | refine cond_intro ?_ ?_ | (refine c_ctrE (ctr24 s ((ordL s).getD k []) ((ordL s).getD m []) hm hs) ?_ ?_; (focus (simp -implicitDefEqProofs (disch := omega) only [avs, avb, avi, avo, sigCells, opCells, pairCells, go_sem, ↓reduceIte, Nat.reduceAdd, Nat.reduceSub, Nat.reduceMul, Nat.reduceLeDiff, Nat.reduceLT, Nat.reduceEqDiff, Int.reduceNeg, Nat.reduceBEq]; done)); simp -implicitDefEqProofs (disch := omega) only [go_sem, ↓reduceIte, Nat.reduceAdd, Nat.reduceSub, Nat.reduceMul, Nat.reduceLeDiff, Nat.reduceLT, Nat.reduceEqDiff, Int.reduceNeg, Nat.reduceBEq]) | (refine c_ctrE (ctr24 s ((ordL s).getD m []) ((ordL s).getD n []) hm hs) ?_ ?_; (focus (simp -implicitDefEqProofs (disch := omega) only [avs, avb, avi, avo, sigCells, opCells, pairCells, go_sem, ↓reduceIte, Nat.reduceAdd, Nat.reduceSub, Nat.reduceMul, Nat.reduceLeDiff, Nat.reduceLT, Nat.reduceEqDiff, Int.reduceNeg, Nat.reduceBEq]; done)); simp -implicitDefEqProofs (disch := omega) only [go_sem, ↓reduceIte, Nat.reduceAdd, Nat.reduceSub, Nat.reduceMul, Nat.reduceLeDiff, Nat.reduceLT, Nat.reduceEqDiff, Int.reduceNeg, Nat.reduceBEq]) | (refine c_ctrE (ctr24 s ((ordL s).getD k []) ((ordL s).getD n []) hm hs) ?_ ?_; (focus (simp -implicitDefEqProofs (disch := omega) only [avs, avb, avi, avo, sigCells, opCells, pairCells, go_sem, ↓reduceIte, Nat.reduceAdd, Nat.reduceSub, Nat.reduceMul, Nat.reduceLeDiff, Nat.reduceLT, Nat.reduceEqDiff, Int.reduceNeg, Nat.reduceBEq]; done)); simp -implicitDefEqProofs (disch := omega) only [go_sem, ↓reduceIte, Nat.reduceAdd, Nat.reduceSub, Nat.reduceMul, Nat.reduceLeDiff, Nat.reduceLT, Nat.reduceEqDiff, Int.reduceNeg, Nat.reduceBEq]) | refine And.intro (by omega) ?_ | (intro hr; have hc := hr; (try simp only [decide_eq_true_eq, decide_eq_false_iff_not, Bool.not_eq_true', Bool.not_eq_false'] at hc); simp -implicitDefEqProofs (disch := omega) only [hr, go_sem, ↓reduceIte, Nat.reduceAdd, Nat.reduceSub, Nat.reduceMul, Nat.reduceLeDiff, Nat.reduceLT, Nat.reduceEqDiff, Int.reduceNeg, Nat.reduceBEq]; (try clear hr))))
          all_goals first | exact ⟨n + 1, by omega, by omega, by simp⟩ | exact ⟨m + 1, by omega, by omega, by simp⟩ | (exfalso; exact ord_trans hv hx hyy (hz (by omega)) (by assumption) (by assumption) (by assumption))
      · exact fin_eq rfl rfl
    · have hf := Bool.eq_false_iff.2 hf
      (repeat' (first | refine g_true ?_ ?_ | refine g_false ?_ ?_ | refine cond_intro ?_ ?_ | (refine c_ctrE (ctr10 s hs) ?_ ?_; (focus (simp -implicitDefEqProofs (disch := omega) only [hf, avs, avb, avi, avo, sigCells, opCells, pairCells, go_sem, ↓reduceIte, Nat.reduceAdd, Nat.reduceSub, Nat.reduceMul, Nat.reduceLeDiff, Nat.reduceLT, Nat.reduceEqDiff, Int.reduceNeg, Nat.reduceBEq]; done)); simp -implicitDefEqProofs (disch := omega) only [hf, go_sem, ↓reduceIte, Nat.reduceAdd, Nat.reduceSub, Nat.reduceMul, Nat.reduceLeDiff, Nat.reduceLT, Nat.reduceEqDiff, Int.reduceNeg, Nat.reduceBEq]) | (refine c_ctrE (ctr11) ?_ ?_; (focus (simp -implicitDefEqProofs (disch := omega) only [hf, avs, avb, avi, avo, sigCells, opCells, pairCells, go_sem, ↓reduceIte, Nat.reduceAdd, Nat.reduceSub, Nat.reduceMul, Nat.reduceLeDiff, Nat.reduceLT, Nat.reduceEqDiff, Int.reduceNeg, Nat.reduceBEq]; done)); simp -implicitDefEqProofs (disch := omega) only [hf, go_sem, ↓reduceIte, Nat.reduceAdd, Nat.reduceSub, Nat.reduceMul, Nat.reduceLeDiff, Nat.reduceLT, Nat.reduceEqDiff, Int.reduceNeg, Nat.reduceBEq]) | refine And.intro (by omega) ?_ | (intro hr; have hc := hr; (try simp only [decide_eq_true_eq, decide_eq_false_iff_not, Bool.not_eq_true', Bool.not_eq_false'] at hc); simp -implicitDefEqProofs (disch := omega) only [hr, hf, go_sem, ↓reduceIte, Nat.reduceAdd, Nat.reduceSub, Nat.reduceMul, Nat.reduceLeDiff, Nat.reduceLT, Nat.reduceEqDiff, Int.reduceNeg, Nat.reduceBEq]; (try clear hr))))
      exact fin_eq rfl rfl
end Go.Proofs.YtadileniakikeaaGreatDoor

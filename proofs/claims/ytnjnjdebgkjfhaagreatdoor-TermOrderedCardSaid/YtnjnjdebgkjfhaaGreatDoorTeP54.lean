/-
  What functions of the chapter return, as plain functions of what they are given; no condition beyond those that each theorem names.
-/
import Derived.Test.YtnjnjdebgkjfhaaGreatDoorTeP52
import Derived.Test.YtnjnjdebgkjfhaaGreatDoorSoP54
import Derived.Test.YtnjnjdebgkjfhaaGreatDoorVoP55
import Derived.Test.YtnjnjdebgkjfhaaGreatDoorTeP53
set_option maxRecDepth 100000
set_option linter.unusedSimpArgs false
set_option linter.unusedVariables false
set_option maxHeartbeats 4000000
namespace Go.Proofs.YtnjnjdebgkjfhaaGreatDoor
open Go Go.Vo
open Nat (reduceAdd reduceSub reduceMul reduceLeDiff reduceLT reduceEqDiff)
open Int (reduceNeg)

def intS : Str := [73, 110, 116]
def boolS : Str := [66, 111, 111, 108]
def textS : Str := [84, 101, 120, 116]
def idS : Str := [73, 100]
def argsP (s : Str) : List Str := if s = [97, 100, 100] then [intS, intS] else if s = [115, 117, 98] then [intS, intS] else if s = [109, 117, 108] then [intS, intS] else if s = [100, 105, 118] then [intS, intS] else if s = [109, 111, 100] then [intS, intS] else if s = [108, 116] then [intS, intS] else if s = [108, 101] then [intS, intS] else if s = [103, 116] then [intS, intS] else if s = [103, 101] then [intS, intS] else if s = [110, 101, 103] then [intS] else if s = [116, 101, 120, 116] then [intS] else if s = [101, 113] then [anyS, anyS] else if s = [110, 101] then [anyS, anyS] else if s = [97, 110, 100] then [boolS, boolS] else if s = [111, 114] then [boolS, boolS] else if s = [110, 111, 116] then [boolS] else if s = [112, 105, 99, 107] then [boolS, anyS, anyS] else if s = [99, 97, 116] then [textS, textS] else if s = [108, 101, 110, 103, 116, 104] then [listS] else if s = [106, 111, 105, 110] then [listS, listS] else if s = [103, 101, 116] then [mapS, anyS] else if s = [104, 97, 115] then [mapS, anyS] else if s = [100, 101, 108] then [mapS, anyS] else if s = [112, 117, 116] then [mapS, anyS, anyS] else if s = [107, 101, 121, 115] then [mapS] else if s = [115, 105, 122, 101] then [mapS] else if s = [105, 115] then [anyS, textS] else [anyS]
def resultP (s : Str) : Str := if s = [97, 100, 100] then intS else if s = [115, 117, 98] then intS else if s = [109, 117, 108] then intS else if s = [100, 105, 118] then intS else if s = [109, 111, 100] then intS else if s = [110, 101, 103] then intS else if s = [108, 101, 110, 103, 116, 104] then intS else if s = [115, 105, 122, 101] then intS else if s = [99, 97, 116] then textS else if s = [116, 101, 120, 116] then textS else if s = [106, 111, 105, 110] then listS else if s = [107, 101, 121, 115] then listS else if s = [112, 117, 116] then mapS else if s = [100, 101, 108] then mapS else if s = [112, 105, 99, 107] then anyS else if s = [103, 101, 116] then anyS else boolS
def strs : List AV → List Str
 | .s x :: l => x :: strs l
 | _ => []
theorem snap_strs {H : List AObj} {i : Nat} {fz t : Bool} {l : List Str} (h1 : H[i]? = some (.arr fz 1 (l.map .s))) : avs l = snap dep H (.hs i 0 l.length t) := by
 simp only [snap_dep, pers, snapS, h1, Bool.false_eq_true, if_false, Nat.zero_add, Nat.mul_one, List.length_map, Nat.le_refl, if_true, List.drop_zero]
 rw [List.take_of_length_le (by simp)]
 simp only [persL_s, if_true, avs]
theorem fin_args {H : List AObj} {i n : Nat} {cells : List AV} {fz t : Bool} {l : List Str} (h1 : H[i]? = some (.arr fz 1 cells)) (hl : l = strs cells) (hc : (strs cells).map .s = cells) (hn : n = (strs cells).length) : Fin H (.hs i 0 n t) (avs l) := by
 rw [← hl] at hc hn
 rw [← hc] at h1
 subst hn
 exact .inr ⟨snap_strs h1, by simp [finIds, avs], by simp [finIds, avs]⟩
theorem ctr255 (s : Str): CT 209 [.s s] (avs (argsP s)) := by
 refine sem_intro (rx := false) (th := fun _ => none) mixed Tryz.func209 rfl (by kernel_rfl) (by kernel_rfl) (ac := ?_) ?_ g0 ?_
 rotate_left
 · simp only [strip, splitQ, stripOps, stripOp, hoist, List.filter_cons, List.filter_nil, List.nil_append, List.cons_append, isFree, anyPre, Region.binds, Bool.not_true, Bool.not_false, Bool.false_eq_true, if_true, if_false, Option.isNone_none, Option.isNone_some, Bool.true_and, Bool.false_and, List.map_nil, List.map_cons, List.isEmpty_nil, List.isEmpty_cons, List.append_nil]
   rfl
 · simp -implicitDefEqProofs (disch := omega) only [Tryz.f209, go_sem, List.replicate, simprocAttr]
   (repeat' (first | refine gT ?_ ?_ | refine gF ?_ ?_ | refine gC ?_ ?_ | refine And.intro (by omega) ?_ | (intro hr; have hc := hr; (try simp only [zda, zdb, zdc, zdd] at hc); simp -implicitDefEqProofs (disch := omega) only [hr, go_sem, simprocAttr]; (try clear hr))))
   all_goals first
     | (subst hc; exact fin_args rfl (by decide +kernel) rfl rfl)
     | (simp only [argsP, *, if_false]; exact fin_args rfl rfl rfl rfl)
theorem ctr256 (s : Str): CT 210 [.s s] (.s (resultP s)) := by
 refine sem_intro (rx := false) (th := fun _ => none) mixed Tryz.func210 rfl (by kernel_rfl) (by kernel_rfl) (ac := ?_) ?_ g0 ?_
 rotate_left
 · simp only [strip, splitQ, stripOps, stripOp, hoist, List.filter_cons, List.filter_nil, List.nil_append, List.cons_append, isFree, anyPre, Region.binds, Bool.not_true, Bool.not_false, Bool.false_eq_true, if_true, if_false, Option.isNone_none, Option.isNone_some, Bool.true_and, Bool.false_and, List.map_nil, List.map_cons, List.isEmpty_nil, List.isEmpty_cons, List.append_nil]
   rfl
 · simp -implicitDefEqProofs (disch := omega) only [Tryz.f210, go_sem, List.replicate, simprocAttr]
   (repeat' (first | refine gT ?_ ?_ | refine gF ?_ ?_ | refine gC ?_ ?_ | refine And.intro (by omega) ?_ | (intro hr; have hc := hr; (try simp only [zda, zdb, zdc, zdd] at hc); simp -implicitDefEqProofs (disch := omega) only [hr, go_sem, simprocAttr]; (try clear hr))))
   all_goals first
     | (subst hc; exact fin_eq (congrArg AV.s (by decide +kernel)) rfl)
     | (simp only [resultP, *, if_false]; exact fin_eq rfl rfl)
def builtOp (x : Str) : Option LOp := if builtIns.contains x then some ⟨x, argsP x, resultP x, [], 0, 0, []⟩ else none
theorem fin_called {H : List AObj} {o o' : LOp} {a b a' b' : Bool} (h : (o', a', b') = (o, a, b)) : Fin H (.tup [.agg [.s o.name, .sl (o.args.map .s) o.args.length, .s o.sort, .sl (o.pieces.flatMap pairCells) o.pieces.length, .i .i64 o.prec, .i .i64 o.assoc, .sl (o.strict.map (.i .i64)) o.strict.length], .b a, .b b]) (.tup [.agg [.s o'.name, .sl (o'.args.map .s) o'.args.length, .s o'.sort, .sl (o'.pieces.flatMap pairCells) o'.pieces.length, .i .i64 o'.prec, .i .i64 o'.assoc, .sl (o'.strict.map (.i .i64)) o'.strict.length], .b a', .b b']) := by
 injection h with h1 h2; injection h2 with h2 h3
 subst h1 h2 h3
 exact fin_eq rfl (by simp only [pers, persL, persL_s, persL_pair, persL_i, Bool.and_self])
theorem fin_built {H : List AObj} {x r : Str} {l : List Str} : Fin H (.tup [.agg [.s x, .sl (l.map .s) l.length, .s r, .e0, .i .i64 0, .i .i64 0, .e0], .b true]) (.tup [elO ⟨x, l, r, [], 0, 0, []⟩, .b true]) :=
 .inr ⟨⟨⟨rfl, by show _ = snap dep H _; simp only [snap_dep, pers, persL_s, if_true]; rfl, rfl, rfl, rfl, rfl, rfl, trivial⟩, rfl, trivial⟩, by simp [elO, opCells, finIds, finIdsL, avs, avb, avi], by simp [elO, opCells, finIds, finIdsL, avs, avb, avi]⟩
theorem ctr237 (x : Str): CT 175 [.s x] (optR (builtOp x)) := by
 refine sem_intro (rx := false) (th := fun _ => none) mixed Tryz.func175 rfl (by kernel_rfl) (by kernel_rfl) (ac := ?_) ?_ g0 ?_
 rotate_left
 · simp only [strip, splitQ, stripOps, stripOp, hoist, List.filter_cons, List.filter_nil, List.nil_append, List.cons_append, isFree, anyPre, Region.binds, Bool.not_true, Bool.not_false, Bool.false_eq_true, if_true, if_false, Option.isNone_none, Option.isNone_some, Bool.true_and, Bool.false_and, List.map_nil, List.map_cons, List.isEmpty_nil, List.isEmpty_cons, List.append_nil]
   rfl
 · simp -implicitDefEqProofs (disch := omega) only [Tryz.f175, go_sem, List.replicate, simprocAttr]
   (repeat' (first | refine gT ?_ ?_ | refine gF ?_ ?_ | refine gC ?_ ?_ | ((first | (refine c_ctrE (ctr39 x) ?_ ?_; (focus (simp -implicitDefEqProofs (disch := omega) only [avs, avb, avi, avo, sigCells, opCells, pairCells, elT, avt, termCells_eq, go_sem, simprocAttr]; done))) | (refine c_ctrE (ctr255 x) ?_ ?_; (focus (simp -implicitDefEqProofs (disch := omega) only [avs, avb, avi, avo, sigCells, opCells, pairCells, elT, avt, termCells_eq, go_sem, simprocAttr]; done))) | (refine c_ctrE (ctr256 x) ?_ ?_; (focus (simp -implicitDefEqProofs (disch := omega) only [avs, avb, avi, avo, sigCells, opCells, pairCells, elT, avt, termCells_eq, go_sem, simprocAttr]; done)))); simp -implicitDefEqProofs (disch := omega) only [go_sem, simprocAttr]) | refine And.intro (by omega) ?_ | (intro hr; have hc := hr; (try simp only [zda, zdb, zdc, zdd] at hc); simp -implicitDefEqProofs (disch := omega) only [hr, go_sem, simprocAttr]; (try clear hr))))
   · rw [builtOp, if_neg (by rw [hc]; simp)]
     exact fin_zeroB
   · rw [builtOp, if_pos hc]
     exact fin_built
def called (s : LSig) (x : Str) : LOp × Bool × Bool := match opAt s x with
 | some o => (o, false, true)
 | none => match funAt s x with
   | some o => (o, true, true)
   | none => match builtOp x with
     | some o => (o, true, true)
     | none => (default, true, false)
theorem ctr261 (s : LSig) (x : Str): CT 104 [bookAV s, .s x] (.tup [elO (called s x).1, .b (called s x).2.1, .b (called s x).2.2]) := by
 refine sem_intro (rx := false) (th := fun _ => none) mixed Tryz.func104 rfl (by kernel_rfl) (by kernel_rfl) (ac := ?_) ?_ g0 ?_
 rotate_left
 · simp only [strip, splitQ, stripOps, stripOp, hoist, List.filter_cons, List.filter_nil, List.nil_append, List.cons_append, isFree, anyPre, Region.binds, Bool.not_true, Bool.not_false, Bool.false_eq_true, if_true, if_false, Option.isNone_none, Option.isNone_some, Bool.true_and, Bool.false_and, List.map_nil, List.map_cons, List.isEmpty_nil, List.isEmpty_cons, List.append_nil]
   rfl
 · simp -implicitDefEqProofs (disch := omega) only [Tryz.f104, go_sem, List.replicate, simprocAttr]
   have c1 := ctr64 s x
   have c2 := ctr68 s x
   have c3 := ctr237 x
   cases h1 : opAt s x with
   | some o =>
     rw [h1] at c1
     (repeat' (first | refine gT ?_ ?_ | refine gF ?_ ?_ | refine gC ?_ ?_ | ((refine c_ctrE (c1) ?_ ?_; (focus (simp -implicitDefEqProofs (disch := omega) only [optR, avs, avb, avi, avo, sigCells, opCells, pairCells, elT, avt, termCells_eq, go_sem, simprocAttr]; done))); simp -implicitDefEqProofs (disch := omega) only [optR, go_sem, simprocAttr]) | refine And.intro (by omega) ?_ | (intro hr; have hc := hr; (try simp only [zda, zdb, zdc, zdd] at hc); simp -implicitDefEqProofs (disch := omega) only [hr, optR, go_sem, simprocAttr]; (try clear hr))))
     exact fin_called (by simp only [called, h1])
   | none =>
   rw [h1] at c1
   cases h2 : funAt s x with
   | some o =>
     rw [h2] at c2
     (repeat' (first | refine gT ?_ ?_ | refine gF ?_ ?_ | refine gC ?_ ?_ | ((first | (refine c_ctrE (c1) ?_ ?_; (focus (simp -implicitDefEqProofs (disch := omega) only [optR, avs, avb, avi, avo, sigCells, opCells, pairCells, elT, avt, termCells_eq, go_sem, simprocAttr]; done))) | (refine c_ctrE (c2) ?_ ?_; (focus (simp -implicitDefEqProofs (disch := omega) only [optR, avs, avb, avi, avo, sigCells, opCells, pairCells, elT, avt, termCells_eq, go_sem, simprocAttr]; done)))); simp -implicitDefEqProofs (disch := omega) only [optR, go_sem, simprocAttr]) | refine And.intro (by omega) ?_ | (intro hr; have hc := hr; (try simp only [zda, zdb, zdc, zdd] at hc); simp -implicitDefEqProofs (disch := omega) only [hr, optR, go_sem, simprocAttr]; (try clear hr))))
     exact fin_called (by simp only [called, h1, h2])
   | none =>
   rw [h2] at c2
   cases h3 : builtOp x with
   | some o =>
     rw [h3] at c3
     (repeat' (first | refine gT ?_ ?_ | refine gF ?_ ?_ | refine gC ?_ ?_ | ((first | (refine c_ctrE (c1) ?_ ?_; (focus (simp -implicitDefEqProofs (disch := omega) only [optR, avs, avb, avi, avo, sigCells, opCells, pairCells, elT, avt, termCells_eq, go_sem, simprocAttr]; done))) | (refine c_ctrE (c2) ?_ ?_; (focus (simp -implicitDefEqProofs (disch := omega) only [optR, avs, avb, avi, avo, sigCells, opCells, pairCells, elT, avt, termCells_eq, go_sem, simprocAttr]; done))) | (refine c_ctrE (c3) ?_ ?_; (focus (simp -implicitDefEqProofs (disch := omega) only [optR, avs, avb, avi, avo, sigCells, opCells, pairCells, elT, avt, termCells_eq, go_sem, simprocAttr]; done)))); simp -implicitDefEqProofs (disch := omega) only [optR, go_sem, simprocAttr]) | refine And.intro (by omega) ?_ | (intro hr; have hc := hr; (try simp only [zda, zdb, zdc, zdd] at hc); simp -implicitDefEqProofs (disch := omega) only [hr, optR, go_sem, simprocAttr]; (try clear hr))))
     exact fin_called (by simp only [called, h1, h2, h3])
   | none =>
     rw [h3] at c3
     (repeat' (first | refine gT ?_ ?_ | refine gF ?_ ?_ | refine gC ?_ ?_ | ((first | (refine c_ctrE (c1) ?_ ?_; (focus (simp -implicitDefEqProofs (disch := omega) only [optR, avs, avb, avi, avo, sigCells, opCells, pairCells, elT, avt, termCells_eq, go_sem, simprocAttr]; done))) | (refine c_ctrE (c2) ?_ ?_; (focus (simp -implicitDefEqProofs (disch := omega) only [optR, avs, avb, avi, avo, sigCells, opCells, pairCells, elT, avt, termCells_eq, go_sem, simprocAttr]; done))) | (refine c_ctrE (c3) ?_ ?_; (focus (simp -implicitDefEqProofs (disch := omega) only [optR, avs, avb, avi, avo, sigCells, opCells, pairCells, elT, avt, termCells_eq, go_sem, simprocAttr]; done)))); simp -implicitDefEqProofs (disch := omega) only [optR, go_sem, simprocAttr]) | refine And.intro (by omega) ?_ | (intro hr; have hc := hr; (try simp only [zda, zdb, zdc, zdd] at hc); simp -implicitDefEqProofs (disch := omega) only [hr, optR, go_sem, simprocAttr]; (try clear hr))))
     exact fin_called (by simp only [called, h1, h2, h3])
def sortP (s : LSig) (t : LTerm) : Str := if t.kind = 1 then intS else if t.kind = 2 then boolS else if t.kind = 3 then textS else if t.kind = 4 then idS else if t.kind = 7 then listS else if t.kind = 8 then mapS else if t.kind = 5 then (called s t.text).1.sort else if existsA s t.sort then t.sort else []
theorem ctr244 (s : LSig) (t : LTerm): CT 60 [bookAV s, elT t] (.s (sortP s t)) := by
 refine sem_intro (rx := false) (th := fun _ => none) mixed Tryz.func60 rfl (by kernel_rfl) (by kernel_rfl) (ac := ?_) ?_ g0 ?_
 rotate_left
 · simp only [strip, splitQ, stripOps, stripOp, hoist, List.filter_cons, List.filter_nil, List.nil_append, List.cons_append, isFree, anyPre, Region.binds, Bool.not_true, Bool.not_false, Bool.false_eq_true, if_true, if_false, Option.isNone_none, Option.isNone_some, Bool.true_and, Bool.false_and, List.map_nil, List.map_cons, List.isEmpty_nil, List.isEmpty_cons, List.append_nil]
   rfl
 · simp -implicitDefEqProofs (disch := omega) only [Tryz.f60, go_sem, List.replicate, simprocAttr]
   (repeat' (first | refine gT ?_ ?_ | refine gF ?_ ?_ | refine gC ?_ ?_ | ((first | (refine c_ctrE (ctr261 s t.text) ?_ ?_; (focus (simp -implicitDefEqProofs (disch := omega) only [avs, avb, avi, avo, sigCells, opCells, pairCells, elT, avt, termCells_eq, go_sem, simprocAttr]; done))) | (refine c_ctrE (ctr54 s t.sort) ?_ ?_; (focus (simp -implicitDefEqProofs (disch := omega) only [avs, avb, avi, avo, sigCells, opCells, pairCells, elT, avt, termCells_eq, go_sem, simprocAttr]; done)))); simp -implicitDefEqProofs (disch := omega) only [go_sem, simprocAttr]) | refine And.intro (by omega) ?_ | (intro hr; have hc := hr; (try simp only [zda, zdb, zdc, zdd] at hc); simp -implicitDefEqProofs (disch := omega) only [hr, go_sem, simprocAttr]; (try clear hr))))
   all_goals refine fin_eq (congrArg AV.s ?_) rfl
   all_goals simp only [sortP, *, if_true, if_false, Bool.false_eq_true, Int.reduceEq]
   all_goals rfl
theorem bool_em (b : Bool) : b = true ∨ b = false := by cases b <;> simp

theorem ctr285_1 (l m : List LTerm) (hl : l.length ≤ 1466015503701) (hm : m.length ≤ 1466015503701) (ih : ∀ a ∈ l, ∀ b ∈ m, CT 28 [elT a, elT b] (.b (decide (a = b)))): CT 66 [avt l, avt m, .fn 28 [] []] (.b (decide (l = m))) := by
 refine sem_intro (rx := false) (th := fun _ => none) mixed Tryz.func66 rfl (by kernel_rfl) (by kernel_rfl) (ac := ?_) ?_ g0 ?_
 rotate_left
 · simp only [strip, splitQ, stripOps, stripOp, hoist, List.filter_cons, List.filter_nil, List.nil_append, List.cons_append, isFree, anyPre, Region.binds, Bool.not_true, Bool.not_false, Bool.false_eq_true, if_true, if_false, Option.isNone_none, Option.isNone_some, Bool.true_and, Bool.false_and, List.map_nil, List.map_cons, List.isEmpty_nil, List.isEmpty_cons, List.append_nil]
   rfl
 · simp -implicitDefEqProofs (disch := omega) only [Tryz.f66, go_sem, List.replicate, ↓reduceIte, reduceAdd, reduceSub, reduceMul, reduceLeDiff, reduceLT, reduceEqDiff, reduceNeg, Nat.reduceBEq, avt]
   (repeat' (first | refine gT ?_ ?_ | refine gF ?_ ?_ | refine gC ?_ ?_ | refine And.intro (by omega) ?_ | (intro hr; have hc := hr; (try simp only [zda, zdb, zdc, zdd] at hc); simp -implicitDefEqProofs (disch := omega) only [hr, go_sem, ↓reduceIte, reduceAdd, reduceSub, reduceMul, reduceLeDiff, reduceLT, reduceEqDiff, reduceNeg, Nat.reduceBEq]; (try clear hr))))
   · refine fin_eq ?_ (by rfl)
     have : l ≠ m := fun h => by rw [h] at hc; exact hc rfl
     rw [zf this]
   refine x_loopG (fun (k : Nat) => [.k, .k, .k, .k, .k, .k, .j, .j, .j, .j, .k, .k, .k, .k, .k, .k, .k, .v (.i .i64 k), .j, .j, .j, .j, .j, .j, .j, .j, .j, .j, .j, .j, .j, .j]) (fun k => []) (fun k => k ≤ l.length ∧ ∀ j, j < k → l.getD j default = m.getD j default) (fun k => l.length - k) (0) _ ⟨Nat.zero_le _, fun j h => by omega⟩ rfl (by simp [Fits]) ?_
   rintro k g j ⟨hk, ha⟩
   have o : k < l.length → k < m.length → CT 28 [elT (l.getD k default), elT (m.getD k default)] (.b (decide (l.getD k default = m.getD k default))) := fun h h' => ih _ (mem_getD h) _ (mem_getD h')
   simp -implicitDefEqProofs (disch := omega) only [go_sem, ↓reduceIte, reduceAdd, reduceSub, reduceMul, reduceLeDiff, reduceLT, reduceEqDiff, reduceNeg, Nat.reduceBEq]
   (repeat' (first | refine gT ?_ ?_ | refine gF ?_ ?_ | refine gC ?_ ?_ | ((refine c_ctrE ((o (by omega) (by omega))) ?_ ?_; (focus (simp -implicitDefEqProofs (disch := omega) only [avs, avb, avi, avo, sigCells, opCells, pairCells, elT, avt, termCells_eq, go_sem, ↓reduceIte, reduceAdd, reduceSub, reduceMul, reduceLeDiff, reduceLT, reduceEqDiff, reduceNeg, Nat.reduceBEq]; done))); simp -implicitDefEqProofs (disch := omega) only [go_sem, ↓reduceIte, reduceAdd, reduceSub, reduceMul, reduceLeDiff, reduceLT, reduceEqDiff, reduceNeg, Nat.reduceBEq]) | refine And.intro (by omega) ?_ | (intro hr; have hc := hr; (try simp only [zda, zdb, zdc, zdd] at hc); simp -implicitDefEqProofs (disch := omega) only [hr, go_sem, ↓reduceIte, reduceAdd, reduceSub, reduceMul, reduceLeDiff, reduceLT, reduceEqDiff, reduceNeg, Nat.reduceBEq]; (try clear hr))))
   · refine fin_eq ?_ (by rfl)
     have : l ≠ m := fun h => by simp [h] at *
     rw [zf this]
   · exact ⟨k + 1, _, ⟨by omega, below_succ ha (by simpa using hc)⟩, by omega, rfl, by simp⟩
   · refine fin_eq ?_ (by rfl)
     have : l = m := eq_getD (d := default) (by omega) (fun j hj => ha j (by omega))
     rw [zt this]
def sameR (a b : LTerm) : Bool := decide (a.kind = b.kind) && decide (a.n = b.n) && decide (a.text = b.text) && decide (a.sort = b.sort) && decide (a.kids = b.kids) && decide (a.rest = b.rest)
theorem sameR_eq (a b : LTerm) : sameR a b = decide (a = b) := by
 rw [Bool.eq_iff_iff]; simp only [sameR, Bool.and_eq_true, decide_eq_true_eq, LTerm.ext_iff, and_assoc]
theorem ctr264_1 (a b : LTerm) (ha : OkT a) (hb : OkT b) (ihk : ∀ x ∈ a.kids, ∀ y ∈ b.kids, CT 28 [elT x, elT y] (.b (decide (x = y)))) (ihr : ∀ x ∈ a.rest, ∀ y ∈ b.rest, CT 28 [elT x, elT y] (.b (decide (x = y)))): CT 28 [elT a, elT b] (.b (decide (a = b))) := by
 refine sem_intro (rx := false) (th := fun _ => none) mixed Tryz.func28 rfl (by kernel_rfl) (by kernel_rfl) (ac := ?_) ?_ g0 ?_
 rotate_left
 · simp only [strip, splitQ, stripOps, stripOp, hoist, List.filter_cons, List.filter_nil, List.nil_append, List.cons_append, isFree, anyPre, Region.binds, Bool.not_true, Bool.not_false, Bool.false_eq_true, if_true, if_false, Option.isNone_none, Option.isNone_some, Bool.true_and, Bool.false_and, List.map_nil, List.map_cons, List.isEmpty_nil, List.isEmpty_cons, List.append_nil]
   rfl
 · simp -implicitDefEqProofs (disch := omega) only [Tryz.f28, go_sem, List.replicate, ↓reduceIte, reduceAdd, reduceSub, reduceMul, reduceLeDiff, reduceLT, reduceEqDiff, reduceNeg, Nat.reduceBEq]
   have h1 := ha.kids
   have h2 := ha.rest
   have h3 := hb.kids
   have h4 := hb.rest
   rw [← sameR_eq]
   (repeat' (first | refine gT ?_ ?_ | refine gF ?_ ?_ | refine gC ?_ ?_ | ((first | (refine c_ctrE (ctr285_1 a.kids b.kids h1 h3 ihk) ?_ ?_; (focus (simp -implicitDefEqProofs (disch := omega) only [avs, avb, avi, avo, sigCells, opCells, pairCells, elT, avt, termCells_eq, go_sem, ↓reduceIte, reduceAdd, reduceSub, reduceMul, reduceLeDiff, reduceLT, reduceEqDiff, reduceNeg, Nat.reduceBEq]; done))) | (refine c_ctrE (ctr285_1 a.rest b.rest h2 h4 ihr) ?_ ?_; (focus (simp -implicitDefEqProofs (disch := omega) only [avs, avb, avi, avo, sigCells, opCells, pairCells, elT, avt, termCells_eq, go_sem, ↓reduceIte, reduceAdd, reduceSub, reduceMul, reduceLeDiff, reduceLT, reduceEqDiff, reduceNeg, Nat.reduceBEq]; done)))); simp -implicitDefEqProofs (disch := omega) only [go_sem, ↓reduceIte, reduceAdd, reduceSub, reduceMul, reduceLeDiff, reduceLT, reduceEqDiff, reduceNeg, Nat.reduceBEq]) | refine And.intro (by omega) ?_ | (intro hr; have hc := hr; (try simp only [zda, zdb, zdc, zdd] at hc); simp -implicitDefEqProofs (disch := omega) only [hr, go_sem, ↓reduceIte, reduceAdd, reduceSub, reduceMul, reduceLeDiff, reduceLT, reduceEqDiff, reduceNeg, Nat.reduceBEq]; (try clear hr))))
   all_goals refine fin_eq ?_ rfl
   all_goals simp only [sameR, *, decide_true, decide_false, Bool.true_and, Bool.false_and, Bool.and_true, Bool.and_false]
theorem ctr264 (a : LTerm) : ∀ (b : LTerm), OkT a → OkT b → CT 28 [elT a, elT b] (.b (decide (a = b))) :=
 term_ind (Q := fun a => ∀ (b : LTerm), OkT a → OkT b → CT 28 [elT a, elT b] (.b (decide (a = b)))) (fun a hk hr b ha hb => ctr264_1 a b ha hb (fun x hx y hy => hk x hx y (ha.kid x hx) (hb.kid y hy)) (fun x hx y hy => hr x hx y (ha.rst x hx) (hb.rst y hy))) a

mutual
def ordP : LTerm → LTerm → Int
 | .mk k n t s ks rs, .mk k' n' t' s' ks' rs' =>
   if cmpN k k' = 0 then (if cmpN n n' = 0 then (if cmpT t t' = 0 then (if cmpT s s' = 0 then (if ordPL ks ks' = 0 then ordPL rs rs' else ordPL ks ks') else cmpT s s') else cmpT t t') else cmpN n n') else cmpN k k'
def ordPL : List LTerm → List LTerm → Int
 | [], [] => 0
 | [], _ :: _ => -1
 | _ :: _, [] => 1
 | a :: l, b :: m => if ordP a b = 0 then ordPL l m else ordP a b
end
mutual
def ordR : LTerm → LTerm → Int
 | .mk k n t s ks rs, .mk k' n' t' s' ks' rs' =>
   if cmpN k k' = 0 then (if k = 1 ∨ k = 2 then cmpN n n' else if k = 3 ∨ k = 4 then cmpT t t' else if k = 6 then (if cmpT t t' = 0 then cmpT s s' else cmpT t t') else if k = 5 then (if cmpT t t' = 0 then ordRL ks ks' else cmpT t t') else (if ordRL ks ks' = 0 then ordRL rs rs' else ordRL ks ks')) else cmpN k k'
def ordRL : List LTerm → List LTerm → Int
 | [], [] => 0
 | [], _ :: _ => -1
 | _ :: _, [] => 1
 | a :: l, b :: m => if ordR a b = 0 then ordRL l m else ordR a b
end
theorem ordP_eq (a b : LTerm) : ordP a b = if cmpN a.kind b.kind = 0 then (if cmpN a.n b.n = 0 then (if cmpT a.text b.text = 0 then (if cmpT a.sort b.sort = 0 then (if ordPL a.kids b.kids = 0 then ordPL a.rest b.rest else ordPL a.kids b.kids) else cmpT a.sort b.sort) else cmpT a.text b.text) else cmpN a.n b.n) else cmpN a.kind b.kind := by
 cases a; cases b; rw [ordP]; rfl
theorem ordR_eq (a b : LTerm) : ordR a b = if cmpN a.kind b.kind = 0 then (if a.kind = 1 ∨ a.kind = 2 then cmpN a.n b.n else if a.kind = 3 ∨ a.kind = 4 then cmpT a.text b.text else if a.kind = 6 then (if cmpT a.text b.text = 0 then cmpT a.sort b.sort else cmpT a.text b.text) else if a.kind = 5 then (if cmpT a.text b.text = 0 then ordRL a.kids b.kids else cmpT a.text b.text) else (if ordRL a.kids b.kids = 0 then ordRL a.rest b.rest else ordRL a.kids b.kids)) else cmpN a.kind b.kind := by
 cases a; cases b; rw [ordR]; rfl
theorem cmpN_lt {a b : Int} (h : a < b) : cmpN a b = -1 := if_pos h
theorem cmpN_gt {a b : Int} (h : b < a) : cmpN a b = 1 := by rw [cmpN, if_neg (by omega), if_pos h]
theorem cmpN_eq {a b : Int} (h : a = b) : cmpN a b = 0 := by rw [cmpN, if_neg (by omega), if_neg (by omega)]
theorem ordPL_at {l m : List LTerm} {k : Nat} (h : k < l.length) (h' : k < m.length) : ordPL (l.drop k) (m.drop k) = if ordP (l.getD k default) (m.getD k default) = 0 then ordPL (l.drop (k + 1)) (m.drop (k + 1)) else ordP (l.getD k default) (m.getD k default) := by
 rw [List.drop_eq_getElem_cons h, List.drop_eq_getElem_cons h', ordPL]; simp [List.getD, h, h']
theorem ordPL_end {l m : List LTerm} {k : Nat} (h : k = l.length ∨ k = m.length) (h1 : k ≤ l.length) (h2 : k ≤ m.length) : ordPL (l.drop k) (m.drop k) = cmpN l.length m.length := by
 by_cases h3 : k < l.length
 · rw [List.drop_eq_getElem_cons h3, List.drop_of_length_le (l := m) (by omega), ordPL, cmpN_gt (by omega)]
 · by_cases h4 : k < m.length
   · rw [List.drop_eq_getElem_cons h4, List.drop_of_length_le (l := l) (by omega), ordPL, cmpN_lt (by omega)]
   · rw [List.drop_of_length_le (l := l) (by omega), List.drop_of_length_le (l := m) (by omega), ordPL, cmpN_eq (by omega)]
theorem ctr284_1 (l m : List LTerm) (hl : l.length ≤ 1466015503701) (hm : m.length ≤ 1466015503701) (ih : ∀ a ∈ l, ∀ b ∈ m, CT 64 [elT a, elT b] (.i .i64 (ordP a b))): CT 127 [avt l, avt m, .fn 64 [] []] (.i .i64 (ordPL l m)) := by
 refine sem_intro (rx := false) (th := fun _ => none) mixed Tryz.func127 rfl (by kernel_rfl) (by kernel_rfl) (ac := ?_) ?_ g0 ?_
 rotate_left
 · simp only [strip, splitQ, stripOps, stripOp, hoist, List.filter_cons, List.filter_nil, List.nil_append, List.cons_append, isFree, anyPre, Region.binds, Bool.not_true, Bool.not_false, Bool.false_eq_true, if_true, if_false, Option.isNone_none, Option.isNone_some, Bool.true_and, Bool.false_and, List.map_nil, List.map_cons, List.isEmpty_nil, List.isEmpty_cons, List.append_nil]
   rfl
 · simp -implicitDefEqProofs (disch := omega) only [Tryz.f127, go_sem, List.replicate, simprocAttr, avt]
   refine x_loopG (fun (k : Nat) => [.k, .k, .k, .k, .k, .k, .j, .j, .j, .j, .j, .k, .k, .v (.i .i64 k), .j, .j, .j, .j, .j, .j, .j, .j, .j, .j, .j, .j, .j, .j, .j, .j, .j, .j, .j, .j, .k, .k, .k, .k, .k]) (fun k => []) (fun k => k ≤ l.length ∧ k ≤ m.length ∧ ordPL l m = ordPL (l.drop k) (m.drop k)) (fun k => l.length - k) (0) _ ⟨Nat.zero_le _, Nat.zero_le _, rfl⟩ rfl (by simp [Fits]) ?_
   rintro k g j ⟨hk, hk2, he⟩
   have o : k < l.length → k < m.length → CT 64 [elT (l.getD k default), elT (m.getD k default)] (.i .i64 (ordP (l.getD k default) (m.getD k default))) := fun h h' => ih _ (mem_getD h) _ (mem_getD h')
   simp -implicitDefEqProofs (disch := omega) only [go_sem, simprocAttr]
   (repeat' (first | refine gT ?_ ?_ | refine gF ?_ ?_ | refine gC ?_ ?_ | ((refine c_ctrE ((o (by omega) (by omega))) ?_ ?_; (focus (simp -implicitDefEqProofs (disch := omega) only [avs, avb, avi, avo, sigCells, opCells, pairCells, elT, avt, termCells_eq, go_sem, simprocAttr]; done))); simp -implicitDefEqProofs (disch := omega) only [go_sem, simprocAttr]) | refine And.intro (by omega) ?_ | (intro hr; have hc := hr; (try simp only [zda, zdb, zdc, zdd] at hc); simp -implicitDefEqProofs (disch := omega) only [hr, go_sem, simprocAttr]; (try clear hr))))
   · exact fin_eq (congrArg _ (by rw [he, ordPL_end (.inr (by omega)) hk hk2, cmpN_gt (by omega)])) rfl
   · exact fin_eq (congrArg _ (by rw [he, ordPL_at (by omega) (by omega), if_neg hc])) rfl
   · exact ⟨k + 1, _, ⟨by omega, by omega, by rw [he, ordPL_at (by omega) (by omega), if_pos hc]⟩, by omega, rfl, by simp⟩
   · exact fin_eq (congrArg _ (by rw [he, ordPL_end (.inl (by omega)) hk hk2, cmpN_lt (by omega)])) rfl
   · exact fin_eq (congrArg _ (by rw [he, ordPL_end (.inl (by omega)) hk hk2, cmpN_eq (by omega)])) rfl
theorem or_ord (a b : LTerm) : (if orI [cmpN a.kind b.kind, cmpN a.n b.n, cmpT a.text b.text, cmpT a.sort b.sort] = 0 then orI [ordPL a.kids b.kids, ordPL a.rest b.rest] else orI [cmpN a.kind b.kind, cmpN a.n b.n, cmpT a.text b.text, cmpT a.sort b.sort]) = ordP a b := by
 rw [ordP_eq]
 by_cases h1 : cmpN a.kind b.kind = 0 <;> by_cases h2 : cmpN a.n b.n = 0 <;> by_cases h3 : cmpT a.text b.text = 0 <;> by_cases h4 : cmpT a.sort b.sort = 0 <;> by_cases h5 : ordPL a.kids b.kids = 0 <;> by_cases h6 : ordPL a.rest b.rest = 0 <;> simp only [orI, h1, h2, h3, h4, h5, h6, if_true, if_false]
theorem ctr260_1 (a b : LTerm) (ha : OkT a) (hb : OkT b) (ihk : ∀ x ∈ a.kids, ∀ y ∈ b.kids, CT 64 [elT x, elT y] (.i .i64 (ordP x y))) (ihr : ∀ x ∈ a.rest, ∀ y ∈ b.rest, CT 64 [elT x, elT y] (.i .i64 (ordP x y))): CT 64 [elT a, elT b] (.i .i64 (ordP a b)) := by
 refine sem_intro (rx := false) (th := fun _ => none) mixed Tryz.func64 rfl (by kernel_rfl) (by kernel_rfl) (ac := ?_) ?_ g0 ?_
 rotate_left
 · simp only [strip, splitQ, stripOps, stripOp, hoist, List.filter_cons, List.filter_nil, List.nil_append, List.cons_append, isFree, anyPre, Region.binds, Bool.not_true, Bool.not_false, Bool.false_eq_true, if_true, if_false, Option.isNone_none, Option.isNone_some, Bool.true_and, Bool.false_and, List.map_nil, List.map_cons, List.isEmpty_nil, List.isEmpty_cons, List.append_nil]
   rfl
 · simp -implicitDefEqProofs (disch := omega) only [Tryz.f64, go_sem, List.replicate, simprocAttr]
   have e := ordP_eq a b
   (repeat' (first | refine gT ?_ ?_ | refine gF ?_ ?_ | refine gC ?_ ?_ | ((first | (refine c_ctrE (ctr281 a.kind b.kind) ?_ ?_; (focus (simp -implicitDefEqProofs (disch := omega) only [List.map_cons, List.map_nil, List.length_cons, List.length_nil, Nat.reduceAdd, avs, avb, avi, avo, sigCells, opCells, pairCells, elT, avt, termCells_eq, go_sem, simprocAttr]; done))) | (refine c_ctrE (ctr282 a.n b.n) ?_ ?_; (focus (simp -implicitDefEqProofs (disch := omega) only [List.map_cons, List.map_nil, List.length_cons, List.length_nil, Nat.reduceAdd, avs, avb, avi, avo, sigCells, opCells, pairCells, elT, avt, termCells_eq, go_sem, simprocAttr]; done))) | (refine c_ctrE (ctr283 a.text b.text) ?_ ?_; (focus (simp -implicitDefEqProofs (disch := omega) only [List.map_cons, List.map_nil, List.length_cons, List.length_nil, Nat.reduceAdd, avs, avb, avi, avo, sigCells, opCells, pairCells, elT, avt, termCells_eq, go_sem, simprocAttr]; done))) | (refine c_ctrE (ctr283 a.sort b.sort) ?_ ?_; (focus (simp -implicitDefEqProofs (disch := omega) only [List.map_cons, List.map_nil, List.length_cons, List.length_nil, Nat.reduceAdd, avs, avb, avi, avo, sigCells, opCells, pairCells, elT, avt, termCells_eq, go_sem, simprocAttr]; done))) | (refine c_ctrE (ctr280 [cmpN a.kind b.kind, cmpN a.n b.n, cmpT a.text b.text, cmpT a.sort b.sort] (by simp)) ?_ ?_; (focus (simp -implicitDefEqProofs (disch := omega) only [List.map_cons, List.map_nil, List.length_cons, List.length_nil, Nat.reduceAdd, avs, avb, avi, avo, sigCells, opCells, pairCells, elT, avt, termCells_eq, go_sem, simprocAttr]; done))) | (refine c_ctrE (ctr284_1 a.kids b.kids ha.kids hb.kids ihk) ?_ ?_; (focus (simp -implicitDefEqProofs (disch := omega) only [List.map_cons, List.map_nil, List.length_cons, List.length_nil, Nat.reduceAdd, avs, avb, avi, avo, sigCells, opCells, pairCells, elT, avt, termCells_eq, go_sem, simprocAttr]; done))) | (refine c_ctrE (ctr284_1 a.rest b.rest ha.rest hb.rest ihr) ?_ ?_; (focus (simp -implicitDefEqProofs (disch := omega) only [List.map_cons, List.map_nil, List.length_cons, List.length_nil, Nat.reduceAdd, avs, avb, avi, avo, sigCells, opCells, pairCells, elT, avt, termCells_eq, go_sem, simprocAttr]; done))) | (refine c_ctrE (ctr280 [ordPL a.kids b.kids, ordPL a.rest b.rest] (by simp)) ?_ ?_; (focus (simp -implicitDefEqProofs (disch := omega) only [List.map_cons, List.map_nil, List.length_cons, List.length_nil, Nat.reduceAdd, avs, avb, avi, avo, sigCells, opCells, pairCells, elT, avt, termCells_eq, go_sem, simprocAttr]; done)))); simp -implicitDefEqProofs (disch := omega) only [List.map_cons, List.map_nil, List.length_cons, List.length_nil, Nat.reduceAdd, go_sem, simprocAttr]) | refine And.intro (by omega) ?_ | (intro hr; have hc := hr; (try simp only [zda, zdb, zdc, zdd] at hc); simp -implicitDefEqProofs (disch := omega) only [hr, List.map_cons, List.map_nil, List.length_cons, List.length_nil, Nat.reduceAdd, go_sem, simprocAttr]; (try clear hr))))
   all_goals refine fin_eq (congrArg _ ?_) rfl
   · rw [← or_ord a b, if_neg hc]
   · rw [← or_ord a b, if_pos hc]
theorem ctr260 (a b : LTerm) (ha : OkT a) (hb : OkT b) : CT 64 [elT a, elT b] (.i .i64 (ordP a b)) :=
 term_ind (Q := fun a => ∀ (b : LTerm), OkT a → OkT b → CT 64 [elT a, elT b] (.i .i64 (ordP a b))) (fun a hk hr b ha hb => ctr260_1 a b ha hb (fun x hx y hy => hk x hx y (ha.kid x hx) (hb.kid y hy)) (fun x hx y hy => hr x hx y (ha.rst x hx) (hb.rst y hy))) a b ha hb

theorem name_us : isName [95] = false := by decide
theorem name_dol : isName [36] = false := by decide
theorem open_no {s : Str} (h : openS s = true) : isName s = false := by
 simp only [openS, Bool.or_eq_true, decide_eq_true_eq] at h
 rcases h with rfl | rfl <;> decide
theorem not_open (s : Str) : isName s = true → ¬ s = [95] ∧ ¬ s = [36] := by
 intro h
 constructor <;> (rintro rfl; revert h; decide)
theorem ctr279v (t : LTerm) (ht : OkT t) (h6 : t.kind = 6): CT 89 [elT t] (.b (nodeB t)) := by
 refine sem_intro (rx := true) (th := fun i => if i = 19 then some 1 else none) mixed Tryz.func89 rfl (by kernel_rfl) (by kernel_rfl) (ac := ?_) ?_ g0 ?_
 rotate_left
 · simp only [strip, splitQ, stripOps, stripOp, hoist, List.filter_cons, List.filter_nil, List.nil_append, List.cons_append, isFree, anyPre, Region.binds, Bool.not_true, Bool.not_false, Bool.false_eq_true, if_true, if_false, Option.isNone_none, Option.isNone_some, Bool.true_and, Bool.false_and, List.map_nil, List.map_cons, List.isEmpty_nil, List.isEmpty_cons, List.append_nil, ckOf, preIs, isMade, isApp, List.getElem?_toArray, List.getElem?_cons_zero, List.getElem?_cons_succ, Bool.or_false, Bool.or_true, Bool.true_or, Bool.false_or, beq_self_eq_true, Option.some_beq_some, Nat.reduceBEq, hasApp, lateOn, isStore, isRd, List.any_cons, List.any_nil, Bool.or_self, Bool.and_self, mode_gc, mode_text, ↓reduceIte, Nat.reduceEqDiff, Nat.reduceBEq, splitL]
   rfl
 · simp -implicitDefEqProofs (disch := omega) only [Tryz.f89, go_sem, List.replicate, simprocAttr]
   have no1 := not_open t.text
   (repeat' (first | refine gT ?_ ?_ | refine gF ?_ ?_ | refine gC ?_ ?_ | ((first | (refine c_ctrE (ctr41 t.text ht.text) ?_ ?_; (focus (simp -implicitDefEqProofs (disch := omega) only [h6, Int.reduceEq, decide_true, decide_false, avs, avb, avi, avo, sigCells, opCells, pairCells, elT, avt, termCells_eq, go_sem, simprocAttr]; done))) | (refine c_ctrE (ctr41 t.sort ht.sort) ?_ ?_; (focus (simp -implicitDefEqProofs (disch := omega) only [h6, Int.reduceEq, decide_true, decide_false, avs, avb, avi, avo, sigCells, opCells, pairCells, elT, avt, termCells_eq, go_sem, simprocAttr]; done)))); simp -implicitDefEqProofs (disch := omega) only [h6, Int.reduceEq, decide_true, decide_false, go_sem, simprocAttr]) | refine And.intro (by omega) ?_ | (intro hr; have hc := hr; (try simp only [zda, zdb, zdc, zdd] at hc); simp -implicitDefEqProofs (disch := omega) only [hr, h6, Int.reduceEq, decide_true, decide_false, go_sem, simprocAttr]; (try clear hr))))
   all_goals try simp only [castz, cast1, castLt8, castRem] at *
   all_goals refine fin_eq ?_ rfl
   all_goals (simp_all [nodeB, openS, zeroB, name_us, name_dol]; done)
theorem rest_shape {t : LTerm} {so : Str} (hs : isName so = true) (h1 : t.rest.length = 1) (h6 : (t.rest.getD 0 default).kind = 6) : (nodeB (t.rest.getD 0 default) && isName (t.rest.getD 0 default).text && decide ((t.rest.getD 0 default).sort = so)) = restB t so := by
 have h0 : t.rest.length ≠ 0 := by omega
 generalize hr : t.rest.getD 0 default = r at *
 have h3 : restB t so = (isName r.text && decide (r.sort = so) && zeroB r false true true false false) := by
   simp only [restB, hr, h1, h6, decide_true, Nat.one_ne_zero, decide_false, Bool.false_or, Bool.true_and]
 rw [h3]
 have h4 : nodeB r = (if openS r.text = true then decide (r.sort = anyN) && zeroB r false true true false false else isName r.text && isName r.sort && zeroB r false true true false false) := by
   simp only [nodeB, h6]; rfl
 rw [h4]
 cases ho : openS r.text with
 | true => rw [open_no ho]; simp
 | false =>
   by_cases hq : r.sort = so
   · rw [hq, hs]; cases isName r.text <;> cases zeroB r false true true false false <;> simp
   · simp [hq]
theorem ctr299 (t : LTerm) (so : Str) (ht : OkT t) (hso : isName so = true): CT 156 [elT t, .s so] (.b (restB t so)) := by
 refine sem_intro (rx := false) (th := fun _ => none) mixed Tryz.func156 rfl (by kernel_rfl) (by kernel_rfl) (ac := ?_) ?_ g0 ?_
 rotate_left
 · simp only [strip, splitQ, stripOps, stripOp, hoist, List.filter_cons, List.filter_nil, List.nil_append, List.cons_append, isFree, anyPre, Region.binds, Bool.not_true, Bool.not_false, Bool.false_eq_true, if_true, if_false, Option.isNone_none, Option.isNone_some, Bool.true_and, Bool.false_and, List.map_nil, List.map_cons, List.isEmpty_nil, List.isEmpty_cons, List.append_nil]
   rfl
 · simp -implicitDefEqProofs (disch := omega) only [Tryz.f156, go_sem, List.replicate, simprocAttr]
   have h1 : 0 < t.rest.length → OkT (t.rest.getD 0 default) := fun h => ht.rst _ (mem_getD h)
   have hA := fun a b => rest_shape (t := t) hso a b
   (repeat' (first | refine gT ?_ ?_ | refine gF ?_ ?_ | refine gC ?_ ?_ | ((first | (refine c_ctrE (ctr279v (t.rest.getD 0 default) (h1 (by omega)) (by assumption)) ?_ ?_; (focus (simp -implicitDefEqProofs (disch := omega) only [avs, avb, avi, avo, sigCells, opCells, pairCells, elT, avt, termCells_eq, go_sem, simprocAttr]; done))) | (refine c_ctrE (ctr41 (t.rest.getD 0 default).text (h1 (by omega)).text) ?_ ?_; (focus (simp -implicitDefEqProofs (disch := omega) only [avs, avb, avi, avo, sigCells, opCells, pairCells, elT, avt, termCells_eq, go_sem, simprocAttr]; done)))); simp -implicitDefEqProofs (disch := omega) only [go_sem, simprocAttr]) | refine And.intro (by omega) ?_ | (intro hr; have hc := hr; (try simp only [zda, zdb, zdc, zdd] at hc); simp -implicitDefEqProofs (disch := omega) only [hr, go_sem, simprocAttr]; (try clear hr))))
   all_goals try simp only [castz, cast1] at *
   all_goals refine fin_eq ?_ rfl
   all_goals first
     | (have e := hA (by assumption) (by assumption); clear hA; rw [← e]; clear e; simp_all only [decide_true, decide_false, Bool.true_or, Bool.false_or, Bool.true_and, Bool.false_and, Bool.and_false, Bool.and_true]; done)
     | (clear hA; simp_all only [restB, decide_true, decide_false, Bool.true_or, Bool.false_or, Bool.true_and, Bool.false_and, Bool.and_false, Bool.and_true, Nat.one_ne_zero]; done)
theorem nodeB_1 {t : LTerm} (h : t.kind = 1) : nodeB t = (isInt t.n && zeroB t true false false false false) := by simp only [nodeB, h]; rfl
theorem nodeB_2 {t : LTerm} (h : t.kind = 2) : nodeB t = ((decide (t.n = 0) || decide (t.n = 1)) && zeroB t true false false false false) := by simp only [nodeB, h]; rfl
theorem nodeB_3 {t : LTerm} (h : t.kind = 3) : nodeB t = (isText t.text && zeroB t false true false false false) := by simp only [nodeB, h]; rfl
theorem nodeB_4 {t : LTerm} (h : t.kind = 4) : nodeB t = (isId t.text && zeroB t false true false false false) := by simp only [nodeB, h]; rfl
theorem nodeB_5 {t : LTerm} (h : t.kind = 5) : nodeB t = (opName t.text && decide (t.kids.length ≤ 8) && zeroB t false true false true false) := by simp only [nodeB, h]; rfl
theorem nodeB_7 {t : LTerm} (h : t.kind = 7) : nodeB t = (restB t listS && zeroB t false false false true true) := by simp only [nodeB, h]; rfl
theorem nodeB_8 {t : LTerm} (h : t.kind = 8) : nodeB t = (restB t mapS && decide (t.kids.length % 2 = 0) && zeroB t false false false true true) := by simp only [nodeB, h]; rfl
theorem len0 {α : Type} {l : List α} : l.length = 0 ↔ l = [] := List.length_eq_zero_iff
theorem ctr279_1 (t : LTerm) (ht : OkT t) (hk : t.kind = 1): CT 89 [elT t] (.b (nodeB t)) := by
 refine sem_intro (rx := true) (th := fun i => if i = 19 then some 1 else none) mixed Tryz.func89 rfl (by kernel_rfl) (by kernel_rfl) (ac := ?_) ?_ g0 ?_
 rotate_left
 · simp only [strip, splitQ, stripOps, stripOp, hoist, List.filter_cons, List.filter_nil, List.nil_append, List.cons_append, isFree, anyPre, Region.binds, Bool.not_true, Bool.not_false, Bool.false_eq_true, if_true, if_false, Option.isNone_none, Option.isNone_some, Bool.true_and, Bool.false_and, List.map_nil, List.map_cons, List.isEmpty_nil, List.isEmpty_cons, List.append_nil, ckOf, preIs, isMade, isApp, List.getElem?_toArray, List.getElem?_cons_zero, List.getElem?_cons_succ, Bool.or_false, Bool.or_true, Bool.true_or, Bool.false_or, beq_self_eq_true, Option.some_beq_some, Nat.reduceBEq, hasApp, lateOn, isStore, isRd, List.any_cons, List.any_nil, Bool.or_self, Bool.and_self, mode_gc, mode_text, ↓reduceIte, Nat.reduceEqDiff, Nat.reduceBEq, splitL]
   rfl
 · simp -implicitDefEqProofs (disch := omega) only [Tryz.f89, go_sem, List.replicate, simprocAttr]
   (repeat' (first | refine gT ?_ ?_ | refine gF ?_ ?_ | refine gC ?_ ?_ | ((refine c_ctrE (ctr288 t.n) ?_ ?_; (focus (simp -implicitDefEqProofs (disch := omega) only [hk, Int.reduceEq, decide_true, decide_false, avs, avb, avi, avo, sigCells, opCells, pairCells, elT, avt, termCells_eq, go_sem, simprocAttr]; done))); simp -implicitDefEqProofs (disch := omega) only [hk, Int.reduceEq, decide_true, decide_false, go_sem, simprocAttr]) | refine And.intro (by omega) ?_ | (intro hr; have hc := hr; (try simp only [zda, zdb, zdc, zdd] at hc); simp -implicitDefEqProofs (disch := omega) only [hr, hk, Int.reduceEq, decide_true, decide_false, go_sem, simprocAttr]; (try clear hr))))
   all_goals try simp only [castz, cast1, castLt8, castRem, len0] at *
   all_goals refine fin_eq ?_ rfl
   all_goals rw [nodeB_1 hk]
   all_goals clear ht
   all_goals first
     | (simp_all only [zeroB, isInt, decide_true, decide_false, Bool.true_or, Bool.false_or, Bool.true_and, Bool.false_and, Bool.and_false, Bool.and_true, Bool.or_true, Bool.or_false, not_true_eq_false, not_false_eq_true]; done)
     | (simp_all [zeroB, isInt] <;> (intros; omega))
theorem ctr279_2 (t : LTerm) (ht : OkT t) (hk : t.kind = 2): CT 89 [elT t] (.b (nodeB t)) := by
 refine sem_intro (rx := true) (th := fun i => if i = 19 then some 1 else none) mixed Tryz.func89 rfl (by kernel_rfl) (by kernel_rfl) (ac := ?_) ?_ g0 ?_
 rotate_left
 · simp only [strip, splitQ, stripOps, stripOp, hoist, List.filter_cons, List.filter_nil, List.nil_append, List.cons_append, isFree, anyPre, Region.binds, Bool.not_true, Bool.not_false, Bool.false_eq_true, if_true, if_false, Option.isNone_none, Option.isNone_some, Bool.true_and, Bool.false_and, List.map_nil, List.map_cons, List.isEmpty_nil, List.isEmpty_cons, List.append_nil, ckOf, preIs, isMade, isApp, List.getElem?_toArray, List.getElem?_cons_zero, List.getElem?_cons_succ, Bool.or_false, Bool.or_true, Bool.true_or, Bool.false_or, beq_self_eq_true, Option.some_beq_some, Nat.reduceBEq, hasApp, lateOn, isStore, isRd, List.any_cons, List.any_nil, Bool.or_self, Bool.and_self, mode_gc, mode_text, ↓reduceIte, Nat.reduceEqDiff, Nat.reduceBEq, splitL]
   rfl
 · simp -implicitDefEqProofs (disch := omega) only [Tryz.f89, go_sem, List.replicate, simprocAttr]
   (repeat' (first | refine gT ?_ ?_ | refine gF ?_ ?_ | refine gC ?_ ?_ | ((refine c_ctrE (ctr288 t.n) ?_ ?_; (focus (simp -implicitDefEqProofs (disch := omega) only [hk, Int.reduceEq, decide_true, decide_false, avs, avb, avi, avo, sigCells, opCells, pairCells, elT, avt, termCells_eq, go_sem, simprocAttr]; done))); simp -implicitDefEqProofs (disch := omega) only [hk, Int.reduceEq, decide_true, decide_false, go_sem, simprocAttr]) | refine And.intro (by omega) ?_ | (intro hr; have hc := hr; (try simp only [zda, zdb, zdc, zdd] at hc); simp -implicitDefEqProofs (disch := omega) only [hr, hk, Int.reduceEq, decide_true, decide_false, go_sem, simprocAttr]; (try clear hr))))
   all_goals try simp only [castz, cast1, castLt8, castRem, len0] at *
   all_goals refine fin_eq ?_ rfl
   all_goals rw [nodeB_2 hk]
   all_goals clear ht
   all_goals first
     | (simp_all only [zeroB, isInt, decide_true, decide_false, Bool.true_or, Bool.false_or, Bool.true_and, Bool.false_and, Bool.and_false, Bool.and_true, Bool.or_true, Bool.or_false, not_true_eq_false, not_false_eq_true]; done)
     | (simp_all [zeroB, isInt] <;> (intros; omega))
theorem ctr279_3 (t : LTerm) (ht : OkT t) (hk : t.kind = 3): CT 89 [elT t] (.b (nodeB t)) := by
 refine sem_intro (rx := true) (th := fun i => if i = 19 then some 1 else none) mixed Tryz.func89 rfl (by kernel_rfl) (by kernel_rfl) (ac := ?_) ?_ g0 ?_
 rotate_left
 · simp only [strip, splitQ, stripOps, stripOp, hoist, List.filter_cons, List.filter_nil, List.nil_append, List.cons_append, isFree, anyPre, Region.binds, Bool.not_true, Bool.not_false, Bool.false_eq_true, if_true, if_false, Option.isNone_none, Option.isNone_some, Bool.true_and, Bool.false_and, List.map_nil, List.map_cons, List.isEmpty_nil, List.isEmpty_cons, List.append_nil, ckOf, preIs, isMade, isApp, List.getElem?_toArray, List.getElem?_cons_zero, List.getElem?_cons_succ, Bool.or_false, Bool.or_true, Bool.true_or, Bool.false_or, beq_self_eq_true, Option.some_beq_some, Nat.reduceBEq, hasApp, lateOn, isStore, isRd, List.any_cons, List.any_nil, Bool.or_self, Bool.and_self, mode_gc, mode_text, ↓reduceIte, Nat.reduceEqDiff, Nat.reduceBEq, splitL]
   rfl
 · simp -implicitDefEqProofs (disch := omega) only [Tryz.f89, go_sem, List.replicate, simprocAttr]
   (repeat' (first | refine gT ?_ ?_ | refine gF ?_ ?_ | refine gC ?_ ?_ | ((refine c_ctrE (ctr265 t.text ht.text) ?_ ?_; (focus (simp -implicitDefEqProofs (disch := omega) only [hk, Int.reduceEq, decide_true, decide_false, avs, avb, avi, avo, sigCells, opCells, pairCells, elT, avt, termCells_eq, go_sem, simprocAttr]; done))); simp -implicitDefEqProofs (disch := omega) only [hk, Int.reduceEq, decide_true, decide_false, go_sem, simprocAttr]) | refine And.intro (by omega) ?_ | (intro hr; have hc := hr; (try simp only [zda, zdb, zdc, zdd] at hc); simp -implicitDefEqProofs (disch := omega) only [hr, hk, Int.reduceEq, decide_true, decide_false, go_sem, simprocAttr]; (try clear hr))))
   all_goals try simp only [castz, cast1, castLt8, castRem, len0] at *
   all_goals refine fin_eq ?_ rfl
   all_goals rw [nodeB_3 hk]
   all_goals clear ht
   all_goals first
     | (simp_all only [zeroB, isInt, decide_true, decide_false, Bool.true_or, Bool.false_or, Bool.true_and, Bool.false_and, Bool.and_false, Bool.and_true, Bool.or_true, Bool.or_false, not_true_eq_false, not_false_eq_true]; done)
     | (simp_all [zeroB, isInt] <;> (intros; omega))
theorem ctr279_4 (t : LTerm) (ht : OkT t) (hk : t.kind = 4): CT 89 [elT t] (.b (nodeB t)) := by
 refine sem_intro (rx := true) (th := fun i => if i = 19 then some 1 else none) mixed Tryz.func89 rfl (by kernel_rfl) (by kernel_rfl) (ac := ?_) ?_ g0 ?_
 rotate_left
 · simp only [strip, splitQ, stripOps, stripOp, hoist, List.filter_cons, List.filter_nil, List.nil_append, List.cons_append, isFree, anyPre, Region.binds, Bool.not_true, Bool.not_false, Bool.false_eq_true, if_true, if_false, Option.isNone_none, Option.isNone_some, Bool.true_and, Bool.false_and, List.map_nil, List.map_cons, List.isEmpty_nil, List.isEmpty_cons, List.append_nil, ckOf, preIs, isMade, isApp, List.getElem?_toArray, List.getElem?_cons_zero, List.getElem?_cons_succ, Bool.or_false, Bool.or_true, Bool.true_or, Bool.false_or, beq_self_eq_true, Option.some_beq_some, Nat.reduceBEq, hasApp, lateOn, isStore, isRd, List.any_cons, List.any_nil, Bool.or_self, Bool.and_self, mode_gc, mode_text, ↓reduceIte, Nat.reduceEqDiff, Nat.reduceBEq, splitL]
   rfl
 · simp -implicitDefEqProofs (disch := omega) only [Tryz.f89, go_sem, List.replicate, simprocAttr]
   (repeat' (first | refine gT ?_ ?_ | refine gF ?_ ?_ | refine gC ?_ ?_ | ((refine c_ctrE (ctr297 t.text ht.text) ?_ ?_; (focus (simp -implicitDefEqProofs (disch := omega) only [hk, Int.reduceEq, decide_true, decide_false, avs, avb, avi, avo, sigCells, opCells, pairCells, elT, avt, termCells_eq, go_sem, simprocAttr]; done))); simp -implicitDefEqProofs (disch := omega) only [hk, Int.reduceEq, decide_true, decide_false, go_sem, simprocAttr]) | refine And.intro (by omega) ?_ | (intro hr; have hc := hr; (try simp only [zda, zdb, zdc, zdd] at hc); simp -implicitDefEqProofs (disch := omega) only [hr, hk, Int.reduceEq, decide_true, decide_false, go_sem, simprocAttr]; (try clear hr))))
   all_goals try simp only [castz, cast1, castLt8, castRem, len0] at *
   all_goals refine fin_eq ?_ rfl
   all_goals rw [nodeB_4 hk]
   all_goals clear ht
   all_goals first
     | (simp_all only [zeroB, isInt, decide_true, decide_false, Bool.true_or, Bool.false_or, Bool.true_and, Bool.false_and, Bool.and_false, Bool.and_true, Bool.or_true, Bool.or_false, not_true_eq_false, not_false_eq_true]; done)
     | (simp_all [zeroB, isInt] <;> (intros; omega))
theorem ctr279_5 (t : LTerm) (ht : OkT t) (hk : t.kind = 5): CT 89 [elT t] (.b (nodeB t)) := by
 refine sem_intro (rx := true) (th := fun i => if i = 19 then some 1 else none) mixed Tryz.func89 rfl (by kernel_rfl) (by kernel_rfl) (ac := ?_) ?_ g0 ?_
 rotate_left
 · simp only [strip, splitQ, stripOps, stripOp, hoist, List.filter_cons, List.filter_nil, List.nil_append, List.cons_append, isFree, anyPre, Region.binds, Bool.not_true, Bool.not_false, Bool.false_eq_true, if_true, if_false, Option.isNone_none, Option.isNone_some, Bool.true_and, Bool.false_and, List.map_nil, List.map_cons, List.isEmpty_nil, List.isEmpty_cons, List.append_nil, ckOf, preIs, isMade, isApp, List.getElem?_toArray, List.getElem?_cons_zero, List.getElem?_cons_succ, Bool.or_false, Bool.or_true, Bool.true_or, Bool.false_or, beq_self_eq_true, Option.some_beq_some, Nat.reduceBEq, hasApp, lateOn, isStore, isRd, List.any_cons, List.any_nil, Bool.or_self, Bool.and_self, mode_gc, mode_text, ↓reduceIte, Nat.reduceEqDiff, Nat.reduceBEq, splitL]
   rfl
 · simp -implicitDefEqProofs (disch := omega) only [Tryz.f89, go_sem, List.replicate, simprocAttr]
   (repeat' (first | refine gT ?_ ?_ | refine gF ?_ ?_ | refine gC ?_ ?_ | ((refine c_ctrE (ctr298 t.text ht.text) ?_ ?_; (focus (simp -implicitDefEqProofs (disch := omega) only [hk, Int.reduceEq, decide_true, decide_false, avs, avb, avi, avo, sigCells, opCells, pairCells, elT, avt, termCells_eq, go_sem, simprocAttr]; done))); simp -implicitDefEqProofs (disch := omega) only [hk, Int.reduceEq, decide_true, decide_false, go_sem, simprocAttr]) | refine And.intro (by omega) ?_ | (intro hr; have hc := hr; (try simp only [zda, zdb, zdc, zdd] at hc); simp -implicitDefEqProofs (disch := omega) only [hr, hk, Int.reduceEq, decide_true, decide_false, go_sem, simprocAttr]; (try clear hr))))
   all_goals try simp only [castz, cast1, castLt8, castRem, len0] at *
   all_goals refine fin_eq ?_ rfl
   all_goals rw [nodeB_5 hk]
   all_goals clear ht
   all_goals first
     | (simp_all only [zeroB, isInt, decide_true, decide_false, Bool.true_or, Bool.false_or, Bool.true_and, Bool.false_and, Bool.and_false, Bool.and_true, Bool.or_true, Bool.or_false, not_true_eq_false, not_false_eq_true]; done)
     | (simp_all [zeroB, isInt] <;> (intros; omega))
theorem ctr279_7 (t : LTerm) (ht : OkT t) (hk : t.kind = 7): CT 89 [elT t] (.b (nodeB t)) := by
 refine sem_intro (rx := true) (th := fun i => if i = 19 then some 1 else none) mixed Tryz.func89 rfl (by kernel_rfl) (by kernel_rfl) (ac := ?_) ?_ g0 ?_
 rotate_left
 · simp only [strip, splitQ, stripOps, stripOp, hoist, List.filter_cons, List.filter_nil, List.nil_append, List.cons_append, isFree, anyPre, Region.binds, Bool.not_true, Bool.not_false, Bool.false_eq_true, if_true, if_false, Option.isNone_none, Option.isNone_some, Bool.true_and, Bool.false_and, List.map_nil, List.map_cons, List.isEmpty_nil, List.isEmpty_cons, List.append_nil, ckOf, preIs, isMade, isApp, List.getElem?_toArray, List.getElem?_cons_zero, List.getElem?_cons_succ, Bool.or_false, Bool.or_true, Bool.true_or, Bool.false_or, beq_self_eq_true, Option.some_beq_some, Nat.reduceBEq, hasApp, lateOn, isStore, isRd, List.any_cons, List.any_nil, Bool.or_self, Bool.and_self, mode_gc, mode_text, ↓reduceIte, Nat.reduceEqDiff, Nat.reduceBEq, splitL]
   rfl
 · simp -implicitDefEqProofs (disch := omega) only [Tryz.f89, go_sem, List.replicate, simprocAttr]
   (repeat' (first | refine gT ?_ ?_ | refine gF ?_ ?_ | refine gC ?_ ?_ | ((refine c_ctrE (ctr299 t listS ht (by decide)) ?_ ?_; (focus (simp -implicitDefEqProofs (disch := omega) only [hk, Int.reduceEq, decide_true, decide_false, avs, avb, avi, avo, sigCells, opCells, pairCells, elT, avt, termCells_eq, go_sem, simprocAttr]; done))); simp -implicitDefEqProofs (disch := omega) only [hk, Int.reduceEq, decide_true, decide_false, go_sem, simprocAttr]) | refine And.intro (by omega) ?_ | (intro hr; have hc := hr; (try simp only [zda, zdb, zdc, zdd] at hc); simp -implicitDefEqProofs (disch := omega) only [hr, hk, Int.reduceEq, decide_true, decide_false, go_sem, simprocAttr]; (try clear hr))))
   all_goals try simp only [castz, cast1, castLt8, castRem, len0] at *
   all_goals refine fin_eq ?_ rfl
   all_goals rw [nodeB_7 hk]
   all_goals clear ht
   all_goals first
     | (simp_all only [zeroB, isInt, decide_true, decide_false, Bool.true_or, Bool.false_or, Bool.true_and, Bool.false_and, Bool.and_false, Bool.and_true, Bool.or_true, Bool.or_false, not_true_eq_false, not_false_eq_true]; done)
     | (simp_all [zeroB, isInt] <;> (intros; omega))
theorem ctr279_8 (t : LTerm) (ht : OkT t) (hk : t.kind = 8): CT 89 [elT t] (.b (nodeB t)) := by
 refine sem_intro (rx := true) (th := fun i => if i = 19 then some 1 else none) mixed Tryz.func89 rfl (by kernel_rfl) (by kernel_rfl) (ac := ?_) ?_ g0 ?_
 rotate_left
 · simp only [strip, splitQ, stripOps, stripOp, hoist, List.filter_cons, List.filter_nil, List.nil_append, List.cons_append, isFree, anyPre, Region.binds, Bool.not_true, Bool.not_false, Bool.false_eq_true, if_true, if_false, Option.isNone_none, Option.isNone_some, Bool.true_and, Bool.false_and, List.map_nil, List.map_cons, List.isEmpty_nil, List.isEmpty_cons, List.append_nil, ckOf, preIs, isMade, isApp, List.getElem?_toArray, List.getElem?_cons_zero, List.getElem?_cons_succ, Bool.or_false, Bool.or_true, Bool.true_or, Bool.false_or, beq_self_eq_true, Option.some_beq_some, Nat.reduceBEq, hasApp, lateOn, isStore, isRd, List.any_cons, List.any_nil, Bool.or_self, Bool.and_self, mode_gc, mode_text, ↓reduceIte, Nat.reduceEqDiff, Nat.reduceBEq, splitL]
   rfl
 · simp -implicitDefEqProofs (disch := omega) only [Tryz.f89, go_sem, List.replicate, simprocAttr]
   (repeat' (first | refine gT ?_ ?_ | refine gF ?_ ?_ | refine gC ?_ ?_ | ((refine c_ctrE (ctr299 t mapS ht (by decide)) ?_ ?_; (focus (simp -implicitDefEqProofs (disch := omega) only [hk, Int.reduceEq, decide_true, decide_false, avs, avb, avi, avo, sigCells, opCells, pairCells, elT, avt, termCells_eq, go_sem, simprocAttr]; done))); simp -implicitDefEqProofs (disch := omega) only [hk, Int.reduceEq, decide_true, decide_false, go_sem, simprocAttr]) | refine And.intro (by omega) ?_ | (intro hr; have hc := hr; (try simp only [zda, zdb, zdc, zdd] at hc); simp -implicitDefEqProofs (disch := omega) only [hr, hk, Int.reduceEq, decide_true, decide_false, go_sem, simprocAttr]; (try clear hr))))
   all_goals try simp only [castz, cast1, castLt8, castRem, len0] at *
   all_goals refine fin_eq ?_ rfl
   all_goals rw [nodeB_8 hk]
   all_goals clear ht
   all_goals first
     | (simp_all only [zeroB, isInt, decide_true, decide_false, Bool.true_or, Bool.false_or, Bool.true_and, Bool.false_and, Bool.and_false, Bool.and_true, Bool.or_true, Bool.or_false, not_true_eq_false, not_false_eq_true]; done)
     | (simp_all [zeroB, isInt] <;> (intros; omega))
theorem ctr279_0 (t : LTerm) (h1 : ¬ t.kind = 1) (h2 : ¬ t.kind = 2) (h3 : ¬ t.kind = 3) (h4 : ¬ t.kind = 4) (h5 : ¬ t.kind = 5) (h6 : ¬ t.kind = 6) (h7 : ¬ t.kind = 7) (h8 : ¬ t.kind = 8): CT 89 [elT t] (.b (nodeB t)) := by
 refine sem_intro (rx := true) (th := fun i => if i = 19 then some 1 else none) mixed Tryz.func89 rfl (by kernel_rfl) (by kernel_rfl) (ac := ?_) ?_ g0 ?_
 rotate_left
 · simp only [strip, splitQ, stripOps, stripOp, hoist, List.filter_cons, List.filter_nil, List.nil_append, List.cons_append, isFree, anyPre, Region.binds, Bool.not_true, Bool.not_false, Bool.false_eq_true, if_true, if_false, Option.isNone_none, Option.isNone_some, Bool.true_and, Bool.false_and, List.map_nil, List.map_cons, List.isEmpty_nil, List.isEmpty_cons, List.append_nil, ckOf, preIs, isMade, isApp, List.getElem?_toArray, List.getElem?_cons_zero, List.getElem?_cons_succ, Bool.or_false, Bool.or_true, Bool.true_or, Bool.false_or, beq_self_eq_true, Option.some_beq_some, Nat.reduceBEq, hasApp, lateOn, isStore, isRd, List.any_cons, List.any_nil, Bool.or_self, Bool.and_self, mode_gc, mode_text, ↓reduceIte, Nat.reduceEqDiff, Nat.reduceBEq, splitL]
   rfl
 · simp -implicitDefEqProofs (disch := omega) only [Tryz.f89, go_sem, List.replicate, simprocAttr]
   have hn : nodeB t = false := by simp only [nodeB, h1, h2, h3, h4, h5, h6, h7, h8, if_false]
   (repeat' (first | refine gT ?_ ?_ | refine gF ?_ ?_ | refine gC ?_ ?_ | refine And.intro (by omega) ?_ | (intro hr; have hc := hr; (try simp only [zda, zdb, zdc, zdd] at hc); simp -implicitDefEqProofs (disch := omega) only [hr, h1, h2, h3, h4, h5, h6, h7, h8, decide_true, decide_false, go_sem, simprocAttr]; (try clear hr))))
   all_goals exact fin_eq (by rw [hn]) rfl
theorem ctr279 (t : LTerm) (ht : OkT t) : CT 89 [elT t] (.b (nodeB t)) := by
 by_cases h1 : t.kind = 1
 · exact ctr279_1 t ht h1
 by_cases h2 : t.kind = 2
 · exact ctr279_2 t ht h2
 by_cases h3 : t.kind = 3
 · exact ctr279_3 t ht h3
 by_cases h4 : t.kind = 4
 · exact ctr279_4 t ht h4
 by_cases h5 : t.kind = 5
 · exact ctr279_5 t ht h5
 by_cases h6 : t.kind = 6
 · exact ctr279v t ht h6
 by_cases h7 : t.kind = 7
 · exact ctr279_7 t ht h7
 by_cases h8 : t.kind = 8
 · exact ctr279_8 t ht h8
 exact ctr279_0 t h1 h2 h3 h4 h5 h6 h7 h8

theorem lookT_eq (p : LTerm → Bool) (t : LTerm) (d m : Int) : lookT p t d m = if (decide (d ≤ 60) && decide (m + 1 ≤ 2000) && p t) = true then (if (lookL p t.kids (d + 1) (m + 1)).2 = true then ((lookL p t.kids (d + 1) (m + 1)).1 + t.rest.length, decide (t.rest.length = 0) || (decide (d < 60) && decide ((lookL p t.kids (d + 1) (m + 1)).1 + t.rest.length ≤ 2000))) else ((lookL p t.kids (d + 1) (m + 1)).1, false)) else (m + 1, false) := by
 cases t; rw [lookT]; rfl
theorem lookL_at {p : LTerm → Bool} {l : List LTerm} {k : Nat} {d m : Int} (h : k < l.length) : lookL p (l.drop k) d m = if (lookT p (l.getD k default) d m).2 = true then lookL p (l.drop (k + 1)) d (lookT p (l.getD k default) d m).1 else ((lookT p (l.getD k default) d m).1, false) := by
 rw [List.drop_eq_getElem_cons h, lookL]; simp [List.getD, h]
theorem lookT_le {p : LTerm → Bool} {t : LTerm} {d m : Int} (hp : ∀ t, p t = true → t.rest.length ≤ 1) (hm : 0 ≤ m) (h : (lookT p t d m).2 = true) : 0 ≤ (lookT p t d m).1 ∧ (lookT p t d m).1 ≤ 2000 := by
 have s := lookT_spec hp t d m
 rw [s.2 h]
 have := s.1.1 h
 omega
theorem look_no {p : LTerm → Bool} {t : LTerm} {d m : Int} (h : (decide (d ≤ 60) && decide (m + 1 ≤ 2000) && p t) = false) : lookT p t d m = (m + 1, false) := by
 rw [lookT_eq, if_neg (by rw [h]; simp)]
abbrev LookK (t : LTerm) (d m : Int) : AV → List AObj → Prop := fun r h' => r = .tup [] ∧ ∃ g, h' = .box false [.i .i64 (lookT nodeB t d m).1, .b (lookT nodeB t d m).2] :: g
theorem look_fin {t : LTerm} {d m a : Int} {b : Bool} {h g : List AObj} (e : lookT nodeB t d m = (a, b)) (hh : h = .box false [.i .i64 a, .b b] :: g) : LookK t d m (.tup []) h := ⟨rfl, g, by rw [e]; exact hh⟩
def restOk (d m : Int) (j : Nat) : Bool := decide (j = 0) || (decide (d < 60) && decide (m + j ≤ 2000))
@[simp] theorem restOk_0 {d m : Int} : restOk d m 0 = true := by simp [restOk]
theorem restOk_succ {d m : Int} {j : Nat} : restOk d m (j + 1) = (restOk d m j && decide (d < 60) && decide (m + j + 1 ≤ 2000)) := by
 rw [Bool.eq_iff_iff]
 simp only [restOk, Bool.or_eq_true, Bool.and_eq_true, decide_eq_true_eq]
 omega
theorem look1 (t : LTerm) (d m : Int) (ht : OkT t) (hm0 : 0 ≤ m) (hm : m ≤ 2000) (hd0 : 0 ≤ d) (hd : d ≤ 100) (ih : ∀ k ∈ t.kids, ∀ (d m : Int), 0 ≤ m → m ≤ 2000 → 0 ≤ d → d ≤ 100 → ACalls Tryz.prog G0 51 [.ptr 0 0, elT k, .i .i64 d] [.box false [.i .i64 m, .b true]] (LookK k d m)): ACalls Tryz.prog G0 51 [.ptr 0 0, elT t, .i .i64 d] [.box false [.i .i64 m, .b true]] (LookK t d m) := by
 refine acalls_intro (rx := false) (th := fun _ => none) mixed Tryz.func51 rfl (by kernel_rfl) (by kernel_rfl) (ac := ?_) ?_ ?_
 rotate_left
 · simp only [strip, splitQ, stripOps, stripOp, hoist, List.filter_cons, List.filter_nil, List.nil_append, List.cons_append, isFree, anyPre, Region.binds, Bool.not_true, Bool.not_false, Bool.false_eq_true, if_true, if_false, Option.isNone_none, Option.isNone_some, Bool.true_and, Bool.false_and, List.map_nil, List.map_cons, List.isEmpty_nil, List.isEmpty_cons, List.append_nil]
   rfl
 · simp -implicitDefEqProofs (disch := omega) only [Tryz.f51, go_sem, List.replicate, simprocAttr]
   have hk1 := ht.kids
   have hr1 := ht.rest
   have c := ctr279 t ht
   cases hnb : nodeB t with
   | false =>
     rw [hnb] at c
     (repeat' (first | refine gT ?_ ?_ | refine gF ?_ ?_ | refine gC ?_ ?_ | ((refine c_ctrE (c) ?_ ?_; (focus (simp -implicitDefEqProofs (disch := omega) only [avs, avb, avi, avo, sigCells, opCells, pairCells, elT, avt, termCells_eq, go_sem, simprocAttr]; done))); simp -implicitDefEqProofs (disch := omega) only [go_sem, simprocAttr]) | refine And.intro (by omega) ?_ | (intro hr; have hc := hr; (try simp only [zda, zdb, zdc, zdd] at hc); simp -implicitDefEqProofs (disch := omega) only [hr, go_sem, simprocAttr]; (try clear hr))))
     all_goals exact look_fin (look_no (by simp only [hnb, Bool.and_false])) rfl
   | true =>
   rw [hnb] at c
   (repeat' (first | refine gT ?_ ?_ | refine gF ?_ ?_ | refine gC ?_ ?_ | ((refine c_ctrE (c) ?_ ?_; (focus (simp -implicitDefEqProofs (disch := omega) only [avs, avb, avi, avo, sigCells, opCells, pairCells, elT, avt, termCells_eq, go_sem, simprocAttr]; done))); simp -implicitDefEqProofs (disch := omega) only [go_sem, simprocAttr]) | refine And.intro (by omega) ?_ | (intro hr; have hc := hr; (try simp only [zda, zdb, zdc, zdd] at hc); simp -implicitDefEqProofs (disch := omega) only [hr, go_sem, simprocAttr]; (try clear hr))))
   rotate_left
   · exact look_fin (look_no (by simp only [*, decide_true, decide_false, Bool.false_and, Bool.and_false, Bool.true_and])) rfl
   · exact look_fin (look_no (by simp only [*, decide_true, decide_false, Bool.false_and, Bool.and_false, Bool.true_and])) rfl
   have hif : lookT nodeB t d m = _ := lookT_eq nodeB t d m
   rw [if_pos (by simp only [*, decide_true, Bool.and_self])] at hif
   refine x_loopG (fun (s : Nat × Int) => [.k, .k, .k, .k, .k, .k, .k, .j, .k, .k, .k, .k, .k, .k, .k, .k, .k, .k, .k, .k, .k, .k, .k, .k, .k, .k, .k, .k, .k, .k, .k, .k, .k, .k, .k, .k, .k, .k, .k, .k, .k, .k, .k, .k, .k, .v (.i .i64 (s.1 : Nat)), .j, .j, .j, .j, .j, .j, .j, .j, .j, .j, .j, .j, .j, .j, .k, .k, .k, .k, .k, .k, .k, .k, .k, .k, .k, .k, .k, .k, .k, .k, .k, .k, .k, .k, .k, .k, .k, .k, .k, .k, .k, .k, .k, .k, .k]) (fun s => [.box false [.i .i64 s.2, .b true], .box false [.i .i64 (t).kind, .i .i64 (t).n, .s (t).text, .s (t).sort, .sl ((t).kids.flatMap termCells) (t).kids.length, .sl ((t).rest.flatMap termCells) (t).rest.length]]) (fun s => s.1 ≤ t.kids.length ∧ lookL nodeB t.kids (d + 1) (m + 1) = lookL nodeB (t.kids.drop s.1) (d + 1) s.2 ∧ 0 ≤ s.2 ∧ s.2 ≤ 2000) (fun s => t.kids.length - s.1) ((0, m + 1)) _ ⟨Nat.zero_le _, rfl, by dsimp only; omega, by dsimp only; omega⟩ rfl (by simp [Fits]) ?_
   rintro ⟨k, m2⟩ g j ⟨hk, hL, hm20, hm2⟩
   dsimp only at hk hL hm20 hm2
   simp -implicitDefEqProofs (disch := omega) only [go_sem, simprocAttr]
   (repeat' (first | refine gT ?_ ?_ | refine gF ?_ ?_ | refine gC ?_ ?_ | refine And.intro (by omega) ?_ | (intro hr; have hc := hr; (try simp only [zda, zdb, zdc, zdd] at hc); simp -implicitDefEqProofs (disch := omega) only [hr, go_sem, simprocAttr]; (try clear hr))))
   · have hlt : k < t.kids.length := by omega
     rw [lookL_at hlt] at hL
     refine c_box 0 g0 (ih _ (mem_getD (d := default) hlt) (d + 1) m2 hm20 hm2 (by omega) (by omega)) rfl rfl rfl rfl ?_ ?_
     · simp only [renL, ren, elT, termCells_eq, avt, renL_pers _ _ persTs, emb_0]
     · intro g2
       simp -implicitDefEqProofs (disch := omega) only [go_sem, simprocAttr]
       (repeat' (first | refine gT ?_ ?_ | refine gF ?_ ?_ | refine gC ?_ ?_ | refine And.intro (by omega) ?_ | (intro hr; have hc := hr; (try simp only [zda, zdb, zdc, zdd] at hc); simp -implicitDefEqProofs (disch := omega) only [hr, go_sem, simprocAttr]; (try clear hr))))
       · rw [if_neg (by rw [show (lookT nodeB (t.kids.getD k default) (d + 1) m2).2 = false from hc]; simp)] at hL
         rw [hL, if_neg (by simp)] at hif
         rw [show (lookT nodeB (t.kids.getD k default) (d + 1) m2).2 = false from hc]
         exact look_fin hif rfl
       · have e : (lookT nodeB (t.kids.getD k default) (d + 1) m2).2 = true := hc
         rw [if_pos e] at hL
         have hle := lookT_le nodeB_rest hm20 e
         rw [e]
         exact ⟨(k + 1, (lookT nodeB (t.kids.getD k default) (d + 1) m2).1), _, ⟨by dsimp only; omega, hL, hle.1, hle.2⟩, by dsimp only; omega, rfl, by simp⟩
   · rw [List.drop_of_length_le (by omega), lookL] at hL
     rw [hL, if_pos rfl] at hif
     refine x_loopJ (fun (i : Nat) => [.k, .k, .k, .k, .k, .k, .k, .k, .k, .k, .k, .k, .k, .k, .k, .k, .k, .k, .k, .k, .k, .k, .k, .k, .k, .k, .k, .k, .k, .k, .k, .k, .k, .k, .k, .k, .k, .k, .k, .k, .k, .k, .k, .k, .k, .k, .k, .k, .k, .k, .k, .k, .k, .k, .k, .k, .k, .k, .k, .k, .k, .k, .k, .v (.i .i64 (i : Nat)), .j, .j, .j, .j, .j, .j, .j, .j, .j, .j, .j, .j, .j, .j, .j, .j, .j, .j, .j, .j, .j, .j, .j, .j, .j, .j, .j]) (fun i => .box false [.i .i64 (m2 + (i : Nat)), .b (restOk d m2 i)] :: .box false [.i .i64 (t).kind, .i .i64 (t).n, .s (t).text, .s (t).sort, .sl ((t).kids.flatMap termCells) (t).kids.length, .sl ((t).rest.flatMap termCells) (t).rest.length] :: g) (fun i => i ≤ t.rest.length) (fun i => t.rest.length - i) (0) (Nat.zero_le _) (by simp [avs, avb, avi, avo, opCells]) (by simp [Fits]) ?_
     rintro i j hi
     simp -implicitDefEqProofs (disch := omega) only [go_sem, simprocAttr]
     (repeat' (first | refine gT ?_ ?_ | refine gF ?_ ?_ | refine gC ?_ ?_ | refine And.intro (by omega) ?_ | (intro hr; have hc := hr; (try simp only [zda, zdb, zdc, zdd] at hc); simp -implicitDefEqProofs (disch := omega) only [hr, go_sem, simprocAttr]; (try clear hr))))
     · exact ⟨i + 1, by omega, by omega, by rw [restOk_succ, show restOk d m2 i = true by assumption, Int.natCast_succ, ← Int.add_assoc]; simp only [Bool.true_and, zt hc], by simp⟩
     · exact ⟨i + 1, by omega, by omega, by rw [restOk_succ, Int.natCast_succ, ← Int.add_assoc]; simp only [zf hc, Bool.and_false, Bool.false_and], by simp⟩
     · exact ⟨i + 1, by omega, by omega, by rw [restOk_succ, hc, Int.natCast_succ, ← Int.add_assoc]; simp only [Bool.false_and], by simp⟩
     · have e : i = t.rest.length := by omega
       exact look_fin hif (by rw [e]; rfl)
theorem look : ∀ (t : LTerm), OkT t → ∀ (d m : Int), 0 ≤ m → m ≤ 2000 → 0 ≤ d → d ≤ 100 → ACalls Tryz.prog G0 51 [.ptr 0 0, elT t, .i .i64 d] [.box false [.i .i64 m, .b true]] (LookK t d m) :=
 term_ind fun t hk _ ht d m h1 h2 h3 h4 => look1 t d m ht h1 h2 h3 h4 (fun k hmem d m a b c e => hk k hmem (ht.kid k hmem) d m a b c e)
theorem ctr242 (t : LTerm) (ht : OkT t): CT 16 [elT t] (.b (validT nodeB t)) := by
 refine sem_intro (rx := false) (th := fun _ => none) mixed Tryz.func16 rfl (by kernel_rfl) (by kernel_rfl) (ac := ?_) ?_ g0 ?_
 rotate_left
 · simp only [strip, splitQ, stripOps, stripOp, hoist, List.filter_cons, List.filter_nil, List.nil_append, List.cons_append, isFree, anyPre, Region.binds, Bool.not_true, Bool.not_false, Bool.false_eq_true, if_true, if_false, Option.isNone_none, Option.isNone_some, Bool.true_and, Bool.false_and, List.map_nil, List.map_cons, List.isEmpty_nil, List.isEmpty_cons, List.append_nil]
   rfl
 · simp -implicitDefEqProofs (disch := omega) only [Tryz.f16, go_sem, List.replicate, simprocAttr]
   (repeat' (first | refine gT ?_ ?_ | refine gF ?_ ?_ | refine gC ?_ ?_ | refine And.intro (by omega) ?_ | (intro hr; have hc := hr; (try simp only [zda, zdb, zdc, zdd] at hc); simp -implicitDefEqProofs (disch := omega) only [hr, go_sem, simprocAttr]; (try clear hr))))
   refine c_box 1 g0 (look t ht 1 0 (by decide) (by decide) (by decide) (by decide)) rfl rfl rfl rfl ?_ ?_
   · simp only [renL, ren, elT, termCells_eq, avt, renL_pers _ _ persTs, emb_0]
   · intro g2
     simp -implicitDefEqProofs (disch := omega) only [go_sem, simprocAttr]
     (repeat' (first | refine gT ?_ ?_ | refine gF ?_ ?_ | refine gC ?_ ?_ | refine And.intro (by omega) ?_ | (intro hr; have hc := hr; (try simp only [zda, zdb, zdc, zdd] at hc); simp -implicitDefEqProofs (disch := omega) only [hr, go_sem, simprocAttr]; (try clear hr))))
     exact fin_eq (by rw [look_valid nodeB_rest]) rfl

theorem formedT_eq (p : LTerm → Bool) (t : LTerm) (d m : Int) : formedT p t d m = if (decide (m - (1 + t.rest.length) < 0) || decide (d < 1) || (decide (0 < t.rest.length) && decide (d < 2)) || !p t) = true then (false, m - (1 + t.rest.length)) else formedL p t.kids (d - 1) (m - (1 + t.rest.length)) := by
 cases t; rw [formedT]; rfl
theorem formedL_at {p : LTerm → Bool} {l : List LTerm} {k : Nat} {d m : Int} (h : k < l.length) : formedL p (l.drop k) d m = if (formedT p (l.getD k default) d m).1 = true then formedL p (l.drop (k + 1)) d (formedT p (l.getD k default) d m).2 else (false, (formedT p (l.getD k default) d m).2) := by
 rw [List.drop_eq_getElem_cons h, formedL]; simp [List.getD, h]
theorem formedT_le {p : LTerm → Bool} {t : LTerm} {d m : Int} (hp : ∀ t, p t = true → t.rest.length ≤ 1) (hm : m ≤ 2000) (h : (formedT p t d m).1 = true) : 0 ≤ (formedT p t d m).2 ∧ (formedT p t d m).2 ≤ 2000 := by
 have s := formedT_spec hp t d m
 rw [s.2 h]
 have := s.1.1 h
 omega
abbrev FormedK (t : LTerm) (d m : Int) : AV → List AObj → Prop := fun r h' => r = .b (formedT nodeB t d m).1 ∧ ∃ g, h' = .box false [.i .i64 (formedT nodeB t d m).2] :: g
theorem formed_fin {t : LTerm} {d m a : Int} {b : Bool} {h g : List AObj} (e : formedT nodeB t d m = (b, a)) (hh : h = .box false [.i .i64 a] :: g) : FormedK t d m (.b b) h := ⟨by rw [e], g, by rw [e]; exact hh⟩
theorem formed1 (t : LTerm) (d m : Int) (ht : OkT t) (hm0 : 0 ≤ m) (hm : m ≤ 2000) (hd0 : 0 ≤ d) (hd : d ≤ 100) (ih : ∀ k ∈ t.kids, ∀ (d m : Int), 0 ≤ m → m ≤ 2000 → 0 ≤ d → d ≤ 100 → ACalls Tryz.prog G0 52 [elT k, .i .i64 d, .ptr 0 0] [.box false [.i .i64 m]] (FormedK k d m)): ACalls Tryz.prog G0 52 [elT t, .i .i64 d, .ptr 0 0] [.box false [.i .i64 m]] (FormedK t d m) := by
 refine acalls_intro (rx := false) (th := fun _ => none) mixed Tryz.func52 rfl (by kernel_rfl) (by kernel_rfl) (ac := ?_) ?_ ?_
 rotate_left
 · simp only [strip, splitQ, stripOps, stripOp, hoist, List.filter_cons, List.filter_nil, List.nil_append, List.cons_append, isFree, anyPre, Region.binds, Bool.not_true, Bool.not_false, Bool.false_eq_true, if_true, if_false, Option.isNone_none, Option.isNone_some, Bool.true_and, Bool.false_and, List.map_nil, List.map_cons, List.isEmpty_nil, List.isEmpty_cons, List.append_nil]
   rfl
 · simp -implicitDefEqProofs (disch := omega) only [Tryz.f52, go_sem, List.replicate, simprocAttr]
   have hk1 := ht.kids
   have hr1 := ht.rest
   have c := ctr289 t ht
   have e := formedT_eq nodeB t d m
   rw [show decide (0 < t.rest.length) = decide (0 < (t.rest.length : Int)) by simp] at e
   have w1 : IntKind.i64.wrap (1 + (t.rest.length : Int)) = 1 + t.rest.length := wrap64 (by omega) (by omega)
   have w2 : IntKind.i64.wrap (m - (1 + (t.rest.length : Int))) = m - (1 + t.rest.length) := wrap64 (by omega) (by omega)
   cases hnb : nodeB t with
   | false =>
     rw [hnb] at c
     rw [hnb, Bool.not_false, Bool.or_true, if_pos rfl] at e
     (repeat' (first | refine gT ?_ ?_ | refine gF ?_ ?_ | refine gC ?_ ?_ | ((refine c_ctrE (c) ?_ ?_; (focus (simp -implicitDefEqProofs (disch := omega) only [w1, w2, avs, avb, avi, avo, sigCells, opCells, pairCells, elT, avt, termCells_eq, go_sem, simprocAttr]; done))); simp -implicitDefEqProofs (disch := omega) only [w1, w2, go_sem, simprocAttr]) | refine And.intro (by omega) ?_ | (intro hr; have hc := hr; (try simp only [zda, zdb, zdc, zdd] at hc); simp -implicitDefEqProofs (disch := omega) only [hr, w1, w2, go_sem, simprocAttr]; (try clear hr))))
     all_goals first
       | exact formed_fin e rfl
       | (exfalso; simp only [w1, w2] at *; omega)
   | true =>
   rw [hnb] at c
   rw [hnb, Bool.not_true, Bool.or_false] at e
   (repeat' (first | refine gT ?_ ?_ | refine gF ?_ ?_ | refine gC ?_ ?_ | ((refine c_ctrE (c) ?_ ?_; (focus (simp -implicitDefEqProofs (disch := omega) only [w1, w2, avs, avb, avi, avo, sigCells, opCells, pairCells, elT, avt, termCells_eq, go_sem, simprocAttr]; done))); simp -implicitDefEqProofs (disch := omega) only [w1, w2, go_sem, simprocAttr]) | refine And.intro (by omega) ?_ | (intro hr; have hc := hr; (try simp only [zda, zdb, zdc, zdd] at hc); simp -implicitDefEqProofs (disch := omega) only [hr, w1, w2, go_sem, simprocAttr]; (try clear hr))))
   all_goals try (exfalso; simp only [w1, w2] at *; omega)
   all_goals try exact formed_fin (e.trans (if_pos (by simp only [*, decide_true, decide_false, Bool.true_or, Bool.or_true, Bool.false_or, Bool.true_and, Bool.false_and]))) rfl
   all_goals try exact formed_fin (e.trans (if_pos (by simp [*]))) rfl
   all_goals
     rw [if_neg (by simp only [*, decide_true, decide_false, Bool.true_or, Bool.or_true, Bool.or_false, Bool.false_or, Bool.true_and, Bool.false_and, Bool.false_eq_true, not_false_eq_true]; try omega)] at e
     refine x_loopG (fun (s : Nat × Int) => [.k, .k, .k, .k, .k, .k, .j, .k, .j, .k, .k, .k, .k, .k, .k, .k, .k, .k, .k, .k, .k, .k, .k, .k, .k, .k, .k, .k, .k, .k, .k, .k, .k, .k, .k, .k, .k, .k, .k, .k, .k, .k, .k, .k, .v (.i .i64 (s.1 : Nat)), .j, .j, .j, .j, .j, .j, .j, .j, .j, .j]) (fun s => [.box false [.i .i64 s.2], .box false [.i .i64 (t).kind, .i .i64 (t).n, .s (t).text, .s (t).sort, .sl ((t).kids.flatMap termCells) (t).kids.length, .sl ((t).rest.flatMap termCells) (t).rest.length]]) (fun s => s.1 ≤ t.kids.length ∧ formedL nodeB t.kids (d - 1) (m - (1 + t.rest.length)) = formedL nodeB (t.kids.drop s.1) (d - 1) s.2 ∧ 0 ≤ s.2 ∧ s.2 ≤ 2000) (fun s => t.kids.length - s.1) ((0, m - (1 + t.rest.length))) _ ⟨Nat.zero_le _, rfl, by dsimp only; omega, by dsimp only; omega⟩ rfl (by simp [Fits]) ?_
     rintro ⟨k, m2⟩ g j ⟨hk, hL, hm20, hm2⟩
     dsimp only at hk hL hm20 hm2
     simp -implicitDefEqProofs (disch := omega) only [go_sem, simprocAttr]
     (repeat' (first | refine gT ?_ ?_ | refine gF ?_ ?_ | refine gC ?_ ?_ | refine And.intro (by omega) ?_ | (intro hr; have hc := hr; (try simp only [zda, zdb, zdc, zdd] at hc); simp -implicitDefEqProofs (disch := omega) only [hr, go_sem, simprocAttr]; (try clear hr))))
     · have hlt : k < t.kids.length := by omega
       rw [formedL_at hlt] at hL
       refine c_box 0 g0 (ih _ (mem_getD (d := default) hlt) (d - 1) m2 hm20 hm2 (by omega) (by omega)) rfl rfl rfl rfl ?_ ?_
       · simp only [renL, ren, elT, termCells_eq, avt, renL_pers _ _ persTs, emb_0]
       · intro g2
         simp -implicitDefEqProofs (disch := omega) only [go_sem, simprocAttr]
         (repeat' (first | refine gT ?_ ?_ | refine gF ?_ ?_ | refine gC ?_ ?_ | refine And.intro (by omega) ?_ | (intro hr; have hc := hr; (try simp only [zda, zdb, zdc, zdd] at hc); simp -implicitDefEqProofs (disch := omega) only [hr, go_sem, simprocAttr]; (try clear hr))))
         · rw [if_neg (by rw [show (formedT nodeB (t.kids.getD k default) (d - 1) m2).1 = false by assumption]; simp)] at hL
           exact formed_fin (e.trans hL) rfl
         · rw [if_pos (show (formedT nodeB (t.kids.getD k default) (d - 1) m2).1 = true by assumption)] at hL
           have hle := formedT_le nodeB_rest hm2 (show (formedT nodeB (t.kids.getD k default) (d - 1) m2).1 = true by assumption)
           exact ⟨(k + 1, (formedT nodeB (t.kids.getD k default) (d - 1) m2).2), _, ⟨by dsimp only; omega, hL, hle.1, hle.2⟩, by dsimp only; omega, rfl, by simp⟩
     · rw [List.drop_of_length_le (by omega), formedL] at hL
       exact formed_fin (e.trans hL) rfl
theorem formed : ∀ (t : LTerm), OkT t → ∀ (d m : Int), 0 ≤ m → m ≤ 2000 → 0 ≤ d → d ≤ 100 → ACalls Tryz.prog G0 52 [elT t, .i .i64 d, .ptr 0 0] [.box false [.i .i64 m]] (FormedK t d m) :=
 term_ind fun t hk _ ht d m h1 h2 h3 h4 => formed1 t d m ht h1 h2 h3 h4 (fun k hmem d m a b c e => hk k hmem (ht.kid k hmem) d m a b c e)
theorem ctr252 (t : LTerm) (ht : OkT t): CT 17 [elT t] (.b (validT nodeB t)) := by
 refine sem_intro (rx := false) (th := fun _ => none) mixed Tryz.func17 rfl (by kernel_rfl) (by kernel_rfl) (ac := ?_) ?_ g0 ?_
 rotate_left
 · simp only [strip, splitQ, stripOps, stripOp, hoist, List.filter_cons, List.filter_nil, List.nil_append, List.cons_append, isFree, anyPre, Region.binds, Bool.not_true, Bool.not_false, Bool.false_eq_true, if_true, if_false, Option.isNone_none, Option.isNone_some, Bool.true_and, Bool.false_and, List.map_nil, List.map_cons, List.isEmpty_nil, List.isEmpty_cons, List.append_nil]
   rfl
 · simp -implicitDefEqProofs (disch := omega) only [Tryz.f17, go_sem, List.replicate, simprocAttr]
   (repeat' (first | refine gT ?_ ?_ | refine gF ?_ ?_ | refine gC ?_ ?_ | refine And.intro (by omega) ?_ | (intro hr; have hc := hr; (try simp only [zda, zdb, zdc, zdd] at hc); simp -implicitDefEqProofs (disch := omega) only [hr, go_sem, simprocAttr]; (try clear hr))))
   refine c_box 1 g0 (formed t ht 60 2000 (by decide) (by decide) (by decide) (by decide)) rfl rfl rfl rfl ?_ ?_
   · simp only [renL, ren, elT, termCells_eq, avt, renL_pers _ _ persTs, emb_0]
   · intro g2
     simp -implicitDefEqProofs (disch := omega) only [go_sem, simprocAttr]
     (repeat' (first | refine gT ?_ ?_ | refine gF ?_ ?_ | refine gC ?_ ?_ | refine And.intro (by omega) ?_ | (intro hr; have hc := hr; (try simp only [zda, zdb, zdc, zdd] at hc); simp -implicitDefEqProofs (disch := omega) only [hr, go_sem, simprocAttr]; (try clear hr))))
     exact fin_eq (by rw [formed_valid nodeB_rest]) rfl

def allN (n : Nat) (f : Nat → Bool) : Bool := (List.range n).all f
theorem allN_true {n : Nat} {f : Nat → Bool} (h : ∀ j, j < n → f j = true) : allN n f = true := by
 simp only [allN, List.all_eq_true, List.mem_range]; exact h
theorem allN_false {n : Nat} {f : Nat → Bool} (j : Nat) (hj : j < n) (h : f j = false) : allN n f = false := by
 rw [Bool.eq_false_iff]; intro e; simp only [allN, List.all_eq_true, List.mem_range] at e; rw [e j hj] at h; cases h
theorem all_true {l : List LTerm} {f : LTerm → Bool} (h : ∀ j, j < l.length → f (l.getD j default) = true) : l.all f = true := by
 rw [List.all_eq_true]; intro x hx; obtain ⟨j, hj, rfl⟩ := List.mem_iff_getElem.1 hx; have := h j hj; simpa [List.getD, hj] using this
theorem all_false {l : List LTerm} {f : LTerm → Bool} (j : Nat) (hj : j < l.length) (h : f (l.getD j default) = false) : l.all f = false := by
 rw [Bool.eq_false_iff]; intro e; rw [List.all_eq_true.1 e _ (mem_getD hj)] at h; cases h
def opFitP (s : LSig) (t : LTerm) : Bool := match opAt s t.text with
 | none => false
 | some o => decide (o.args.length = t.kids.length) && allN t.kids.length (fun i => atMost s (sortP s (t.kids.getD i default)) (o.args.getD i []))
def keyAt (f : LTerm → LTerm → Int) (t : LTerm) (i : Nat) : Bool := isKey (t.kids.getD (2 * i) default) && (decide (i = 0) || decide (f (t.kids.getD (2 * i - 2) default) (t.kids.getD (2 * i) default) < 0))
def keyFit (f : LTerm → LTerm → Int) (t : LTerm) : Bool := allN ((t.kids.length + 1) / 2) (keyAt f t)
section
variable {f : LTerm → LTerm → Int} {t : LTerm} {i : Nat}
theorem keyAt_key (h : isKey (t.kids.getD (2 * i) default) = false) : keyAt f t i = false := by rw [keyAt, h, Bool.false_and]
theorem keyAt_no (h : 0 < ((2 * i : Nat) : Int)) (h2 : 0 ≤ f (t.kids.getD (2 * i - 2) default) (t.kids.getD (2 * i) default)) : keyAt f t i = false := by
 rw [keyAt, zf (by omega : ¬ i = 0), zf (by omega : ¬ f (t.kids.getD (2 * i - 2) default) (t.kids.getD (2 * i) default) < 0), Bool.false_or, Bool.and_false]
theorem keyAt_yes (h : isKey (t.kids.getD (2 * i) default) = true) (h2 : ¬ 0 ≤ f (t.kids.getD (2 * i - 2) default) (t.kids.getD (2 * i) default)) : keyAt f t i = true := by
 rw [keyAt, h, zt (by omega : f (t.kids.getD (2 * i - 2) default) (t.kids.getD (2 * i) default) < 0), Bool.or_true]; rfl
theorem keyAt_0 (h : isKey (t.kids.getD (2 * i) default) = true) (h2 : ¬ 0 < ((2 * i : Nat) : Int)) : keyAt f t i = true := by
 rw [keyAt, h, zt (by omega : i = 0)]; rfl
end
mutual
def plainP (s : LSig) : LTerm → Bool
 | .mk k n x so ks rs => !decide (k = 6) && decide (rs = []) && plainPL s ks && (if k = 5 then opFitP s (.mk k n x so ks rs) else if k = 8 then keyFit ordP (.mk k n x so ks rs) else true)
def plainPL (s : LSig) : List LTerm → Bool
 | [] => true
 | k :: l => plainP s k && plainPL s l
end
theorem plainPL_eq {s : LSig} : ∀ l, plainPL s l = l.all (plainP s)
 | [] => rfl
 | k :: l => by rw [plainPL, plainPL_eq l]; rfl
theorem plainP_eq (s : LSig) (t : LTerm) : plainP s t = (!decide (t.kind = 6) && decide (t.rest = []) && t.kids.all (plainP s) && (if t.kind = 5 then opFitP s t else if t.kind = 8 then keyFit ordP t else true)) := by
 cases t; rw [plainP, plainPL_eq]; rfl
theorem ctr243_1 (s : LSig) (t : LTerm) (hs : Small s) (ht : OkT t) (ih : ∀ k ∈ t.kids, CT 114 [bookAV s, elT k] (.b (plainP s k))): CT 114 [bookAV s, elT t] (.b (plainP s t)) := by
 refine sem_intro (rx := false) (th := fun _ => none) mixed Tryz.func114 rfl (by kernel_rfl) (by kernel_rfl) (ac := ?_) ?_ g0 ?_
 rotate_left
 · simp only [strip, splitQ, stripOps, stripOp, hoist, List.filter_cons, List.filter_nil, List.nil_append, List.cons_append, isFree, anyPre, Region.binds, Bool.not_true, Bool.not_false, Bool.false_eq_true, if_true, if_false, Option.isNone_none, Option.isNone_some, Bool.true_and, Bool.false_and, List.map_nil, List.map_cons, List.isEmpty_nil, List.isEmpty_cons, List.append_nil]
   rfl
 · simp -implicitDefEqProofs (disch := omega) only [Tryz.f114, go_sem, List.replicate, simprocAttr]
   have e := plainP_eq s t
   have hk1 := ht.kids
   by_cases h6 : t.kind = 6
   · rw [zt h6, Bool.not_true, Bool.false_and, Bool.false_and, Bool.false_and] at e
     (repeat' (first | refine gT ?_ ?_ | refine gF ?_ ?_ | refine gC ?_ ?_ | refine And.intro (by omega) ?_ | (intro hr; have hc := hr; (try simp only [zda, zdb, zdc, zdd] at hc); simp -implicitDefEqProofs (disch := omega) only [hr, go_sem, simprocAttr]; (try clear hr))))
     all_goals first
       | exact fin_eq (by rw [e]) rfl
       | (exfalso; omega)
   by_cases hr : ¬ t.rest = []
   · rw [zf hr, Bool.and_false, Bool.false_and, Bool.false_and] at e
     have hr2 : ¬ t.rest.length = 0 := fun h => hr (List.length_eq_zero_iff.1 h)
     (repeat' (first | refine gT ?_ ?_ | refine gF ?_ ?_ | refine gC ?_ ?_ | refine And.intro (by omega) ?_ | (intro hr; have hc := hr; (try simp only [zda, zdb, zdc, zdd] at hc); simp -implicitDefEqProofs (disch := omega) only [hr, go_sem, simprocAttr]; (try clear hr))))
     all_goals first
       | exact fin_eq (by rw [e]) rfl
       | (exfalso; omega)
   have hr : t.rest = [] := Classical.not_not.1 hr
   have hr2 : t.rest.length = 0 := by rw [hr]; rfl
   rw [zf h6, zt hr, Bool.not_false, Bool.true_and, Bool.true_and] at e
   (repeat' (first | refine gT ?_ ?_ | refine gF ?_ ?_ | refine gC ?_ ?_ | refine And.intro (by omega) ?_ | (intro hr; have hc := hr; (try simp only [zda, zdb, zdc, zdd] at hc); simp -implicitDefEqProofs (disch := omega) only [hr, go_sem, simprocAttr]; (try clear hr))))
   · exfalso; omega
   refine x_loopG (fun (k : Nat) => [.k, .k, .k, .k, .j, .k, .j, .k, .k, .k, .k, .k, .k, .k, .k, .k, .k, .k, .k, .k, .k, .k, .k, .k, .v (.i .i64 (k : Nat)), .j, .j, .j, .j, .j, .j, .j, .j, .k, .k, .k, .k, .k, .k, .k, .k, .k, .k, .k, .k, .k, .k, .k, .k, .k, .k, .k, .k, .k, .k, .k, .k, .k, .k, .k, .k, .k, .k, .k, .k, .k, .k, .k, .k, .k, .k, .k, .k, .k, .k, .k, .k, .k, .k, .k, .k, .k, .k, .k, .k, .k, .k, .k, .k, .k, .k, .k, .k, .k, .k, .k, .k, .k, .k, .k, .k, .k, .k, .k, .k, .k, .k, .k, .k, .k]) (fun k => [.box false [.i .i64 (t).kind, .i .i64 (t).n, .s (t).text, .s (t).sort, .sl ((t).kids.flatMap termCells) (t).kids.length, .sl ((t).rest.flatMap termCells) (t).rest.length]]) (fun k => k ≤ t.kids.length ∧ ∀ j, j < k → plainP s (t.kids.getD j default) = true) (fun k => t.kids.length - k) (0) _ ⟨Nat.zero_le _, fun j h => by omega⟩ rfl (by simp [Fits]) ?_
   rintro k g j ⟨hk, ha⟩
   have o : k < t.kids.length → CT 114 [bookAV s, elT (t.kids.getD k default)] (.b (plainP s (t.kids.getD k default))) := fun h => ih _ (mem_getD h)
   simp -implicitDefEqProofs (disch := omega) only [go_sem, simprocAttr]
   (repeat' (first | refine gT ?_ ?_ | refine gF ?_ ?_ | refine gC ?_ ?_ | ((refine c_ctrE ((o (by omega))) ?_ ?_; (focus (simp -implicitDefEqProofs (disch := omega) only [avs, avb, avi, avo, sigCells, opCells, pairCells, elT, avt, termCells_eq, go_sem, simprocAttr]; done))); simp -implicitDefEqProofs (disch := omega) only [go_sem, simprocAttr]) | refine And.intro (by omega) ?_ | (intro hr; have hc := hr; (try simp only [zda, zdb, zdc, zdd] at hc); simp -implicitDefEqProofs (disch := omega) only [hr, go_sem, simprocAttr]; (try clear hr))))
   · exact fin_eq (by rw [e, all_false k (by omega) hc, Bool.false_and]) rfl
   · exact ⟨k + 1, _, ⟨by omega, below_succ ha hc⟩, by omega, rfl, by simp⟩
   · rw [all_true (fun j hj => ha j (by omega)), Bool.true_and, if_pos hc] at e
     have c1 := ctr64 s t.text
     cases h1 : opAt s t.text with
     | none =>
       rw [h1] at c1
       simp only [opFitP, h1] at e
       (repeat' (first | refine gT ?_ ?_ | refine gF ?_ ?_ | refine gC ?_ ?_ | ((refine c_ctrE (c1) ?_ ?_; (focus (simp -implicitDefEqProofs (disch := omega) only [optR, bookAV, avs, avb, avi, avo, sigCells, opCells, pairCells, elT, avt, termCells_eq, go_sem, simprocAttr]; done))); simp -implicitDefEqProofs (disch := omega) only [optR, bookAV, go_sem, simprocAttr]) | refine And.intro (by omega) ?_ | (intro hr; have hc := hr; (try simp only [zda, zdb, zdc, zdd] at hc); simp -implicitDefEqProofs (disch := omega) only [hr, optR, bookAV, go_sem, simprocAttr]; (try clear hr))))
       all_goals exact fin_eq (by rw [e]) rfl
     | some q =>
       rw [h1] at c1
       simp only [opFitP, h1] at e
       (repeat' (first | refine gT ?_ ?_ | refine gF ?_ ?_ | refine gC ?_ ?_ | ((refine c_ctrE (c1) ?_ ?_; (focus (simp -implicitDefEqProofs (disch := omega) only [optR, bookAV, avs, avb, avi, avo, sigCells, opCells, pairCells, elT, avt, termCells_eq, go_sem, simprocAttr]; done))); simp -implicitDefEqProofs (disch := omega) only [optR, bookAV, go_sem, simprocAttr]) | refine And.intro (by omega) ?_ | (intro hr; have hc := hr; (try simp only [zda, zdb, zdc, zdd] at hc); simp -implicitDefEqProofs (disch := omega) only [hr, optR, bookAV, go_sem, simprocAttr]; (try clear hr))))
       · have hn : ¬ q.args.length = t.kids.length := by omega
         rw [zf hn, Bool.false_and] at e
         exact fin_eq (by rw [e]) rfl
       have hn : q.args.length = t.kids.length := by omega
       rw [zt hn, Bool.true_and] at e
       refine x_loopG (fun (k : Nat) => [.k, .k, .k, .k, .j, .k, .k, .k, .k, .j, .j, .k, .k, .k, .k, .k, .k, .k, .k, .k, .k, .k, .k, .k, .k, .k, .k, .k, .k, .k, .k, .k, .k, .k, .k, .k, .k, .k, .k, .k, .k, .k, .k, .k, .k, .k, .k, .k, .k, .k, .k, .k, .k, .k, .k, .k, .k, .k, .v (.i .i64 (k : Nat)), .j, .j, .j, .j, .j, .j, .j, .j, .j, .j, .j, .j, .j, .j, .j, .j, .k, .k, .k, .k, .k, .k, .k, .k, .k, .k, .k, .k, .k, .k, .k, .k, .k, .k, .k, .k, .k, .k, .k, .k, .k, .k, .k, .k, .k, .k, .k, .k, .k, .k, .k]) (fun k => (.box false [.i .i64 (t).kind, .i .i64 (t).n, .s (t).text, .s (t).sort, .sl ((t).kids.flatMap termCells) (t).kids.length, .sl ((t).rest.flatMap termCells) (t).rest.length] :: (g ++ [.box false (opCells q)]))) (fun k => k ≤ t.kids.length ∧ ∀ j, j < k → atMost s (sortP s (t.kids.getD j default)) (q.args.getD j []) = true) (fun k => t.kids.length - k) (0) [] ⟨Nat.zero_le _, fun j h => by omega⟩ (by simp [avs, avb, avi, avo, opCells, sigCells]) (by simp [Fits]) ?_
       rintro kk g2 j2 ⟨hkk, ha2⟩
       simp -implicitDefEqProofs (disch := omega) only [go_sem, simprocAttr]
       (repeat' (first | refine gT ?_ ?_ | refine gF ?_ ?_ | refine gC ?_ ?_ | ((first | (refine c_ctrE (ctr244 s (t.kids.getD kk default)) ?_ ?_; (focus (simp -implicitDefEqProofs (disch := omega) only [avs, avb, avi, avo, sigCells, opCells, pairCells, elT, avt, termCells_eq, go_sem, simprocAttr]; done))) | (refine c_ctrE (ctr71 s (sortP s (t.kids.getD kk default)) (q.args.getD kk []) hs) ?_ ?_; (focus (simp -implicitDefEqProofs (disch := omega) only [avs, avb, avi, avo, sigCells, opCells, pairCells, elT, avt, termCells_eq, go_sem, simprocAttr]; done)))); simp -implicitDefEqProofs (disch := omega) only [go_sem, simprocAttr]) | refine And.intro (by omega) ?_ | (intro hr; have hc := hr; (try simp only [zda, zdb, zdc, zdd] at hc); simp -implicitDefEqProofs (disch := omega) only [hr, go_sem, simprocAttr]; (try clear hr))))
       · exact fin_eq (by rw [e, allN_false kk (by omega) hc]) rfl
       · exact ⟨kk + 1, _, ⟨by omega, below_succ ha2 hc⟩, by omega, rfl, by simp⟩
       · exact fin_eq (by rw [e, allN_true (fun j hj => ha2 j (by omega))]) rfl
   · rw [all_true (fun j hj => ha j (by omega)), Bool.true_and, if_neg (by assumption), if_pos hc] at e
     refine x_loopJ (fun (i : Nat) => [.k, .k, .k, .k, .j, .k, .k, .k, .k, .k, .k, .v (.i .i64 ((2 * i : Nat) : Int)), .k, .k, .k, .k, .k, .k, .k, .k, .k, .k, .k, .k, .k, .k, .k, .k, .k, .k, .k, .k, .k, .k, .k, .k, .k, .k, .k, .k, .k, .k, .k, .k, .k, .k, .k, .k, .k, .k, .k, .k, .k, .k, .k, .k, .k, .k, .k, .k, .k, .k, .k, .k, .k, .k, .k, .k, .k, .k, .k, .k, .k, .k, .k, .k, .k, .j, .j, .j, .j, .j, .j, .j, .j, .j, .j, .j, .j, .j, .j, .j, .j, .j, .j, .j, .j, .j, .j, .j, .j, .j, .j, .j, .j, .j, .j, .j, .j, .j]) (fun i => (.box false [.i .i64 (t).kind, .i .i64 (t).n, .s (t).text, .s (t).sort, .sl ((t).kids.flatMap termCells) (t).kids.length, .sl ((t).rest.flatMap termCells) (t).rest.length] :: g)) (fun i => 2 * i ≤ t.kids.length + 1 ∧ ∀ j, j < i → keyAt ordP t j = true) (fun i => t.kids.length + 1 - 2 * i) (0) ⟨Nat.zero_le _, fun j h => by omega⟩ rfl (by simp [Fits]) ?_
     rintro i j2 ⟨hi, ha2⟩
     have h0 : (((2 * i : Nat) : Int) - 2).toNat = 2 * i - 2 := by omega
     have o1 : 2 * i < t.kids.length → OkT (t.kids.getD (2 * i) default) := fun h => ht.kid _ (mem_getD h)
     have o2 : 2 * i < t.kids.length → OkT (t.kids.getD (2 * i - 2) default) := fun h => ht.kid _ (mem_getD (by omega))
     simp -implicitDefEqProofs (disch := omega) only [h0, go_sem, simprocAttr]
     (repeat' (first | refine gT ?_ ?_ | refine gF ?_ ?_ | refine gC ?_ ?_ | ((first | (refine c_ctrE (ctr259 (t.kids.getD (2 * i) default)) ?_ ?_; (focus (simp -implicitDefEqProofs (disch := omega) only [h0, avs, avb, avi, avo, sigCells, opCells, pairCells, elT, avt, termCells_eq, go_sem, simprocAttr]; done))) | (refine c_ctrE (ctr260 (t.kids.getD (2 * i - 2) default) (t.kids.getD (2 * i) default) (o2 (by omega)) (o1 (by omega))) ?_ ?_; (focus (simp -implicitDefEqProofs (disch := omega) only [h0, avs, avb, avi, avo, sigCells, opCells, pairCells, elT, avt, termCells_eq, go_sem, simprocAttr]; done)))); simp -implicitDefEqProofs (disch := omega) only [h0, go_sem, simprocAttr]) | refine And.intro (by omega) ?_ | (intro hr; have hc := hr; (try simp only [zda, zdb, zdc, zdd] at hc); simp -implicitDefEqProofs (disch := omega) only [hr, h0, go_sem, simprocAttr]; (try clear hr))))
     · exact fin_eq (by rw [e, keyFit, allN_false i (by omega) (keyAt_no (by assumption) hc)]) rfl
     · exact ⟨i + 1, ⟨by omega, below_succ ha2 (keyAt_yes (by assumption) hc)⟩, by omega, by rw [show ((2 * (i + 1) : Nat) : Int) = ((2 * i : Nat) : Int) + 2 by omega]⟩
     · exact ⟨i + 1, ⟨by omega, below_succ ha2 (keyAt_0 (by assumption) hc)⟩, by omega, by rw [show ((2 * (i + 1) : Nat) : Int) = ((2 * i : Nat) : Int) + 2 by omega]⟩
     · exact fin_eq (by rw [e, keyFit, allN_false i (by omega) (keyAt_key hc)]) rfl
     · exact fin_eq (by rw [e, keyFit, allN_true (fun j hj => ha2 j (by omega))]) rfl
   · rw [all_true (fun j hj => ha j (by omega)), Bool.true_and, if_neg (by assumption), if_neg (by assumption)] at e
     exact fin_eq (by rw [e]) rfl
   · exfalso; omega
theorem ctr243 (s : LSig) (hs : Small s) : ∀ (t : LTerm), OkT t → CT 114 [bookAV s, elT t] (.b (plainP s t)) :=
 term_ind fun t hk _ ht => ctr243_1 s t hs ht (fun k hm => hk k hm (ht.kid k hm))

theorem cmpN_zero {a b : Int} : cmpN a b = 0 ↔ a = b := by
 rw [cmpN]; split
 · omega
 · split <;> omega
theorem cmpT_zero {a b : Str} : cmpT a b = 0 ↔ a = b := by
 constructor
 · intro h
   by_cases h1 : a < b
   · rw [cmpT_lt h1] at h; cases h
   · by_cases h2 : a = b
     · exact h2
     · rw [cmpT_gt h1 h2] at h; cases h
 · exact cmpT_eq
structure ZN (t : LTerm) : Prop where
 a : t.kind = 1 ∨ t.kind = 2 → t.text = [] ∧ t.sort = [] ∧ t.kids = [] ∧ t.rest = []
 b : t.kind = 3 ∨ t.kind = 4 → t.n = 0 ∧ t.sort = [] ∧ t.kids = [] ∧ t.rest = []
 c : t.kind = 5 → t.n = 0 ∧ t.sort = [] ∧ t.rest = []
 d : t.kind = 6 → t.n = 0 ∧ t.kids = [] ∧ t.rest = []
 e : t.kind = 7 ∨ t.kind = 8 → t.n = 0 ∧ t.text = [] ∧ t.sort = []
 f : 1 ≤ t.kind ∧ t.kind ≤ 8
theorem zeroB_n {t : LTerm} {a b c d e : Bool} (h : zeroB t a b c d e = true) : (a = false → t.n = 0) ∧ (b = false → t.text = []) ∧ (c = false → t.sort = []) ∧ (d = false → t.kids = []) ∧ (e = false → t.rest = []) := by
 simp only [zeroB, Bool.and_eq_true, Bool.or_eq_true, decide_eq_true_eq] at h
 obtain ⟨⟨⟨⟨h1, h2⟩, h3⟩, h4⟩, h5⟩ := h
 exact ⟨fun h => h1.resolve_left (by simp [h]), fun h => h2.resolve_left (by simp [h]), fun h => h3.resolve_left (by simp [h]), fun h => h4.resolve_left (by simp [h]), fun h => h5.resolve_left (by simp [h])⟩
theorem node_zn {t : LTerm} (h : nodeB t = true) : ZN t := by
 have two : ∀ {x y : Bool}, (x && y) = true → x = true ∧ y = true := by simp
 unfold nodeB at h
 split at h
 · have z := zeroB_n (two h).2
   exact ⟨fun _ => ⟨z.2.1 rfl, z.2.2.1 rfl, z.2.2.2.1 rfl, z.2.2.2.2 rfl⟩, fun _ => by omega, fun _ => by omega, fun _ => by omega, fun _ => by omega, by omega⟩
 split at h
 · have z := zeroB_n (two h).2
   exact ⟨fun _ => ⟨z.2.1 rfl, z.2.2.1 rfl, z.2.2.2.1 rfl, z.2.2.2.2 rfl⟩, fun _ => by omega, fun _ => by omega, fun _ => by omega, fun _ => by omega, by omega⟩
 split at h
 · have z := zeroB_n (two h).2
   exact ⟨fun _ => by omega, fun _ => ⟨z.1 rfl, z.2.2.1 rfl, z.2.2.2.1 rfl, z.2.2.2.2 rfl⟩, fun _ => by omega, fun _ => by omega, fun _ => by omega, by omega⟩
 split at h
 · have z := zeroB_n (two h).2
   exact ⟨fun _ => by omega, fun _ => ⟨z.1 rfl, z.2.2.1 rfl, z.2.2.2.1 rfl, z.2.2.2.2 rfl⟩, fun _ => by omega, fun _ => by omega, fun _ => by omega, by omega⟩
 split at h
 · have z := zeroB_n (two h).2
   exact ⟨fun _ => by omega, fun _ => by omega, fun _ => ⟨z.1 rfl, z.2.2.1 rfl, z.2.2.2.2 rfl⟩, fun _ => by omega, fun _ => by omega, by omega⟩
 split at h
 · have z : zeroB t false true true false false = true := by
     split at h
     · exact (two h).2
     · exact (two h).2
   have z := zeroB_n z
   exact ⟨fun _ => by omega, fun _ => by omega, fun _ => by omega, fun _ => ⟨z.1 rfl, z.2.2.2.1 rfl, z.2.2.2.2 rfl⟩, fun _ => by omega, by omega⟩
 split at h
 · have z := zeroB_n (two h).2
   exact ⟨fun _ => by omega, fun _ => by omega, fun _ => by omega, fun _ => by omega, fun _ => ⟨z.1 rfl, z.2.1 rfl, z.2.2.1 rfl⟩, by omega⟩
 split at h
 · have z := zeroB_n (two h).2
   exact ⟨fun _ => by omega, fun _ => by omega, fun _ => by omega, fun _ => by omega, fun _ => ⟨z.1 rfl, z.2.1 rfl, z.2.2.1 rfl⟩, by omega⟩
 · cases h
theorem rest_zn {t : LTerm} {so : Str} (h : restB t so = true) : ∀ r ∈ t.rest, ZN r ∧ r.kids = [] ∧ r.rest = [] := by
 intro r hr
 simp only [restB, Bool.or_eq_true, Bool.and_eq_true, decide_eq_true_eq] at h
 rcases h with h | ⟨⟨⟨⟨h1, h2⟩, h3⟩, h4⟩, h5⟩
 · rw [List.length_eq_zero_iff] at h; rw [h] at hr; cases hr
 · obtain ⟨x, hx⟩ := List.length_eq_one_iff.1 h1
   rw [hx] at hr h2 h5
   simp only [List.mem_singleton] at hr
   subst hr
   simp only [List.getD_cons_zero] at h2 h5
   have z := zeroB_n h5
   exact ⟨⟨fun _ => by omega, fun _ => by omega, fun _ => by omega, fun _ => ⟨z.1 rfl, z.2.2.2.1 rfl, z.2.2.2.2 rfl⟩, fun _ => by omega, by omega⟩, z.2.2.2.1 rfl, z.2.2.2.2 rfl⟩
theorem node_rest {t : LTerm} (h : nodeB t = true) : ∀ r ∈ t.rest, ZN r ∧ r.kids = [] ∧ r.rest = [] := by
 have two : ∀ {x y : Bool}, (x && y) = true → x = true ∧ y = true := by simp
 have z := node_zn h
 intro r hr
 have hne : t.rest ≠ [] := fun e => by rw [e] at hr; cases hr
 have h7 : t.kind = 7 ∨ t.kind = 8 := by
   rcases z.f with ⟨f1, f2⟩
   by_cases h1 : t.kind = 1 ∨ t.kind = 2
   · exact absurd (z.a h1).2.2.2 hne
   by_cases h3 : t.kind = 3 ∨ t.kind = 4
   · exact absurd (z.b h3).2.2.2 hne
   by_cases h5 : t.kind = 5
   · exact absurd (z.c h5).2.2 hne
   by_cases h6 : t.kind = 6
   · exact absurd (z.d h6).2.2 hne
   omega
 unfold nodeB at h
 rw [if_neg (by omega), if_neg (by omega), if_neg (by omega), if_neg (by omega), if_neg (by omega), if_neg (by omega)] at h
 split at h
 · exact rest_zn (two h).1 r hr
 · split at h
   · exact rest_zn (two (two h).1).1 r hr
   · cases h
inductive ZT : LTerm → Prop
 | mk {t : LTerm} : ZN t → (∀ k ∈ t.kids, ZT k) → (∀ k ∈ t.rest, ZT k) → ZT t
theorem wfT_eq {p : LTerm → Bool} {t : LTerm} : wfT p t = true ↔ p t = true ∧ ∀ k ∈ t.kids, wfT p k = true := by
 have hl : ∀ l : List LTerm, wfL p l = true ↔ ∀ k ∈ l, wfT p k = true := by
   intro l
   induction l with
   | nil => simp [wfL]
   | cons a l ih => simp [wfL, ih]
 cases t
 rw [wfT, Bool.and_eq_true, hl]; rfl
theorem wf_zt : ∀ t : LTerm, wfT nodeB t = true → ZT t :=
 term_ind fun t hk _ h => by
   rw [wfT_eq] at h
   refine .mk (node_zn h.1) (fun k hm => hk k hm (h.2 k hm)) (fun r hr => ?_)
   have z := node_rest h.1 r hr
   exact .mk z.1 (fun k hm => by rw [z.2.1] at hm; cases hm) (fun k hm => by rw [z.2.2] at hm; cases hm)
theorem cmpN_refl (a : Int) : cmpN a a = 0 := cmpN_eq rfl
theorem cmpT_refl (a : Str) : cmpT a a = 0 := cmpT_eq rfl
theorem ordPL_nil : ordPL [] [] = 0 := by rw [ordPL]
theorem ordL_eq : ∀ (l m : List LTerm), (∀ a ∈ l, ∀ b ∈ m, ordR a b = ordP a b) → ordRL l m = ordPL l m
 | [], [], _ => by rw [ordRL, ordPL]
 | [], _ :: _, _ => by rw [ordRL, ordPL]
 | _ :: _, [], _ => by rw [ordRL, ordPL]
 | a :: l, b :: m, h => by
   rw [ordRL, ordPL, h a (by simp) b (by simp), ordL_eq l m (fun x hx y hy => h x (by simp [hx]) y (by simp [hy]))]
theorem ord_eq : ∀ (a : LTerm), ZT a → ∀ b, ZT b → ordR a b = ordP a b :=
 term_ind (Q := fun a => ZT a → ∀ b, ZT b → ordR a b = ordP a b) fun a hk hr ha b hb => by
   obtain ⟨za, ka, ra⟩ := ha
   obtain ⟨zb, kb, rb⟩ := hb
   have e1 : ordRL a.kids b.kids = ordPL a.kids b.kids := ordL_eq _ _ (fun x hx y hy => hk x hx (ka x hx) y (kb y hy))
   have e2 : ordRL a.rest b.rest = ordPL a.rest b.rest := ordL_eq _ _ (fun x hx y hy => hr x hx (ra x hx) y (rb y hy))
   rw [ordR_eq, ordP_eq, e1, e2]
   by_cases h0 : cmpN a.kind b.kind = 0
   · rw [if_pos h0, if_pos h0]
     have h0 := cmpN_zero.1 h0
     by_cases h1 : a.kind = 1 ∨ a.kind = 2
     · obtain ⟨x1, x2, x3, x4⟩ := za.a h1
       obtain ⟨y1, y2, y3, y4⟩ := zb.a (by omega)
       rw [if_pos h1, x1, x2, x3, x4, y1, y2, y3, y4, cmpT_refl, ordPL_nil]
       simp only [if_true]
       split
       · assumption
       · rfl
     rw [if_neg h1]
     by_cases h3 : a.kind = 3 ∨ a.kind = 4
     · obtain ⟨x1, x2, x3, x4⟩ := za.b h3
       obtain ⟨y1, y2, y3, y4⟩ := zb.b (by omega)
       rw [if_pos h3, x1, x2, x3, x4, y1, y2, y3, y4, cmpT_refl, cmpN_refl, ordPL_nil]
       simp only [if_true]
       split
       · assumption
       · rfl
     rw [if_neg h3]
     by_cases h6 : a.kind = 6
     · obtain ⟨x1, x3, x4⟩ := za.d h6
       obtain ⟨y1, y3, y4⟩ := zb.d (by omega)
       rw [if_pos h6, x1, x3, x4, y1, y3, y4, cmpN_refl, ordPL_nil]
       simp only [if_true]
       split
       · split
         · assumption
         · rfl
       · rfl
     rw [if_neg h6]
     by_cases h5 : a.kind = 5
     · obtain ⟨x1, x3, x4⟩ := za.c h5
       obtain ⟨y1, y3, y4⟩ := zb.c (by omega)
       rw [if_pos h5, x1, x3, x4, y1, y3, y4, cmpN_refl, cmpT_refl, ordPL_nil]
       simp only [if_true]
       split
       · split
         · assumption
         · rfl
       · rfl
     rw [if_neg h5]
     have f := za.f
     obtain ⟨x1, x3, x4⟩ := za.e (by omega)
     obtain ⟨y1, y3, y4⟩ := zb.e (by omega)
     rw [x1, x3, x4, y1, y3, y4, cmpN_refl, cmpT_refl]
     simp only [if_true]
   · rw [if_neg h0, if_neg h0]
def lex (a b : Int) : Int := if a = 0 then b else a
theorem ordP_lex (a b : LTerm) : ordP a b = lex (cmpN a.kind b.kind) (lex (cmpN a.n b.n) (lex (cmpT a.text b.text) (lex (cmpT a.sort b.sort) (lex (ordPL a.kids b.kids) (ordPL a.rest b.rest))))) := ordP_eq a b
theorem lex_zero {a b : Int} : lex a b = 0 ↔ a = 0 ∧ b = 0 := by rw [lex]; split <;> simp [*]
theorem lex_neg {a b : Int} : lex (-a) (-b) = - lex a b := by simp only [lex]; split <;> split <;> omega
theorem cmpN_anti (a b : Int) : cmpN b a = - cmpN a b := by simp only [cmpN]; split <;> split <;> (try split) <;> omega
theorem cmpT_anti (a b : Str) : cmpT b a = - cmpT a b := by
 by_cases h1 : a < b
 · rw [cmpT_lt h1, cmpT_gt (fun h => List.lt_irrefl _ (List.lt_trans h1 h)) (fun h => by subst h; exact List.lt_irrefl _ h1)]; rfl
 · by_cases h2 : a = b
   · subst h2; rw [cmpT_refl]; rfl
   · rw [cmpT_gt h1 h2, cmpT_lt (gt_of_not h1 h2)]
theorem ordL_zero : ∀ (l m : List LTerm), (∀ a ∈ l, ∀ b, ordP a b = 0 ↔ a = b) → (ordPL l m = 0 ↔ l = m)
 | [], [], _ => by simp [ordPL]
 | [], _ :: _, _ => by simp [ordPL]
 | _ :: _, [], _ => by simp [ordPL]
 | a :: l, b :: m, h => by
   have e := lex_zero (a := ordP a b) (b := ordPL l m)
   rw [ordPL, List.cons.injEq, ← h a (by simp) b, ← ordL_zero l m (fun x hx y => h x (by simp [hx]) y)]
   exact e
theorem ord_zero : ∀ (a b : LTerm), ordP a b = 0 ↔ a = b :=
 term_ind (Q := fun a => ∀ b, ordP a b = 0 ↔ a = b) fun a hk hr b => by
   rw [ordP_lex, lex_zero, lex_zero, lex_zero, lex_zero, lex_zero, cmpN_zero, cmpN_zero, cmpT_zero, cmpT_zero, ordL_zero _ _ hk, ordL_zero _ _ hr, LTerm.ext_iff]
theorem ordL_anti : ∀ (l m : List LTerm), (∀ a ∈ l, ∀ b, ordP b a = - ordP a b) → ordPL m l = - ordPL l m
 | [], [], _ => by simp [ordPL]
 | [], _ :: _, _ => by simp [ordPL]
 | _ :: _, [], _ => by simp [ordPL]
 | a :: l, b :: m, h => by
   have e := lex_neg (a := ordP a b) (b := ordPL l m)
   rw [ordPL, ordPL, h a (by simp) b, ordL_anti l m (fun x hx y => h x (by simp [hx]) y)]
   exact e
theorem ord_anti : ∀ (a b : LTerm), ordP b a = - ordP a b :=
 term_ind (Q := fun a => ∀ b, ordP b a = - ordP a b) fun a hk hr b => by
   rw [ordP_lex, ordP_lex, cmpN_anti a.kind, cmpN_anti a.n, cmpT_anti a.text, cmpT_anti a.sort, ordL_anti _ _ hk, ordL_anti _ _ hr]
   simp only [lex_neg]
def Tri (x y z : Int) : Prop := (x < 0 → y ≤ 0 → z < 0) ∧ (x ≤ 0 → y < 0 → z < 0) ∧ (x = 0 → y = 0 → z = 0)
theorem tri_lex {x y z x' y' z' : Int} (h : Tri x y z) (h' : Tri x' y' z') : Tri (lex x x') (lex y y') (lex z z') := by
 obtain ⟨a, b, c⟩ := h
 obtain ⟨a', b', c'⟩ := h'
 simp only [lex, Tri]
 refine ⟨fun h1 h2 => ?_, fun h1 h2 => ?_, fun h1 h2 => ?_⟩ <;> split at h1 <;> split at h2 <;> split <;> omega
theorem tri_N (a b c : Int) : Tri (cmpN a b) (cmpN b c) (cmpN a c) := by
 simp only [Tri, cmpN]
 refine ⟨fun h1 h2 => ?_, fun h1 h2 => ?_, fun h1 h2 => ?_⟩ <;> split at h1 <;> split at h2 <;> (try split at h1) <;> (try split at h2) <;> (try split) <;> (try split) <;> omega
theorem cmpT_neg {a b : Str} : cmpT a b < 0 ↔ a < b := by
 by_cases h1 : a < b
 · rw [cmpT_lt h1]; simp [h1]
 · by_cases h2 : a = b
   · subst h2; rw [cmpT_refl]; simp [h1]
   · rw [cmpT_gt h1 h2]; simp [h1]
theorem tri_T (a b c : Str) : Tri (cmpT a b) (cmpT b c) (cmpT a c) := by
 have le : ∀ {x y : Str}, cmpT x y ≤ 0 → x < y ∨ x = y := fun {x y} h => by
   rcases Int.lt_or_eq_of_le h with h | h
   · exact .inl (cmpT_neg.1 h)
   · exact .inr (cmpT_zero.1 h)
 refine ⟨fun h1 h2 => ?_, fun h1 h2 => ?_, fun h1 h2 => ?_⟩
 · rw [cmpT_neg] at h1 ⊢
   rcases le h2 with h | h
   · exact List.lt_trans h1 h
   · exact h ▸ h1
 · rw [cmpT_neg] at h2 ⊢
   rcases le h1 with h | h
   · exact List.lt_trans h h2
   · exact h ▸ h2
 · rw [cmpT_zero] at *; rw [h1, h2]
theorem ordL_tri : ∀ (l m r : List LTerm), (∀ a ∈ l, ∀ b c, Tri (ordP a b) (ordP b c) (ordP a c)) → Tri (ordPL l m) (ordPL m r) (ordPL l r)
 | [], [], [], _ => by simp [ordPL, Tri]
 | [], [], _ :: _, _ => by simp [ordPL, Tri]
 | [], _ :: _, [], _ => by simp [ordPL, Tri]
 | [], _ :: _, _ :: _, _ => by simp [ordPL, Tri]
 | _ :: _, [], [], _ => by simp [ordPL, Tri]
 | _ :: _, [], _ :: _, _ => by simp [ordPL, Tri]
 | a :: l, b :: m, [], _ => by rw [ordPL, ordPL, ordPL]; refine ⟨fun _ h => ?_, fun _ h => ?_, fun _ h => ?_⟩ <;> revert h <;> decide
 | a :: l, b :: m, c :: r, h => by
   have e := tri_lex (h a (by simp) b c) (ordL_tri l m r (fun x hx => h x (by simp [hx])))
   rw [ordPL, ordPL, ordPL]
   exact e
theorem ord_tri : ∀ (a b c : LTerm), Tri (ordP a b) (ordP b c) (ordP a c) :=
 term_ind (Q := fun a => ∀ b c, Tri (ordP a b) (ordP b c) (ordP a c)) fun a hk hr b c => by
   rw [ordP_lex, ordP_lex, ordP_lex]
   exact tri_lex (tri_N _ _ _) (tri_lex (tri_N _ _ _) (tri_lex (tri_T _ _ _) (tri_lex (tri_T _ _ _) (tri_lex (ordL_tri _ _ _ hk) (ordL_tri _ _ _ hr)))))

def plainV (s : LSig) (t : LTerm) : Bool := validT nodeB t && plainP s t
theorem ctr231 (s : LSig) (t : LTerm) (hs : Small s) (ht : OkT t): CT 58 [bookAV s, elT t] (.b (plainV s t)) := by
 refine sem_intro (rx := false) (th := fun _ => none) mixed Tryz.func58 rfl (by kernel_rfl) (by kernel_rfl) (ac := ?_) ?_ g0 ?_
 rotate_left
 · simp only [strip, splitQ, stripOps, stripOp, hoist, List.filter_cons, List.filter_nil, List.nil_append, List.cons_append, isFree, anyPre, Region.binds, Bool.not_true, Bool.not_false, Bool.false_eq_true, if_true, if_false, Option.isNone_none, Option.isNone_some, Bool.true_and, Bool.false_and, List.map_nil, List.map_cons, List.isEmpty_nil, List.isEmpty_cons, List.append_nil]
   rfl
 · simp -implicitDefEqProofs (disch := omega) only [Tryz.f58, go_sem, List.replicate, ↓reduceIte, reduceAdd, reduceSub, reduceMul, reduceLeDiff, reduceLT, reduceEqDiff, reduceNeg, Nat.reduceBEq]
   (repeat' (first | refine gT ?_ ?_ | refine gF ?_ ?_ | refine gC ?_ ?_ | ((first | (refine c_ctrE (ctr242 t ht) ?_ ?_; (focus (simp -implicitDefEqProofs (disch := omega) only [avs, avb, avi, avo, sigCells, opCells, pairCells, elT, avt, termCells_eq, go_sem, ↓reduceIte, reduceAdd, reduceSub, reduceMul, reduceLeDiff, reduceLT, reduceEqDiff, reduceNeg, Nat.reduceBEq]; done))) | (refine c_ctrE (ctr243 s hs t ht) ?_ ?_; (focus (simp -implicitDefEqProofs (disch := omega) only [avs, avb, avi, avo, sigCells, opCells, pairCells, elT, avt, termCells_eq, go_sem, ↓reduceIte, reduceAdd, reduceSub, reduceMul, reduceLeDiff, reduceLT, reduceEqDiff, reduceNeg, Nat.reduceBEq]; done)))); simp -implicitDefEqProofs (disch := omega) only [go_sem, ↓reduceIte, reduceAdd, reduceSub, reduceMul, reduceLeDiff, reduceLT, reduceEqDiff, reduceNeg, Nat.reduceBEq]) | refine And.intro (by omega) ?_ | (intro hr; have hc := hr; (try simp only [zda, zdb, zdc, zdd] at hc); simp -implicitDefEqProofs (disch := omega) only [hr, go_sem, ↓reduceIte, reduceAdd, reduceSub, reduceMul, reduceLeDiff, reduceLT, reduceEqDiff, reduceNeg, Nat.reduceBEq]; (try clear hr))))
   all_goals refine fin_eq ?_ rfl
   all_goals simp only [plainV, *, Bool.true_and, Bool.false_and]
theorem valid_wf {t : LTerm} (h : validT nodeB t = true) : wfT nodeB t = true := by
 simp only [validT, Bool.and_eq_true] at h; exact h.1.1

theorem out_rd {H g : List AObj} {out : AV} {l : List LTerm} (h : OutIs 6 0 g out (l.flatMap termCells) l.length) (hH : H = g) : Rd6 H out l := by
 subst hH
 rcases h with ⟨rfl, hn, h0⟩ | ⟨i, rfl, hi, hl⟩
 · exact .inl ⟨rfl, List.length_eq_zero_iff.1 (by omega)⟩
 · refine .inr (.inr ⟨i + 0, 0, _, _, _, rfl, (by simpa using hi), by omega, ?_⟩)
   rw [List.drop_zero, List.take_of_length_le (by omega)]
theorem fin_rd {H : List AObj} {v : AV} {l : List LTerm} (r : Rd6 H v l) : Fin H v (.sl (l.flatMap termCells) l.length) := by
 have e := rd6_fin r
 have e1 : finOK H v (.sl (l.flatMap termCells) l.length) := e.1
 have e2 : finIds v (.sl (l.flatMap termCells) l.length) = [] := e.2
 exact .inr ⟨e1, by rw [e2]; exact List.nodup_nil, by rw [e2]; simp⟩
end Go.Proofs.YtnjnjdebgkjfhaaGreatDoor

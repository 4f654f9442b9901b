/-
  What functions of the chapter return, as plain functions of what they are given; no condition beyond those that each theorem names.
-/
import Derived.Test.YtnjnjdebgkjfhaaGreatDoorVaP56
import Derived.Test.YtnjnjdebgkjfhaaGreatDoorVoP59
set_option maxRecDepth 100000
set_option linter.unusedSimpArgs false
set_option linter.unusedVariables false
set_option maxHeartbeats 4000000
namespace Go.Proofs.YtnjnjdebgkjfhaaGreatDoor
open Go Go.Vo
open Nat (reduceAdd reduceSub reduceMul reduceLeDiff reduceLT reduceEqDiff)
open Int (reduceNeg)

def Sgn (a : Int) : Prop := a = -1 ∨ a = 0 ∨ a = 1
theorem sgnN (a b : Int) : Sgn (cmpN a b) := by
 unfold cmpN Sgn
 split
 · exact .inl rfl
 · split
   · exact .inr (.inr rfl)
   · exact .inr (.inl rfl)
theorem sgnT (a b : Str) : Sgn (cmpT a b) := by
 unfold cmpT Sgn
 split
 · exact .inl rfl
 · split
   · exact .inr (.inr rfl)
   · exact .inr (.inl rfl)
theorem sgn_lex {a b : Int} (h : Sgn a) (k : Sgn b) : Sgn (lex a b) := by unfold lex; split <;> assumption
theorem sgnL : ∀ (l m : List LTerm), (∀ a ∈ l, ∀ b, Sgn (ordP a b)) → Sgn (ordPL l m)
 | [], [], _ => by rw [ordPL]; exact .inr (.inl rfl)
 | [], _ :: _, _ => by rw [ordPL]; exact .inl rfl
 | _ :: _, [], _ => by rw [ordPL]; exact .inr (.inr rfl)
 | a :: l, b :: m, h => by
   rw [ordPL]
   split
   · exact sgnL l m (fun x hx => h x (List.mem_cons_of_mem _ hx))
   · exact h a (by simp) b
theorem sgn_ord : ∀ (a b : LTerm), Sgn (ordP a b) :=
 term_ind (Q := fun a => ∀ b, Sgn (ordP a b)) fun a hk hr b => by
   rw [ordP_lex]
   exact sgn_lex (sgnN _ _) (sgn_lex (sgnN _ _) (sgn_lex (sgnT _ _) (sgn_lex (sgnT _ _) (sgn_lex (sgnL _ _ hk) (sgnL _ _ hr)))))
theorem okl3 {a b c : LTerm} (h : OkT a) (h2 : OkT b) (h3 : OkT c) : ∀ t ∈ [a, b, c], OkT t := fun t ht => by
 simp only [List.mem_cons, List.not_mem_nil, or_false] at ht
 rcases ht with rfl | rfl | rfl <;> assumption
theorem ctr322n (x y z : LTerm) (ox : OkT x) (oy : OkT y) (oz : OkT z) (h : ¬ (fewP 2600 [x, y, z] = true ∧ validT nodeB x = true ∧ validT nodeB y = true ∧ validT nodeB z = true)): CT 8 [.agg (termCells x ++ (termCells y ++ termCells z))] (.b true) := by
 refine sem_intro (rx := false) (th := fun _ => none) mixed Tryz.func8 rfl (by kernel_rfl) (by kernel_rfl) (ac := ?_) ?_ g0 ?_
 rotate_left
 · simp only [strip, splitQ, stripOps, stripOp, hoist, List.filter_cons, List.filter_nil, List.nil_append, List.cons_append, isFree, anyPre, Region.binds, Bool.not_true, Bool.not_false, Bool.false_eq_true, if_true, if_false, Option.isNone_none, Option.isNone_some, Bool.true_and, Bool.false_and, List.map_nil, List.map_cons, List.isEmpty_nil, List.isEmpty_cons, List.append_nil]
   rfl
 · simp -implicitDefEqProofs (disch := omega) only [Tryz.f8, List.length_cons, List.length_nil, Nat.zero_add, List.cons_append, List.nil_append, Nat.sub_zero, List.replicate, ↓reduceIte, reduceAdd, reduceSub, reduceMul, reduceLeDiff, reduceLT, reduceEqDiff, reduceNeg, Nat.reduceBEq, termCells_eq, List.cons_append, List.nil_append]
   have c0 := ctr327 [x, y, z] (by simp) (okl3 ox oy oz)
   have cx := ctr252 x ox
   have cy := ctr252 y oy
   have cz := ctr252 z oz
   rcases bool_em (fewP 2600 [x, y, z]) with hf | hf
   · rw [hf] at c0
     rcases bool_em (validT nodeB x) with hx | hx
     · rw [hx] at cx
       rcases bool_em (validT nodeB y) with hy | hy
       · rw [hy] at cy
         rcases bool_em (validT nodeB z) with hz | hz
         · exact absurd ⟨hf, hx, hy, hz⟩ h
         · rw [hz] at cz
           simp -implicitDefEqProofs (disch := omega) only [Int.reduceToNat, go_sem, ↓reduceIte, reduceAdd, reduceSub, reduceMul, reduceLeDiff, reduceLT, reduceEqDiff, reduceNeg, Nat.reduceBEq]
           (repeat' (first | refine gT ?_ ?_ | refine gF ?_ ?_ | refine gC ?_ ?_ | ((first | (refine c_ctrE (c0) ?_ ?_; (focus (simp -implicitDefEqProofs (disch := omega) only [Int.reduceToNat, avs, avb, avi, avo, sigCells, opCells, pairCells, elT, avt, termCells_eq, go_sem, ↓reduceIte, reduceAdd, reduceSub, reduceMul, reduceLeDiff, reduceLT, reduceEqDiff, reduceNeg, Nat.reduceBEq]; done))) | (refine c_ctrE (cx) ?_ ?_; (focus (simp -implicitDefEqProofs (disch := omega) only [Int.reduceToNat, avs, avb, avi, avo, sigCells, opCells, pairCells, elT, avt, termCells_eq, go_sem, ↓reduceIte, reduceAdd, reduceSub, reduceMul, reduceLeDiff, reduceLT, reduceEqDiff, reduceNeg, Nat.reduceBEq]; done))) | (refine c_ctrE (cy) ?_ ?_; (focus (simp -implicitDefEqProofs (disch := omega) only [Int.reduceToNat, avs, avb, avi, avo, sigCells, opCells, pairCells, elT, avt, termCells_eq, go_sem, ↓reduceIte, reduceAdd, reduceSub, reduceMul, reduceLeDiff, reduceLT, reduceEqDiff, reduceNeg, Nat.reduceBEq]; done))) | (refine c_ctrE (cz) ?_ ?_; (focus (simp -implicitDefEqProofs (disch := omega) only [Int.reduceToNat, avs, avb, avi, avo, sigCells, opCells, pairCells, elT, avt, termCells_eq, go_sem, ↓reduceIte, reduceAdd, reduceSub, reduceMul, reduceLeDiff, reduceLT, reduceEqDiff, reduceNeg, Nat.reduceBEq]; done))) | (refine c_ctrE (ctr328) ?_ ?_; (focus (simp -implicitDefEqProofs (disch := omega) only [Int.reduceToNat, avs, avb, avi, avo, sigCells, opCells, pairCells, elT, avt, termCells_eq, go_sem, ↓reduceIte, reduceAdd, reduceSub, reduceMul, reduceLeDiff, reduceLT, reduceEqDiff, reduceNeg, Nat.reduceBEq]; done)))); simp -implicitDefEqProofs (disch := omega) only [Int.reduceToNat, go_sem, ↓reduceIte, reduceAdd, reduceSub, reduceMul, reduceLeDiff, reduceLT, reduceEqDiff, reduceNeg, Nat.reduceBEq]) | refine And.intro (by omega) ?_ | (intro hr; have hc := hr; (try simp only [zda, zdb, zdc, zdd] at hc); simp -implicitDefEqProofs (disch := omega) only [hr, Int.reduceToNat, go_sem, ↓reduceIte, reduceAdd, reduceSub, reduceMul, reduceLeDiff, reduceLT, reduceEqDiff, reduceNeg, Nat.reduceBEq]; (try clear hr))))
           all_goals exact fin_eq rfl rfl
       · rw [hy] at cy
         simp -implicitDefEqProofs (disch := omega) only [Int.reduceToNat, go_sem, ↓reduceIte, reduceAdd, reduceSub, reduceMul, reduceLeDiff, reduceLT, reduceEqDiff, reduceNeg, Nat.reduceBEq]
         (repeat' (first | refine gT ?_ ?_ | refine gF ?_ ?_ | refine gC ?_ ?_ | ((first | (refine c_ctrE (c0) ?_ ?_; (focus (simp -implicitDefEqProofs (disch := omega) only [Int.reduceToNat, avs, avb, avi, avo, sigCells, opCells, pairCells, elT, avt, termCells_eq, go_sem, ↓reduceIte, reduceAdd, reduceSub, reduceMul, reduceLeDiff, reduceLT, reduceEqDiff, reduceNeg, Nat.reduceBEq]; done))) | (refine c_ctrE (cx) ?_ ?_; (focus (simp -implicitDefEqProofs (disch := omega) only [Int.reduceToNat, avs, avb, avi, avo, sigCells, opCells, pairCells, elT, avt, termCells_eq, go_sem, ↓reduceIte, reduceAdd, reduceSub, reduceMul, reduceLeDiff, reduceLT, reduceEqDiff, reduceNeg, Nat.reduceBEq]; done))) | (refine c_ctrE (cy) ?_ ?_; (focus (simp -implicitDefEqProofs (disch := omega) only [Int.reduceToNat, avs, avb, avi, avo, sigCells, opCells, pairCells, elT, avt, termCells_eq, go_sem, ↓reduceIte, reduceAdd, reduceSub, reduceMul, reduceLeDiff, reduceLT, reduceEqDiff, reduceNeg, Nat.reduceBEq]; done))) | (refine c_ctrE (ctr328) ?_ ?_; (focus (simp -implicitDefEqProofs (disch := omega) only [Int.reduceToNat, avs, avb, avi, avo, sigCells, opCells, pairCells, elT, avt, termCells_eq, go_sem, ↓reduceIte, reduceAdd, reduceSub, reduceMul, reduceLeDiff, reduceLT, reduceEqDiff, reduceNeg, Nat.reduceBEq]; done)))); simp -implicitDefEqProofs (disch := omega) only [Int.reduceToNat, go_sem, ↓reduceIte, reduceAdd, reduceSub, reduceMul, reduceLeDiff, reduceLT, reduceEqDiff, reduceNeg, Nat.reduceBEq]) | refine And.intro (by omega) ?_ | (intro hr; have hc := hr; (try simp only [zda, zdb, zdc, zdd] at hc); simp -implicitDefEqProofs (disch := omega) only [hr, Int.reduceToNat, go_sem, ↓reduceIte, reduceAdd, reduceSub, reduceMul, reduceLeDiff, reduceLT, reduceEqDiff, reduceNeg, Nat.reduceBEq]; (try clear hr))))
         all_goals exact fin_eq rfl rfl
     · rw [hx] at cx
       simp -implicitDefEqProofs (disch := omega) only [Int.reduceToNat, go_sem, ↓reduceIte, reduceAdd, reduceSub, reduceMul, reduceLeDiff, reduceLT, reduceEqDiff, reduceNeg, Nat.reduceBEq]
       (repeat' (first | refine gT ?_ ?_ | refine gF ?_ ?_ | refine gC ?_ ?_ | ((first | (refine c_ctrE (c0) ?_ ?_; (focus (simp -implicitDefEqProofs (disch := omega) only [Int.reduceToNat, avs, avb, avi, avo, sigCells, opCells, pairCells, elT, avt, termCells_eq, go_sem, ↓reduceIte, reduceAdd, reduceSub, reduceMul, reduceLeDiff, reduceLT, reduceEqDiff, reduceNeg, Nat.reduceBEq]; done))) | (refine c_ctrE (cx) ?_ ?_; (focus (simp -implicitDefEqProofs (disch := omega) only [Int.reduceToNat, avs, avb, avi, avo, sigCells, opCells, pairCells, elT, avt, termCells_eq, go_sem, ↓reduceIte, reduceAdd, reduceSub, reduceMul, reduceLeDiff, reduceLT, reduceEqDiff, reduceNeg, Nat.reduceBEq]; done))) | (refine c_ctrE (ctr328) ?_ ?_; (focus (simp -implicitDefEqProofs (disch := omega) only [Int.reduceToNat, avs, avb, avi, avo, sigCells, opCells, pairCells, elT, avt, termCells_eq, go_sem, ↓reduceIte, reduceAdd, reduceSub, reduceMul, reduceLeDiff, reduceLT, reduceEqDiff, reduceNeg, Nat.reduceBEq]; done)))); simp -implicitDefEqProofs (disch := omega) only [Int.reduceToNat, go_sem, ↓reduceIte, reduceAdd, reduceSub, reduceMul, reduceLeDiff, reduceLT, reduceEqDiff, reduceNeg, Nat.reduceBEq]) | refine And.intro (by omega) ?_ | (intro hr; have hc := hr; (try simp only [zda, zdb, zdc, zdd] at hc); simp -implicitDefEqProofs (disch := omega) only [hr, Int.reduceToNat, go_sem, ↓reduceIte, reduceAdd, reduceSub, reduceMul, reduceLeDiff, reduceLT, reduceEqDiff, reduceNeg, Nat.reduceBEq]; (try clear hr))))
       all_goals exact fin_eq rfl rfl
   · rw [hf] at c0
     simp -implicitDefEqProofs (disch := omega) only [Int.reduceToNat, go_sem, ↓reduceIte, reduceAdd, reduceSub, reduceMul, reduceLeDiff, reduceLT, reduceEqDiff, reduceNeg, Nat.reduceBEq]
     (repeat' (first | refine gT ?_ ?_ | refine gF ?_ ?_ | refine gC ?_ ?_ | ((first | (refine c_ctrE (c0) ?_ ?_; (focus (simp -implicitDefEqProofs (disch := omega) only [Int.reduceToNat, avs, avb, avi, avo, sigCells, opCells, pairCells, elT, avt, termCells_eq, go_sem, ↓reduceIte, reduceAdd, reduceSub, reduceMul, reduceLeDiff, reduceLT, reduceEqDiff, reduceNeg, Nat.reduceBEq]; done))) | (refine c_ctrE (ctr328) ?_ ?_; (focus (simp -implicitDefEqProofs (disch := omega) only [Int.reduceToNat, avs, avb, avi, avo, sigCells, opCells, pairCells, elT, avt, termCells_eq, go_sem, ↓reduceIte, reduceAdd, reduceSub, reduceMul, reduceLeDiff, reduceLT, reduceEqDiff, reduceNeg, Nat.reduceBEq]; done)))); simp -implicitDefEqProofs (disch := omega) only [Int.reduceToNat, go_sem, ↓reduceIte, reduceAdd, reduceSub, reduceMul, reduceLeDiff, reduceLT, reduceEqDiff, reduceNeg, Nat.reduceBEq]) | refine And.intro (by omega) ?_ | (intro hr; have hc := hr; (try simp only [zda, zdb, zdc, zdd] at hc); simp -implicitDefEqProofs (disch := omega) only [hr, Int.reduceToNat, go_sem, ↓reduceIte, reduceAdd, reduceSub, reduceMul, reduceLeDiff, reduceLT, reduceEqDiff, reduceNeg, Nat.reduceBEq]; (try clear hr))))
     all_goals exact fin_eq rfl rfl
theorem ctr322m (x y z : LTerm) (A C D : Int) (ox : OkT x) (oy : OkT y) (oz : OkT z) (c0 : CT 14 [avt [x, y, z]] (.b true)) (cx : CT 17 [elT x] (.b true)) (cy : CT 17 [elT y] (.b true)) (cz : CT 17 [elT z] (.b true)) (k1 : CT 26 [elT x, elT y] (.tup [.i .i64 A, .i .i64 0])) (k2 : CT 26 [elT y, elT x] (.tup [.i .i64 (-A), .i .i64 0])) (k3 : CT 26 [elT y, elT z] (.tup [.i .i64 C, .i .i64 0])) (k4 : CT 26 [elT x, elT z] (.tup [.i .i64 D, .i .i64 0])) (k5 : CT 28 [elT x, elT y] (.b (decide (A = 0)))) (hA : Sgn A) (hC : Sgn C) (hD : Sgn D) (h1 : A ≤ 0 → C ≤ 0 → D ≤ 0) (h2 : 0 ≤ A → 0 ≤ C → 0 ≤ D): CT 8 [.agg (termCells x ++ (termCells y ++ termCells z))] (.b true) := by
 refine sem_intro (rx := false) (th := fun _ => none) mixed Tryz.func8 rfl (by kernel_rfl) (by kernel_rfl) (ac := ?_) ?_ g0 ?_
 rotate_left
 · simp only [strip, splitQ, stripOps, stripOp, hoist, List.filter_cons, List.filter_nil, List.nil_append, List.cons_append, isFree, anyPre, Region.binds, Bool.not_true, Bool.not_false, Bool.false_eq_true, if_true, if_false, Option.isNone_none, Option.isNone_some, Bool.true_and, Bool.false_and, List.map_nil, List.map_cons, List.isEmpty_nil, List.isEmpty_cons, List.append_nil]
   rfl
 · simp -implicitDefEqProofs (disch := omega) only [Tryz.f8, List.length_cons, List.length_nil, Nat.zero_add, List.cons_append, List.nil_append, Nat.sub_zero, List.replicate, ↓reduceIte, reduceAdd, reduceSub, reduceMul, reduceLeDiff, reduceLT, reduceEqDiff, reduceNeg, Nat.reduceBEq, termCells_eq, List.cons_append, List.nil_append]
   iterate 6 (refine seq_h fun K hK => ?_; simp -implicitDefEqProofs (disch := omega) only [Int.reduceToNat, eq_self, decide_true, go_sem, ↓reduceIte, reduceAdd, reduceSub, reduceMul, reduceLeDiff, reduceLT, reduceEqDiff, reduceNeg, Nat.reduceBEq]; (repeat' (first | refine gT ?_ ?_ | refine gF ?_ ?_ | refine gC ?_ ?_ | (refine c_ctrE (c0) ?_ ?_; (focus (simp -implicitDefEqProofs (disch := omega) only [Int.reduceToNat, eq_self, decide_true, avs, avb, avi, avo, sigCells, opCells, pairCells, elT, avt, termCells_eq, go_sem, ↓reduceIte, reduceAdd, reduceSub, reduceMul, reduceLeDiff, reduceLT, reduceEqDiff, reduceNeg, Nat.reduceBEq]; done)); simp -implicitDefEqProofs (disch := omega) only [Int.reduceToNat, eq_self, decide_true, go_sem, ↓reduceIte, reduceAdd, reduceSub, reduceMul, reduceLeDiff, reduceLT, reduceEqDiff, reduceNeg, Nat.reduceBEq]) | (refine c_ctrE (cx) ?_ ?_; (focus (simp -implicitDefEqProofs (disch := omega) only [Int.reduceToNat, eq_self, decide_true, avs, avb, avi, avo, sigCells, opCells, pairCells, elT, avt, termCells_eq, go_sem, ↓reduceIte, reduceAdd, reduceSub, reduceMul, reduceLeDiff, reduceLT, reduceEqDiff, reduceNeg, Nat.reduceBEq]; done)); simp -implicitDefEqProofs (disch := omega) only [Int.reduceToNat, eq_self, decide_true, go_sem, ↓reduceIte, reduceAdd, reduceSub, reduceMul, reduceLeDiff, reduceLT, reduceEqDiff, reduceNeg, Nat.reduceBEq]) | (refine c_ctrE (cy) ?_ ?_; (focus (simp -implicitDefEqProofs (disch := omega) only [Int.reduceToNat, eq_self, decide_true, avs, avb, avi, avo, sigCells, opCells, pairCells, elT, avt, termCells_eq, go_sem, ↓reduceIte, reduceAdd, reduceSub, reduceMul, reduceLeDiff, reduceLT, reduceEqDiff, reduceNeg, Nat.reduceBEq]; done)); simp -implicitDefEqProofs (disch := omega) only [Int.reduceToNat, eq_self, decide_true, go_sem, ↓reduceIte, reduceAdd, reduceSub, reduceMul, reduceLeDiff, reduceLT, reduceEqDiff, reduceNeg, Nat.reduceBEq]) | (refine c_ctrE (cz) ?_ ?_; (focus (simp -implicitDefEqProofs (disch := omega) only [Int.reduceToNat, eq_self, decide_true, avs, avb, avi, avo, sigCells, opCells, pairCells, elT, avt, termCells_eq, go_sem, ↓reduceIte, reduceAdd, reduceSub, reduceMul, reduceLeDiff, reduceLT, reduceEqDiff, reduceNeg, Nat.reduceBEq]; done)); simp -implicitDefEqProofs (disch := omega) only [Int.reduceToNat, eq_self, decide_true, go_sem, ↓reduceIte, reduceAdd, reduceSub, reduceMul, reduceLeDiff, reduceLT, reduceEqDiff, reduceNeg, Nat.reduceBEq]) | (refine c_ctrE (k1) ?_ ?_; (focus (simp -implicitDefEqProofs (disch := omega) only [Int.reduceToNat, eq_self, decide_true, avs, avb, avi, avo, sigCells, opCells, pairCells, elT, avt, termCells_eq, go_sem, ↓reduceIte, reduceAdd, reduceSub, reduceMul, reduceLeDiff, reduceLT, reduceEqDiff, reduceNeg, Nat.reduceBEq]; done)); simp -implicitDefEqProofs (disch := omega) only [Int.reduceToNat, eq_self, decide_true, go_sem, ↓reduceIte, reduceAdd, reduceSub, reduceMul, reduceLeDiff, reduceLT, reduceEqDiff, reduceNeg, Nat.reduceBEq]) | (refine c_ctrE (k2) ?_ ?_; (focus (simp -implicitDefEqProofs (disch := omega) only [Int.reduceToNat, eq_self, decide_true, avs, avb, avi, avo, sigCells, opCells, pairCells, elT, avt, termCells_eq, go_sem, ↓reduceIte, reduceAdd, reduceSub, reduceMul, reduceLeDiff, reduceLT, reduceEqDiff, reduceNeg, Nat.reduceBEq]; done)); simp -implicitDefEqProofs (disch := omega) only [Int.reduceToNat, eq_self, decide_true, go_sem, ↓reduceIte, reduceAdd, reduceSub, reduceMul, reduceLeDiff, reduceLT, reduceEqDiff, reduceNeg, Nat.reduceBEq]) | (refine c_ctrE (k3) ?_ ?_; (focus (simp -implicitDefEqProofs (disch := omega) only [Int.reduceToNat, eq_self, decide_true, avs, avb, avi, avo, sigCells, opCells, pairCells, elT, avt, termCells_eq, go_sem, ↓reduceIte, reduceAdd, reduceSub, reduceMul, reduceLeDiff, reduceLT, reduceEqDiff, reduceNeg, Nat.reduceBEq]; done)); simp -implicitDefEqProofs (disch := omega) only [Int.reduceToNat, eq_self, decide_true, go_sem, ↓reduceIte, reduceAdd, reduceSub, reduceMul, reduceLeDiff, reduceLT, reduceEqDiff, reduceNeg, Nat.reduceBEq]) | (refine c_ctrE (k4) ?_ ?_; (focus (simp -implicitDefEqProofs (disch := omega) only [Int.reduceToNat, eq_self, decide_true, avs, avb, avi, avo, sigCells, opCells, pairCells, elT, avt, termCells_eq, go_sem, ↓reduceIte, reduceAdd, reduceSub, reduceMul, reduceLeDiff, reduceLT, reduceEqDiff, reduceNeg, Nat.reduceBEq]; done)); simp -implicitDefEqProofs (disch := omega) only [Int.reduceToNat, eq_self, decide_true, go_sem, ↓reduceIte, reduceAdd, reduceSub, reduceMul, reduceLeDiff, reduceLT, reduceEqDiff, reduceNeg, Nat.reduceBEq]) | refine And.intro (by omega) ?_ | (intro hr; have hc := hr; (try simp only [zda, zdb, zdc, zdd] at hc); simp -implicitDefEqProofs (disch := omega) only [hr, Int.reduceToNat, eq_self, decide_true, go_sem, ↓reduceIte, reduceAdd, reduceSub, reduceMul, reduceLeDiff, reduceLT, reduceEqDiff, reduceNeg, Nat.reduceBEq]; (try clear hr)))); rw [← hK]; clear hK)
   rcases hA with rfl | rfl | rfl <;> rcases hC with rfl | rfl | rfl <;> rcases hD with rfl | rfl | rfl
   all_goals first
     | (exfalso; omega)
     | skip
   all_goals simp -implicitDefEqProofs (disch := omega) only [Int.reduceToNat, Int.reduceEq, Int.reduceLT, Int.reduceLE, Int.reduceNeg, eq_self, decide_true, decide_false, Bool.not_true, Bool.not_false, not_true_eq_false, not_false_eq_true, ne_eq, gt_iff_lt, ge_iff_le, go_sem, ↓reduceIte, reduceAdd, reduceSub, reduceMul, reduceLeDiff, reduceLT, reduceEqDiff, reduceNeg, Nat.reduceBEq]
   all_goals (repeat' (first | refine gT ?_ ?_ | refine gF ?_ ?_ | refine gC ?_ ?_ | ((first | (refine c_ctrE (k5) ?_ ?_; (focus (simp -implicitDefEqProofs (disch := omega) only [Int.reduceToNat, Int.reduceEq, Int.reduceLT, Int.reduceLE, Int.reduceNeg, eq_self, decide_true, decide_false, Bool.not_true, Bool.not_false, not_true_eq_false, not_false_eq_true, ne_eq, gt_iff_lt, ge_iff_le, avs, avb, avi, avo, sigCells, opCells, pairCells, elT, avt, termCells_eq, go_sem, ↓reduceIte, reduceAdd, reduceSub, reduceMul, reduceLeDiff, reduceLT, reduceEqDiff, reduceNeg, Nat.reduceBEq]; done))) | (refine c_ctrE (ctr328) ?_ ?_; (focus (simp -implicitDefEqProofs (disch := omega) only [Int.reduceToNat, Int.reduceEq, Int.reduceLT, Int.reduceLE, Int.reduceNeg, eq_self, decide_true, decide_false, Bool.not_true, Bool.not_false, not_true_eq_false, not_false_eq_true, ne_eq, gt_iff_lt, ge_iff_le, avs, avb, avi, avo, sigCells, opCells, pairCells, elT, avt, termCells_eq, go_sem, ↓reduceIte, reduceAdd, reduceSub, reduceMul, reduceLeDiff, reduceLT, reduceEqDiff, reduceNeg, Nat.reduceBEq]; done)))); simp -implicitDefEqProofs (disch := omega) only [Int.reduceToNat, Int.reduceEq, Int.reduceLT, Int.reduceLE, Int.reduceNeg, eq_self, decide_true, decide_false, Bool.not_true, Bool.not_false, not_true_eq_false, not_false_eq_true, ne_eq, gt_iff_lt, ge_iff_le, go_sem, ↓reduceIte, reduceAdd, reduceSub, reduceMul, reduceLeDiff, reduceLT, reduceEqDiff, reduceNeg, Nat.reduceBEq]) | refine And.intro (by omega) ?_ | (intro hr; have hc := hr; (try simp only [zda, zdb, zdc, zdd] at hc); simp -implicitDefEqProofs (disch := omega) only [hr, Int.reduceToNat, Int.reduceEq, Int.reduceLT, Int.reduceLE, Int.reduceNeg, eq_self, decide_true, decide_false, Bool.not_true, Bool.not_false, not_true_eq_false, not_false_eq_true, ne_eq, gt_iff_lt, ge_iff_le, go_sem, ↓reduceIte, reduceAdd, reduceSub, reduceMul, reduceLeDiff, reduceLT, reduceEqDiff, reduceNeg, Nat.reduceBEq]; (try clear hr))))
   all_goals first
     | exact fin_eq rfl rfl
     | (exfalso; revert hc; decide)
     | (exfalso; simp at hc; done)
     | (exfalso; simp_all; done)
theorem ctr322 (x y z : LTerm) (ox : OkT x) (oy : OkT y) (oz : OkT z) : CT 8 [.agg (termCells x ++ (termCells y ++ termCells z))] (.b true) := by
 by_cases h : fewP 2600 [x, y, z] = true ∧ validT nodeB x = true ∧ validT nodeB y = true ∧ validT nodeB z = true
 case neg => exact ctr322n x y z ox oy oz h
 obtain ⟨hf, hx, hy, hz⟩ := h
 have c0 := ctr327 [x, y, z] (by simp) (okl3 ox oy oz)
 have cx := ctr252 x ox
 have cy := ctr252 y oy
 have cz := ctr252 z oz
 rw [hf] at c0; rw [hx] at cx; rw [hy] at cy; rw [hz] at cz
 have e : ∀ a b : LTerm, validT nodeB a = true → validT nodeB b = true → cmpV a b = (ordP a b, 0) := fun a b ha hb => by rw [cmpV, ha, hb]; rfl
 have k1 := ctr336 x y ox oy
 have k2 := ctr336 y x oy ox
 have k3 := ctr336 y z oy oz
 have k4 := ctr336 x z ox oz
 have k5 := ctr264 x y ox oy
 rw [e x y hx hy] at k1
 rw [e y x hy hx, ord_anti x y] at k2
 rw [e y z hy hz] at k3
 rw [e x z hx hz] at k4
 have hs : decide (x = y) = decide (ordP x y = 0) := by rw [decide_eq_decide]; exact (ord_zero x y).symm
 rw [hs] at k5
 have t1 := ord_tri x y z
 have t2 := ord_tri z y x
 rw [ord_anti y z, ord_anti x y, ord_anti x z] at t2
 refine ctr322m x y z _ _ _ ox oy oz c0 cx cy cz k1 k2 k3 k4 k5 (sgn_ord _ _) (sgn_ord _ _) (sgn_ord _ _) ?_ ?_
 · intro h1 h2
   obtain ⟨a, b, c⟩ := t1
   by_cases p : ordP x y < 0
   · have := a p h2; omega
   by_cases q : ordP y z < 0
   · have := b h1 q; omega
   have := c (by omega) (by omega); omega
 · intro h1 h2
   obtain ⟨a, b, c⟩ := t2
   by_cases p : 0 < ordP y z
   · have := a (by omega) (by omega); omega
   by_cases q : 0 < ordP x y
   · have := b (by omega) (by omega); omega
   have := c (by omega) (by omega); omega
end Go.Proofs.YtnjnjdebgkjfhaaGreatDoor

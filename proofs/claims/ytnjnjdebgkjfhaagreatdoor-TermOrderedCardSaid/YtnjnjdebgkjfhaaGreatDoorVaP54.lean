/-
  What functions of the chapter return, as plain functions of what they are given; no condition beyond those that each theorem names.
-/
import Derived.Test.YtnjnjdebgkjfhaaGreatDoorVaP53
import Derived.Test.YtnjnjdebgkjfhaaGreatDoorTeP55
import Derived.Test.YtnjnjdebgkjfhaaGreatDoorTeP54
import Derived.Lib.ItoaLen
set_option maxRecDepth 100000
set_option linter.unusedSimpArgs false
set_option linter.unusedVariables false
set_option maxHeartbeats 4000000
namespace Go.Proofs.YtnjnjdebgkjfhaaGreatDoor
open Go Go.Vo
open Nat (reduceAdd reduceSub reduceMul reduceLeDiff reduceLT reduceEqDiff)
open Int (reduceNeg)

theorem castK {k : Nat} : ((2 * k : Nat) : Int) + 1 = ((2 * k + 1 : Nat) : Int) := by omega
theorem went1 (t : LTerm) (acc : Str) (v : Value) (ht : OkT t) (he : t.kids.length % 2 = 0) (hf : acc.length + (listW (pairW (t.kids.map writeT))).length + (restW t.kids.length t.rest).length + 2 ≤ 140737488355328) (ih : ∀ k ∈ t.kids, WrT k): ACalls Tryz.prog G0 200 [.ptr 0 0, elT t] [bldB TW v, bldU TB v acc] (WrK (acc ++ 123 :: (listW (pairW (t.kids.map writeT)) ++ (restW t.kids.length t.rest ++ [125])))) := by
 refine acalls_intro (rx := false) (th := fun _ => none) mixed Tryz.func200 rfl (by kernel_rfl) (by kernel_rfl) (ac := ?_) ?_ ?_
 rotate_left
 · simp only [strip, splitQ, stripOps, stripOp, hoist, List.filter_cons, List.filter_nil, List.nil_append, List.cons_append, isFree, anyPre, Region.binds, Bool.not_true, Bool.not_false, Bool.false_eq_true, if_true, if_false, Option.isNone_none, Option.isNone_some, Bool.true_and, Bool.false_and, List.map_nil, List.map_cons, List.isEmpty_nil, List.isEmpty_cons, List.append_nil]
   rfl
 · simp -implicitDefEqProofs (disch := omega) only [Tryz.f200, go_sem, List.replicate, ↓reduceIte, reduceAdd, reduceSub, reduceMul, reduceLeDiff, reduceLT, reduceEqDiff, reduceNeg, Nat.reduceBEq]
   have hk1 := ht.kids
   have w0 := wrS (acc := acc) (s := [123]) (by simp only [List.length_cons, List.length_nil]; omega)
   (repeat' (first | refine gT ?_ ?_ | refine gF ?_ ?_ | refine gC ?_ ?_ | (refine c_bld 0 1 g0 (w0) rfl (by decide) rfl rfl (by first | rfl | (simp only [renL, ren, elT, termCells_eq, avt, renL_pers _ _ persTs, emb01]; done)) ?_; intro v9 g9; simp -implicitDefEqProofs (disch := omega) only [go_sem, ↓reduceIte, reduceAdd, reduceSub, reduceMul, reduceLeDiff, reduceLT, reduceEqDiff, reduceNeg, Nat.reduceBEq]) | refine And.intro (by omega) ?_ | (intro hr; have hc := hr; (try simp only [zda, zdb, zdc, zdd] at hc); simp -implicitDefEqProofs (disch := omega) only [hr, go_sem, ↓reduceIte, reduceAdd, reduceSub, reduceMul, reduceLeDiff, reduceLT, reduceEqDiff, reduceNeg, Nat.reduceBEq]; (try clear hr))))
   refine x_loopG (fun (s : Nat × Value) => [.k, .k, .k, .k, .v (.i .i64 ((2 * s.1 : Nat) : Int)), .k, .k, .k, .k, .j, .j, .j, .j, .j, .j, .j, .j, .j, .j, .j, .j, .j, .j, .j, .j, .j, .j, .j, .j, .j, .j, .j, .j, .j, .j, .j, .j, .j, .j, .j, .j, .k, .k, .k, .k, .k, .k, .k]) (fun s => (bldB TW s.2 :: bldU TB s.2 (acc ++ 123 :: listW (pairW ((t.kids.take (2 * s.1)).map writeT))) :: .box false [.i .i64 (t).kind, .i .i64 (t).n, .s (t).text, .s (t).sort, .sl ((t).kids.flatMap termCells) (t).kids.length, .sl ((t).rest.flatMap termCells) (t).rest.length] :: g9)) (fun s => 2 * s.1 ≤ t.kids.length) (fun s => t.kids.length - 2 * s.1) ((0, v9)) [] (Nat.zero_le _) (by simp [avs, avb, avi, avo, opCells, sigCells]) (by simp [Fits]) ?_
   rintro ⟨k, v⟩ g j hk
   dsimp only at hk ⊢
   by_cases hlt : 2 * k + 1 < t.kids.length
   · have hki : ((2 * k : Nat) : Int) < ((t.kids.length : Nat) : Int) := by omega
     have f1 := pairW_take hlt
     have f2 := pairW_mono (k := k + 1) he (by omega)
     have f3 := congrArg List.length f1
     have ia := ih _ (mem_getD (d := default) (show 2 * k < t.kids.length by omega))
     have ib := ih _ (mem_getD (d := default) hlt)
     by_cases hk0 : 0 < k
     · have hk1 : (0 : Int) < ((2 * k : Nat) : Int) := by omega
       rw [if_pos hk0] at f1 f3
       simp only [List.length_append, List.length_cons, List.length_nil] at f3
       have e1 : acc ++ 123 :: listW (pairW ((t.kids.take (2 * (k + 1))).map writeT)) = acc ++ 123 :: (listW (pairW ((t.kids.take (2 * k)).map writeT)) ++ 44 :: 32 :: (writeT (t.kids.getD (2 * k) default) ++ 32 :: 45 :: 62 :: 32 :: writeT (t.kids.getD (2 * k + 1) default))) := by rw [f1]; rfl
       have w1 := wrS (acc := acc ++ 123 :: listW (pairW ((t.kids.take (2 * k)).map writeT))) (s := [44, 32]) (by simp only [List.length_append, List.length_cons, List.length_nil]; omega)
       have w2 := ia (acc ++ 123 :: (listW (pairW ((t.kids.take (2 * k)).map writeT)) ++ [44, 32])) (by simp only [List.length_append, List.length_cons, List.length_nil]; omega)
       have w3 := wrS (acc := acc ++ 123 :: (listW (pairW ((t.kids.take (2 * k)).map writeT)) ++ 44 :: 32 :: writeT (t.kids.getD (2 * k) default))) (s := [32, 45, 62, 32]) (by simp only [List.length_append, List.length_cons, List.length_nil]; omega)
       have w4 := ib (acc ++ 123 :: (listW (pairW ((t.kids.take (2 * k)).map writeT)) ++ 44 :: 32 :: (writeT (t.kids.getD (2 * k) default) ++ [32, 45, 62, 32]))) (by simp only [List.length_append, List.length_cons, List.length_nil]; omega)
       simp -implicitDefEqProofs (disch := omega) only [zt hki, zt hk1, castK, go_sem, ↓reduceIte, reduceAdd, reduceSub, reduceMul, reduceLeDiff, reduceLT, reduceEqDiff, reduceNeg, Nat.reduceBEq]
       (repeat' (first | refine gT ?_ ?_ | refine gF ?_ ?_ | refine gC ?_ ?_ | (refine c_bld 0 1 g0 (w1) rfl (by decide) rfl rfl (by first | rfl | (simp only [renL, ren, elT, termCells_eq, avt, renL_pers _ _ persTs, emb01]; done)) ?_; intro v9 g9; simp -implicitDefEqProofs (disch := omega) only [zt hki, zt hk1, castK, go_sem, ↓reduceIte, reduceAdd, reduceSub, reduceMul, reduceLeDiff, reduceLT, reduceEqDiff, reduceNeg, Nat.reduceBEq]) | (refine c_bld 0 1 g0 (w2) rfl (by decide) rfl rfl (by first | rfl | (simp only [renL, ren, elT, termCells_eq, avt, renL_pers _ _ persTs, emb01]; done)) ?_; intro v9 g9; simp -implicitDefEqProofs (disch := omega) only [zt hki, zt hk1, castK, go_sem, ↓reduceIte, reduceAdd, reduceSub, reduceMul, reduceLeDiff, reduceLT, reduceEqDiff, reduceNeg, Nat.reduceBEq]) | (refine c_bld 0 1 g0 (w3) rfl (by decide) rfl rfl (by first | rfl | (simp only [renL, ren, elT, termCells_eq, avt, renL_pers _ _ persTs, emb01]; done)) ?_; intro v9 g9; simp -implicitDefEqProofs (disch := omega) only [zt hki, zt hk1, castK, go_sem, ↓reduceIte, reduceAdd, reduceSub, reduceMul, reduceLeDiff, reduceLT, reduceEqDiff, reduceNeg, Nat.reduceBEq]) | (refine c_bld 0 1 g0 (w4) rfl (by decide) rfl rfl (by first | rfl | (simp only [renL, ren, elT, termCells_eq, avt, renL_pers _ _ persTs, emb01]; done)) ?_; intro v9 g9; simp -implicitDefEqProofs (disch := omega) only [zt hki, zt hk1, castK, go_sem, ↓reduceIte, reduceAdd, reduceSub, reduceMul, reduceLeDiff, reduceLT, reduceEqDiff, reduceNeg, Nat.reduceBEq]) | refine And.intro (by omega) ?_ | (intro hr; have hc := hr; (try simp only [zda, zdb, zdc, zdd] at hc); simp -implicitDefEqProofs (disch := omega) only [hr, zt hki, zt hk1, castK, go_sem, ↓reduceIte, reduceAdd, reduceSub, reduceMul, reduceLeDiff, reduceLT, reduceEqDiff, reduceNeg, Nat.reduceBEq]; (try clear hr))))
       all_goals first
         | (exfalso; omega)
         | exact ⟨(k + 1, v9), _, by dsimp only; omega, by dsimp only; omega, by dsimp only; rw [e1], by simp; omega⟩
     · have hk1 : ¬ (0 : Int) < ((2 * k : Nat) : Int) := by omega
       rw [if_neg hk0] at f1 f3
       simp only [List.length_append, List.length_cons, List.length_nil] at f3
       have e1 : acc ++ 123 :: listW (pairW ((t.kids.take (2 * (k + 1))).map writeT)) = acc ++ 123 :: (listW (pairW ((t.kids.take (2 * k)).map writeT)) ++ (writeT (t.kids.getD (2 * k) default) ++ 32 :: 45 :: 62 :: 32 :: writeT (t.kids.getD (2 * k + 1) default))) := by rw [f1]; rfl
       have w2 := ia (acc ++ 123 :: listW (pairW ((t.kids.take (2 * k)).map writeT))) (by simp only [List.length_append, List.length_cons, List.length_nil]; omega)
       have w3 := wrS (acc := acc ++ 123 :: (listW (pairW ((t.kids.take (2 * k)).map writeT)) ++ writeT (t.kids.getD (2 * k) default))) (s := [32, 45, 62, 32]) (by simp only [List.length_append, List.length_cons, List.length_nil]; omega)
       have w4 := ib (acc ++ 123 :: (listW (pairW ((t.kids.take (2 * k)).map writeT)) ++ (writeT (t.kids.getD (2 * k) default) ++ [32, 45, 62, 32]))) (by simp only [List.length_append, List.length_cons, List.length_nil]; omega)
       simp -implicitDefEqProofs (disch := omega) only [zt hki, zf hk1, castK, go_sem, ↓reduceIte, reduceAdd, reduceSub, reduceMul, reduceLeDiff, reduceLT, reduceEqDiff, reduceNeg, Nat.reduceBEq]
       (repeat' (first | refine gT ?_ ?_ | refine gF ?_ ?_ | refine gC ?_ ?_ | (refine c_bld 0 1 g0 (w2) rfl (by decide) rfl rfl (by first | rfl | (simp only [renL, ren, elT, termCells_eq, avt, renL_pers _ _ persTs, emb01]; done)) ?_; intro v9 g9; simp -implicitDefEqProofs (disch := omega) only [zt hki, zf hk1, castK, go_sem, ↓reduceIte, reduceAdd, reduceSub, reduceMul, reduceLeDiff, reduceLT, reduceEqDiff, reduceNeg, Nat.reduceBEq]) | (refine c_bld 0 1 g0 (w3) rfl (by decide) rfl rfl (by first | rfl | (simp only [renL, ren, elT, termCells_eq, avt, renL_pers _ _ persTs, emb01]; done)) ?_; intro v9 g9; simp -implicitDefEqProofs (disch := omega) only [zt hki, zf hk1, castK, go_sem, ↓reduceIte, reduceAdd, reduceSub, reduceMul, reduceLeDiff, reduceLT, reduceEqDiff, reduceNeg, Nat.reduceBEq]) | (refine c_bld 0 1 g0 (w4) rfl (by decide) rfl rfl (by first | rfl | (simp only [renL, ren, elT, termCells_eq, avt, renL_pers _ _ persTs, emb01]; done)) ?_; intro v9 g9; simp -implicitDefEqProofs (disch := omega) only [zt hki, zf hk1, castK, go_sem, ↓reduceIte, reduceAdd, reduceSub, reduceMul, reduceLeDiff, reduceLT, reduceEqDiff, reduceNeg, Nat.reduceBEq]) | refine And.intro (by omega) ?_ | (intro hr; have hc := hr; (try simp only [zda, zdb, zdc, zdd] at hc); simp -implicitDefEqProofs (disch := omega) only [hr, zt hki, zf hk1, castK, go_sem, ↓reduceIte, reduceAdd, reduceSub, reduceMul, reduceLeDiff, reduceLT, reduceEqDiff, reduceNeg, Nat.reduceBEq]; (try clear hr))))
       all_goals first
         | (exfalso; omega)
         | exact ⟨(k + 1, v9), _, by dsimp only; omega, by dsimp only; omega, by dsimp only; rw [e1], by simp; omega⟩
   · have hki : ¬ ((2 * k : Nat) : Int) < ((t.kids.length : Nat) : Int) := by omega
     have hT : t.kids.take (2 * k) = t.kids := List.take_of_length_le (by omega)
     rw [hT]
     have w1 := wrest ht (acc ++ 123 :: listW (pairW (t.kids.map writeT))) (by simp only [List.length_append, List.length_cons]; omega)
     have w2 := wrS (acc := acc ++ 123 :: (listW (pairW (t.kids.map writeT)) ++ restW t.kids.length t.rest)) (s := [125]) (by simp only [List.length_append, List.length_cons, List.length_nil]; omega)
     simp -implicitDefEqProofs (disch := omega) only [zf hki, go_sem, ↓reduceIte, reduceAdd, reduceSub, reduceMul, reduceLeDiff, reduceLT, reduceEqDiff, reduceNeg, Nat.reduceBEq]
     (repeat' (first | refine gT ?_ ?_ | refine gF ?_ ?_ | refine gC ?_ ?_ | (refine c_bld 0 1 g0 (w1) rfl (by decide) rfl rfl (by first | rfl | (simp only [renL, ren, elT, termCells_eq, avt, renL_pers _ _ persTs, emb01]; done)) ?_; intro v9 g9; simp -implicitDefEqProofs (disch := omega) only [zf hki, go_sem, ↓reduceIte, reduceAdd, reduceSub, reduceMul, reduceLeDiff, reduceLT, reduceEqDiff, reduceNeg, Nat.reduceBEq]) | (refine c_bld 0 1 g0 (w2) rfl (by decide) rfl rfl (by first | rfl | (simp only [renL, ren, elT, termCells_eq, avt, renL_pers _ _ persTs, emb01]; done)) ?_; intro v9 g9; simp -implicitDefEqProofs (disch := omega) only [zf hki, go_sem, ↓reduceIte, reduceAdd, reduceSub, reduceMul, reduceLeDiff, reduceLT, reduceEqDiff, reduceNeg, Nat.reduceBEq]) | refine And.intro (by omega) ?_ | (intro hr; have hc := hr; (try simp only [zda, zdb, zdc, zdd] at hc); simp -implicitDefEqProofs (disch := omega) only [hr, zf hki, go_sem, ↓reduceIte, reduceAdd, reduceSub, reduceMul, reduceLeDiff, reduceLT, reduceEqDiff, reduceNeg, Nat.reduceBEq]; (try clear hr))))
     all_goals first
       | (exfalso; omega)
       | exact wr_fin rfl

theorem ctr392 (b : Bool): CT 227 [.b b] (.s (boolW b)) := by
 refine sem_intro (rx := false) (th := fun _ => none) mixed Tryz.func227 rfl (by kernel_rfl) (by kernel_rfl) (ac := ?_) ?_ g0 ?_
 rotate_left
 · simp only [strip, splitQ, stripOps, stripOp, hoist, List.filter_cons, List.filter_nil, List.nil_append, List.cons_append, isFree, anyPre, Region.binds, Bool.not_true, Bool.not_false, Bool.false_eq_true, if_true, if_false, Option.isNone_none, Option.isNone_some, Bool.true_and, Bool.false_and, List.map_nil, List.map_cons, List.isEmpty_nil, List.isEmpty_cons, List.append_nil]
   rfl
 · simp -implicitDefEqProofs (disch := omega) only [Tryz.f227, go_sem, List.replicate, ↓reduceIte, reduceAdd, reduceSub, reduceMul, reduceLeDiff, reduceLT, reduceEqDiff, reduceNeg, Nat.reduceBEq]
   (repeat' (first | refine gT ?_ ?_ | refine gF ?_ ?_ | refine gC ?_ ?_ | refine And.intro (by omega) ?_ | (intro hr; have hc := hr; (try simp only [zda, zdb, zdc, zdd] at hc); simp -implicitDefEqProofs (disch := omega) only [hr, go_sem, ↓reduceIte, reduceAdd, reduceSub, reduceMul, reduceLeDiff, reduceLT, reduceEqDiff, reduceNeg, Nat.reduceBEq]; (try clear hr))))
   all_goals (refine fin_eq (congrArg AV.s ?_) rfl; simp_all [boolW])
theorem ctr387 (b : Bool): CT 197 [.b b] (.s (boolW b)) := by
 refine sem_intro (rx := false) (th := fun _ => none) mixed Tryz.func197 rfl (by kernel_rfl) (by kernel_rfl) (ac := ?_) ?_ g0 ?_
 rotate_left
 · simp only [strip, splitQ, stripOps, stripOp, hoist, List.filter_cons, List.filter_nil, List.nil_append, List.cons_append, isFree, anyPre, Region.binds, Bool.not_true, Bool.not_false, Bool.false_eq_true, if_true, if_false, Option.isNone_none, Option.isNone_some, Bool.true_and, Bool.false_and, List.map_nil, List.map_cons, List.isEmpty_nil, List.isEmpty_cons, List.append_nil]
   rfl
 · simp -implicitDefEqProofs (disch := omega) only [Tryz.f197, go_sem, List.replicate, ↓reduceIte, reduceAdd, reduceSub, reduceMul, reduceLeDiff, reduceLT, reduceEqDiff, reduceNeg, Nat.reduceBEq]
   (repeat' (first | refine gT ?_ ?_ | refine gF ?_ ?_ | refine gC ?_ ?_ | ((refine c_ctrE (ctr392 b) ?_ ?_; (focus (simp -implicitDefEqProofs (disch := omega) only [avs, avb, avi, avo, sigCells, opCells, pairCells, elT, avt, termCells_eq, go_sem, ↓reduceIte, reduceAdd, reduceSub, reduceMul, reduceLeDiff, reduceLT, reduceEqDiff, reduceNeg, Nat.reduceBEq]; done))); simp -implicitDefEqProofs (disch := omega) only [go_sem, ↓reduceIte, reduceAdd, reduceSub, reduceMul, reduceLeDiff, reduceLT, reduceEqDiff, reduceNeg, Nat.reduceBEq]) | refine And.intro (by omega) ?_ | (intro hr; have hc := hr; (try simp only [zda, zdb, zdc, zdd] at hc); simp -implicitDefEqProofs (disch := omega) only [hr, go_sem, ↓reduceIte, reduceAdd, reduceSub, reduceMul, reduceLeDiff, reduceLT, reduceEqDiff, reduceNeg, Nat.reduceBEq]; (try clear hr))))
   all_goals exact fin_eq rfl rfl
theorem wterm_1 (t : LTerm) (acc : Str) (v : Value) (ht : OkT t) (hk : t.kind = 1) (hn : isInt t.n = true) (hf : acc.length + (writeT t).length ≤ 140737488355328): ACalls Tryz.prog G0 136 [.ptr 0 0, elT t] [bldB TW v, bldU TB v acc] (WrK (acc ++ writeT t)) := by
 refine acalls_intro (rx := false) (th := fun _ => some 1000000) mixed Tryz.func136 rfl (by kernel_rfl) (by kernel_rfl) (ac := ?_) ?_ ?_
 rotate_left
 · simp only [strip, splitQ, stripOps, stripOp, hoist, List.filter_cons, List.filter_nil, List.nil_append, List.cons_append, isFree, anyPre, Region.binds, Bool.not_true, Bool.not_false, Bool.false_eq_true, if_true, if_false, Option.isNone_none, Option.isNone_some, Bool.true_and, Bool.false_and, List.map_nil, List.map_cons, List.isEmpty_nil, List.isEmpty_cons, List.append_nil, splitL, Nat.reduceBEq, List.getElem?_toArray]
   rfl
 · simp -implicitDefEqProofs (disch := omega) only [Tryz.f136, go_sem, List.replicate, ↓reduceIte, reduceAdd, reduceSub, reduceMul, reduceLeDiff, reduceLT, reduceEqDiff, reduceNeg, Nat.reduceBEq]
   have e := write_eq t
   have hl := congrArg List.length e
   rw [if_pos hk] at e hl
   have hi : -2147483647 ≤ t.n ∧ t.n ≤ 2147483647 := by simpa only [isInt, Bool.and_eq_true, decide_eq_true_eq] using hn
   have w1 := wrS (acc := acc) (s := Lib.itoa t.n) (by omega)
   simp -implicitDefEqProofs (disch := omega) only [zt hk, go_sem, ↓reduceIte, reduceAdd, reduceSub, reduceMul, reduceLeDiff, reduceLT, reduceEqDiff, reduceNeg, Nat.reduceBEq]
   (repeat' (first | refine gT ?_ ?_ | refine gF ?_ ?_ | refine gC ?_ ?_ | ((refine c_ctrE (ctr269 t.n (by omega) (by omega)) ?_ ?_; (focus (simp -implicitDefEqProofs (disch := omega) only [zt hk, avs, avb, avi, avo, sigCells, opCells, pairCells, elT, avt, termCells_eq, go_sem, ↓reduceIte, reduceAdd, reduceSub, reduceMul, reduceLeDiff, reduceLT, reduceEqDiff, reduceNeg, Nat.reduceBEq]; done))); simp -implicitDefEqProofs (disch := omega) only [zt hk, go_sem, ↓reduceIte, reduceAdd, reduceSub, reduceMul, reduceLeDiff, reduceLT, reduceEqDiff, reduceNeg, Nat.reduceBEq]) | (refine c_bld 0 1 g0 (w1) rfl (by decide) rfl rfl (by first | rfl | (simp only [renL, ren, elT, termCells_eq, avt, renL_pers _ _ persTs, emb01]; done)) ?_; intro v9 g9; simp -implicitDefEqProofs (disch := omega) only [zt hk, go_sem, ↓reduceIte, reduceAdd, reduceSub, reduceMul, reduceLeDiff, reduceLT, reduceEqDiff, reduceNeg, Nat.reduceBEq]) | refine And.intro (by omega) ?_ | (intro hr; have hc := hr; (try simp only [zda, zdb, zdc, zdd] at hc); simp -implicitDefEqProofs (disch := omega) only [hr, zt hk, go_sem, ↓reduceIte, reduceAdd, reduceSub, reduceMul, reduceLeDiff, reduceLT, reduceEqDiff, reduceNeg, Nat.reduceBEq]; (try clear hr))))
   all_goals exact wr_fin (by rw [e])
theorem wterm_2 (t : LTerm) (acc : Str) (v : Value) (ht : OkT t) (hk : t.kind = 2) (hn : OkT t) (hf : acc.length + (writeT t).length ≤ 140737488355328): ACalls Tryz.prog G0 136 [.ptr 0 0, elT t] [bldB TW v, bldU TB v acc] (WrK (acc ++ writeT t)) := by
 refine acalls_intro (rx := false) (th := fun _ => some 1000000) mixed Tryz.func136 rfl (by kernel_rfl) (by kernel_rfl) (ac := ?_) ?_ ?_
 rotate_left
 · simp only [strip, splitQ, stripOps, stripOp, hoist, List.filter_cons, List.filter_nil, List.nil_append, List.cons_append, isFree, anyPre, Region.binds, Bool.not_true, Bool.not_false, Bool.false_eq_true, if_true, if_false, Option.isNone_none, Option.isNone_some, Bool.true_and, Bool.false_and, List.map_nil, List.map_cons, List.isEmpty_nil, List.isEmpty_cons, List.append_nil, splitL, Nat.reduceBEq, List.getElem?_toArray]
   rfl
 · simp -implicitDefEqProofs (disch := omega) only [Tryz.f136, go_sem, List.replicate, ↓reduceIte, reduceAdd, reduceSub, reduceMul, reduceLeDiff, reduceLT, reduceEqDiff, reduceNeg, Nat.reduceBEq]
   have e := write_eq t
   have hl := congrArg List.length e
   have n1 : ¬ t.kind = 1 := by omega
   rw [if_neg n1, if_pos hk] at e hl
   have w1 := wrS (acc := acc) (s := boolW (decide (t.n = 1))) (by omega)
   simp -implicitDefEqProofs (disch := omega) only [zf n1, zt hk, go_sem, ↓reduceIte, reduceAdd, reduceSub, reduceMul, reduceLeDiff, reduceLT, reduceEqDiff, reduceNeg, Nat.reduceBEq]
   (repeat' (first | refine gT ?_ ?_ | refine gF ?_ ?_ | refine gC ?_ ?_ | ((refine c_ctrE (ctr387 (decide (t.n = 1))) ?_ ?_; (focus (simp -implicitDefEqProofs (disch := omega) only [zf n1, zt hk, avs, avb, avi, avo, sigCells, opCells, pairCells, elT, avt, termCells_eq, go_sem, ↓reduceIte, reduceAdd, reduceSub, reduceMul, reduceLeDiff, reduceLT, reduceEqDiff, reduceNeg, Nat.reduceBEq]; done))); simp -implicitDefEqProofs (disch := omega) only [zf n1, zt hk, go_sem, ↓reduceIte, reduceAdd, reduceSub, reduceMul, reduceLeDiff, reduceLT, reduceEqDiff, reduceNeg, Nat.reduceBEq]) | (refine c_bld 0 1 g0 (w1) rfl (by decide) rfl rfl (by first | rfl | (simp only [renL, ren, elT, termCells_eq, avt, renL_pers _ _ persTs, emb01]; done)) ?_; intro v9 g9; simp -implicitDefEqProofs (disch := omega) only [zf n1, zt hk, go_sem, ↓reduceIte, reduceAdd, reduceSub, reduceMul, reduceLeDiff, reduceLT, reduceEqDiff, reduceNeg, Nat.reduceBEq]) | refine And.intro (by omega) ?_ | (intro hr; have hc := hr; (try simp only [zda, zdb, zdc, zdd] at hc); simp -implicitDefEqProofs (disch := omega) only [hr, zf n1, zt hk, go_sem, ↓reduceIte, reduceAdd, reduceSub, reduceMul, reduceLeDiff, reduceLT, reduceEqDiff, reduceNeg, Nat.reduceBEq]; (try clear hr))))
   all_goals exact wr_fin (by rw [e])
theorem wterm_3 (t : LTerm) (acc : Str) (v : Value) (ht : OkT t) (hk : t.kind = 3) (hn : OkT t) (hf : acc.length + (writeT t).length ≤ 140737488355328): ACalls Tryz.prog G0 136 [.ptr 0 0, elT t] [bldB TW v, bldU TB v acc] (WrK (acc ++ writeT t)) := by
 refine acalls_intro (rx := false) (th := fun _ => some 1000000) mixed Tryz.func136 rfl (by kernel_rfl) (by kernel_rfl) (ac := ?_) ?_ ?_
 rotate_left
 · simp only [strip, splitQ, stripOps, stripOp, hoist, List.filter_cons, List.filter_nil, List.nil_append, List.cons_append, isFree, anyPre, Region.binds, Bool.not_true, Bool.not_false, Bool.false_eq_true, if_true, if_false, Option.isNone_none, Option.isNone_some, Bool.true_and, Bool.false_and, List.map_nil, List.map_cons, List.isEmpty_nil, List.isEmpty_cons, List.append_nil, splitL, Nat.reduceBEq, List.getElem?_toArray]
   rfl
 · simp -implicitDefEqProofs (disch := omega) only [Tryz.f136, go_sem, List.replicate, ↓reduceIte, reduceAdd, reduceSub, reduceMul, reduceLeDiff, reduceLT, reduceEqDiff, reduceNeg, Nat.reduceBEq]
   have e := write_eq t
   have hl := congrArg List.length e
   have n1 : ¬ t.kind = 1 := by omega
   have n2 : ¬ t.kind = 2 := by omega
   rw [if_neg n1, if_neg n2, if_pos hk] at e hl
   simp only [List.length_append, List.length_cons, List.length_nil] at hl
   have w1 := wrS (acc := acc) (s := 34 :: (t.text ++ [34])) (by simp only [List.length_append, List.length_cons, List.length_nil]; omega)
   simp -implicitDefEqProofs (disch := omega) only [zf n1, zf n2, zt hk, go_sem, ↓reduceIte, reduceAdd, reduceSub, reduceMul, reduceLeDiff, reduceLT, reduceEqDiff, reduceNeg, Nat.reduceBEq]
   (repeat' (first | refine gT ?_ ?_ | refine gF ?_ ?_ | refine gC ?_ ?_ | (refine c_bld 0 1 g0 (w1) rfl (by decide) rfl rfl (by first | rfl | (simp only [renL, ren, elT, termCells_eq, avt, renL_pers _ _ persTs, emb01]; done)) ?_; intro v9 g9; simp -implicitDefEqProofs (disch := omega) only [zf n1, zf n2, zt hk, go_sem, ↓reduceIte, reduceAdd, reduceSub, reduceMul, reduceLeDiff, reduceLT, reduceEqDiff, reduceNeg, Nat.reduceBEq]) | refine And.intro (by omega) ?_ | (intro hr; have hc := hr; (try simp only [zda, zdb, zdc, zdd] at hc); simp -implicitDefEqProofs (disch := omega) only [hr, zf n1, zf n2, zt hk, go_sem, ↓reduceIte, reduceAdd, reduceSub, reduceMul, reduceLeDiff, reduceLT, reduceEqDiff, reduceNeg, Nat.reduceBEq]; (try clear hr))))
   all_goals exact wr_fin (by rw [e])
theorem wterm_4 (t : LTerm) (acc : Str) (v : Value) (ht : OkT t) (hk : t.kind = 4) (hn : OkT t) (hf : acc.length + (writeT t).length ≤ 140737488355328): ACalls Tryz.prog G0 136 [.ptr 0 0, elT t] [bldB TW v, bldU TB v acc] (WrK (acc ++ writeT t)) := by
 refine acalls_intro (rx := false) (th := fun _ => some 1000000) mixed Tryz.func136 rfl (by kernel_rfl) (by kernel_rfl) (ac := ?_) ?_ ?_
 rotate_left
 · simp only [strip, splitQ, stripOps, stripOp, hoist, List.filter_cons, List.filter_nil, List.nil_append, List.cons_append, isFree, anyPre, Region.binds, Bool.not_true, Bool.not_false, Bool.false_eq_true, if_true, if_false, Option.isNone_none, Option.isNone_some, Bool.true_and, Bool.false_and, List.map_nil, List.map_cons, List.isEmpty_nil, List.isEmpty_cons, List.append_nil, splitL, Nat.reduceBEq, List.getElem?_toArray]
   rfl
 · simp -implicitDefEqProofs (disch := omega) only [Tryz.f136, go_sem, List.replicate, ↓reduceIte, reduceAdd, reduceSub, reduceMul, reduceLeDiff, reduceLT, reduceEqDiff, reduceNeg, Nat.reduceBEq]
   have e := write_eq t
   have hl := congrArg List.length e
   have n1 : ¬ t.kind = 1 := by omega
   have n2 : ¬ t.kind = 2 := by omega
   have n3 : ¬ t.kind = 3 := by omega
   rw [if_neg n1, if_neg n2, if_neg n3, if_pos hk] at e hl
   simp only [List.length_append, List.length_cons, List.length_nil] at hl
   have w1 := wrS (acc := acc) (s := 39 :: t.text) (by simp only [List.length_append, List.length_cons, List.length_nil]; omega)
   simp -implicitDefEqProofs (disch := omega) only [zf n1, zf n2, zf n3, zt hk, go_sem, ↓reduceIte, reduceAdd, reduceSub, reduceMul, reduceLeDiff, reduceLT, reduceEqDiff, reduceNeg, Nat.reduceBEq]
   (repeat' (first | refine gT ?_ ?_ | refine gF ?_ ?_ | refine gC ?_ ?_ | (refine c_bld 0 1 g0 (w1) rfl (by decide) rfl rfl (by first | rfl | (simp only [renL, ren, elT, termCells_eq, avt, renL_pers _ _ persTs, emb01]; done)) ?_; intro v9 g9; simp -implicitDefEqProofs (disch := omega) only [zf n1, zf n2, zf n3, zt hk, go_sem, ↓reduceIte, reduceAdd, reduceSub, reduceMul, reduceLeDiff, reduceLT, reduceEqDiff, reduceNeg, Nat.reduceBEq]) | refine And.intro (by omega) ?_ | (intro hr; have hc := hr; (try simp only [zda, zdb, zdc, zdd] at hc); simp -implicitDefEqProofs (disch := omega) only [hr, zf n1, zf n2, zf n3, zt hk, go_sem, ↓reduceIte, reduceAdd, reduceSub, reduceMul, reduceLeDiff, reduceLT, reduceEqDiff, reduceNeg, Nat.reduceBEq]; (try clear hr))))
   all_goals exact wr_fin (by rw [e])
theorem wterm_5 (t : LTerm) (acc : Str) (v : Value) (ht : OkT t) (hk : t.kind = 5) (ih : ∀ k ∈ t.kids, WrT k) (hf : acc.length + (writeT t).length ≤ 140737488355328): ACalls Tryz.prog G0 136 [.ptr 0 0, elT t] [bldB TW v, bldU TB v acc] (WrK (acc ++ writeT t)) := by
 refine acalls_intro (rx := false) (th := fun _ => some 1000000) mixed Tryz.func136 rfl (by kernel_rfl) (by kernel_rfl) (ac := ?_) ?_ ?_
 rotate_left
 · simp only [strip, splitQ, stripOps, stripOp, hoist, List.filter_cons, List.filter_nil, List.nil_append, List.cons_append, isFree, anyPre, Region.binds, Bool.not_true, Bool.not_false, Bool.false_eq_true, if_true, if_false, Option.isNone_none, Option.isNone_some, Bool.true_and, Bool.false_and, List.map_nil, List.map_cons, List.isEmpty_nil, List.isEmpty_cons, List.append_nil, splitL, Nat.reduceBEq, List.getElem?_toArray]
   rfl
 · simp -implicitDefEqProofs (disch := omega) only [Tryz.f136, go_sem, List.replicate, ↓reduceIte, reduceAdd, reduceSub, reduceMul, reduceLeDiff, reduceLT, reduceEqDiff, reduceNeg, Nat.reduceBEq]
   have e := write_eq t
   have hl := congrArg List.length e
   have n1 : ¬ t.kind = 1 := by omega
   have n2 : ¬ t.kind = 2 := by omega
   have n3 : ¬ t.kind = 3 := by omega
   have n4 : ¬ t.kind = 4 := by omega
   rw [if_neg n1, if_neg n2, if_neg n3, if_neg n4, if_pos hk] at e hl
   simp only [List.length_append, List.length_cons, List.length_nil] at hl
   have w1 := wrS (acc := acc) (s := t.text ++ [40]) (by simp only [List.length_append, List.length_cons, List.length_nil]; omega)
   have w2 := wlist ht.kids ih (acc ++ (t.text ++ [40])) (by simp only [List.length_append, List.length_cons, List.length_nil]; omega)
   have w3 := wrS (acc := acc ++ (t.text ++ 40 :: listW (t.kids.map writeT))) (s := [41]) (by simp only [List.length_append, List.length_cons, List.length_nil]; omega)
   simp -implicitDefEqProofs (disch := omega) only [zf n1, zf n2, zf n3, zf n4, zt hk, go_sem, ↓reduceIte, reduceAdd, reduceSub, reduceMul, reduceLeDiff, reduceLT, reduceEqDiff, reduceNeg, Nat.reduceBEq]
   (repeat' (first | refine gT ?_ ?_ | refine gF ?_ ?_ | refine gC ?_ ?_ | (refine c_bld 0 1 g0 (w1) rfl (by decide) rfl rfl (by first | rfl | (simp only [renL, ren, elT, termCells_eq, avt, renL_pers _ _ persTs, emb01]; done)) ?_; intro v9 g9; simp -implicitDefEqProofs (disch := omega) only [zf n1, zf n2, zf n3, zf n4, zt hk, go_sem, ↓reduceIte, reduceAdd, reduceSub, reduceMul, reduceLeDiff, reduceLT, reduceEqDiff, reduceNeg, Nat.reduceBEq]) | (refine c_bld 0 1 g0 (w2) rfl (by decide) rfl rfl (by first | rfl | (simp only [renL, ren, elT, termCells_eq, avt, renL_pers _ _ persTs, emb01]; done)) ?_; intro v9 g9; simp -implicitDefEqProofs (disch := omega) only [zf n1, zf n2, zf n3, zf n4, zt hk, go_sem, ↓reduceIte, reduceAdd, reduceSub, reduceMul, reduceLeDiff, reduceLT, reduceEqDiff, reduceNeg, Nat.reduceBEq]) | (refine c_bld 0 1 g0 (w3) rfl (by decide) rfl rfl (by first | rfl | (simp only [renL, ren, elT, termCells_eq, avt, renL_pers _ _ persTs, emb01]; done)) ?_; intro v9 g9; simp -implicitDefEqProofs (disch := omega) only [zf n1, zf n2, zf n3, zf n4, zt hk, go_sem, ↓reduceIte, reduceAdd, reduceSub, reduceMul, reduceLeDiff, reduceLT, reduceEqDiff, reduceNeg, Nat.reduceBEq]) | refine And.intro (by omega) ?_ | (intro hr; have hc := hr; (try simp only [zda, zdb, zdc, zdd] at hc); simp -implicitDefEqProofs (disch := omega) only [hr, zf n1, zf n2, zf n3, zf n4, zt hk, go_sem, ↓reduceIte, reduceAdd, reduceSub, reduceMul, reduceLeDiff, reduceLT, reduceEqDiff, reduceNeg, Nat.reduceBEq]; (try clear hr))))
   all_goals exact wr_fin (by rw [e])
theorem wterm_6 (t : LTerm) (acc : Str) (v : Value) (ht : OkT t) (hk : t.kind = 6) (hn : OkT t) (hf : acc.length + (writeT t).length ≤ 140737488355328): ACalls Tryz.prog G0 136 [.ptr 0 0, elT t] [bldB TW v, bldU TB v acc] (WrK (acc ++ writeT t)) := by
 refine acalls_intro (rx := false) (th := fun _ => some 1000000) mixed Tryz.func136 rfl (by kernel_rfl) (by kernel_rfl) (ac := ?_) ?_ ?_
 rotate_left
 · simp only [strip, splitQ, stripOps, stripOp, hoist, List.filter_cons, List.filter_nil, List.nil_append, List.cons_append, isFree, anyPre, Region.binds, Bool.not_true, Bool.not_false, Bool.false_eq_true, if_true, if_false, Option.isNone_none, Option.isNone_some, Bool.true_and, Bool.false_and, List.map_nil, List.map_cons, List.isEmpty_nil, List.isEmpty_cons, List.append_nil, splitL, Nat.reduceBEq, List.getElem?_toArray]
   rfl
 · simp -implicitDefEqProofs (disch := omega) only [Tryz.f136, go_sem, List.replicate, ↓reduceIte, reduceAdd, reduceSub, reduceMul, reduceLeDiff, reduceLT, reduceEqDiff, reduceNeg, Nat.reduceBEq]
   have e := write_eq t
   have hl := congrArg List.length e
   have n1 : ¬ t.kind = 1 := by omega
   have n2 : ¬ t.kind = 2 := by omega
   have n3 : ¬ t.kind = 3 := by omega
   have n4 : ¬ t.kind = 4 := by omega
   have n5 : ¬ t.kind = 5 := by omega
   rw [if_neg n1, if_neg n2, if_neg n3, if_neg n4, if_neg n5, if_pos hk] at e hl
   have w1 := wrS (acc := acc) (s := t.text) (by rw [List.length_append] at hl; omega)
   rcases bool_em (openS t.text) with ho | ho
   · rw [if_pos ho] at e
     simp only [openS, Bool.or_eq_true, decide_eq_true_eq] at ho
     simp -implicitDefEqProofs (disch := omega) only [zf n1, zf n2, zf n3, zf n4, zf n5, zt hk, go_sem, ↓reduceIte, reduceAdd, reduceSub, reduceMul, reduceLeDiff, reduceLT, reduceEqDiff, reduceNeg, Nat.reduceBEq]
     rcases ho with h1 | h1
     all_goals have q1 : ¬ ¬ t.text = _ := fun h => h h1
     · (repeat' (first | refine gT ?_ ?_ | refine gF ?_ ?_ | refine gC ?_ ?_ | (refine c_bld 0 1 g0 (w1) rfl (by decide) rfl rfl (by first | rfl | (simp only [renL, ren, elT, termCells_eq, avt, renL_pers _ _ persTs, emb01]; done)) ?_; intro v9 g9; simp -implicitDefEqProofs (disch := omega) only [zf n1, zf n2, zf n3, zf n4, zf n5, zt hk, h1, go_sem, ↓reduceIte, reduceAdd, reduceSub, reduceMul, reduceLeDiff, reduceLT, reduceEqDiff, reduceNeg, Nat.reduceBEq]) | refine And.intro (by omega) ?_ | (intro hr; have hc := hr; (try simp only [zda, zdb, zdc, zdd] at hc); simp -implicitDefEqProofs (disch := omega) only [hr, zf n1, zf n2, zf n3, zf n4, zf n5, zt hk, h1, go_sem, ↓reduceIte, reduceAdd, reduceSub, reduceMul, reduceLeDiff, reduceLT, reduceEqDiff, reduceNeg, Nat.reduceBEq]; (try clear hr))))
       all_goals exact wr_fin (by rw [e, h1, List.append_nil])
     · (repeat' (first | refine gT ?_ ?_ | refine gF ?_ ?_ | refine gC ?_ ?_ | (refine c_bld 0 1 g0 (w1) rfl (by decide) rfl rfl (by first | rfl | (simp only [renL, ren, elT, termCells_eq, avt, renL_pers _ _ persTs, emb01]; done)) ?_; intro v9 g9; simp -implicitDefEqProofs (disch := omega) only [zf n1, zf n2, zf n3, zf n4, zf n5, zt hk, h1, go_sem, ↓reduceIte, reduceAdd, reduceSub, reduceMul, reduceLeDiff, reduceLT, reduceEqDiff, reduceNeg, Nat.reduceBEq]) | refine And.intro (by omega) ?_ | (intro hr; have hc := hr; (try simp only [zda, zdb, zdc, zdd] at hc); simp -implicitDefEqProofs (disch := omega) only [hr, zf n1, zf n2, zf n3, zf n4, zf n5, zt hk, h1, go_sem, ↓reduceIte, reduceAdd, reduceSub, reduceMul, reduceLeDiff, reduceLT, reduceEqDiff, reduceNeg, Nat.reduceBEq]; (try clear hr))))
       all_goals exact wr_fin (by rw [e, h1, List.append_nil])
   · rw [if_neg (by rw [ho]; simp)] at e hl
     simp only [List.length_append, List.length_cons, List.length_nil] at hl
     have w2 := wrS (acc := acc ++ t.text) (s := 58 :: t.sort) (by simp only [List.length_append, List.length_cons, List.length_nil]; omega)
     simp only [openS, Bool.or_eq_false_iff, decide_eq_false_iff_not] at ho
     simp -implicitDefEqProofs (disch := omega) only [zf n1, zf n2, zf n3, zf n4, zf n5, zt hk, go_sem, ↓reduceIte, reduceAdd, reduceSub, reduceMul, reduceLeDiff, reduceLT, reduceEqDiff, reduceNeg, Nat.reduceBEq]
     (repeat' (first | refine gT ?_ ?_ | refine gF ?_ ?_ | refine gC ?_ ?_ | (refine c_bld 0 1 g0 (w1) rfl (by decide) rfl rfl (by first | rfl | (simp only [renL, ren, elT, termCells_eq, avt, renL_pers _ _ persTs, emb01]; done)) ?_; intro v9 g9; simp -implicitDefEqProofs (disch := omega) only [zf n1, zf n2, zf n3, zf n4, zf n5, zt hk, go_sem, ↓reduceIte, reduceAdd, reduceSub, reduceMul, reduceLeDiff, reduceLT, reduceEqDiff, reduceNeg, Nat.reduceBEq]) | (refine c_bld 0 1 g0 (w2) rfl (by decide) rfl rfl (by first | rfl | (simp only [renL, ren, elT, termCells_eq, avt, renL_pers _ _ persTs, emb01]; done)) ?_; intro v9 g9; simp -implicitDefEqProofs (disch := omega) only [zf n1, zf n2, zf n3, zf n4, zf n5, zt hk, go_sem, ↓reduceIte, reduceAdd, reduceSub, reduceMul, reduceLeDiff, reduceLT, reduceEqDiff, reduceNeg, Nat.reduceBEq]) | refine And.intro (by omega) ?_ | (intro hr; have hc := hr; (try simp only [zda, zdb, zdc, zdd] at hc); simp -implicitDefEqProofs (disch := omega) only [hr, zf n1, zf n2, zf n3, zf n4, zf n5, zt hk, go_sem, ↓reduceIte, reduceAdd, reduceSub, reduceMul, reduceLeDiff, reduceLT, reduceEqDiff, reduceNeg, Nat.reduceBEq]; (try clear hr))))
     all_goals first
       | (exfalso; exact ho.2 hc)
       | (exfalso; exact ho.1 hc)
       | exact wr_fin (by rw [e])
theorem wterm_7 (t : LTerm) (acc : Str) (v : Value) (ht : OkT t) (hk : t.kind = 7) (ih : ∀ k ∈ t.kids, WrT k) (hf : acc.length + (writeT t).length ≤ 140737488355328): ACalls Tryz.prog G0 136 [.ptr 0 0, elT t] [bldB TW v, bldU TB v acc] (WrK (acc ++ writeT t)) := by
 refine acalls_intro (rx := false) (th := fun _ => some 1000000) mixed Tryz.func136 rfl (by kernel_rfl) (by kernel_rfl) (ac := ?_) ?_ ?_
 rotate_left
 · simp only [strip, splitQ, stripOps, stripOp, hoist, List.filter_cons, List.filter_nil, List.nil_append, List.cons_append, isFree, anyPre, Region.binds, Bool.not_true, Bool.not_false, Bool.false_eq_true, if_true, if_false, Option.isNone_none, Option.isNone_some, Bool.true_and, Bool.false_and, List.map_nil, List.map_cons, List.isEmpty_nil, List.isEmpty_cons, List.append_nil, splitL, Nat.reduceBEq, List.getElem?_toArray]
   rfl
 · simp -implicitDefEqProofs (disch := omega) only [Tryz.f136, go_sem, List.replicate, ↓reduceIte, reduceAdd, reduceSub, reduceMul, reduceLeDiff, reduceLT, reduceEqDiff, reduceNeg, Nat.reduceBEq]
   have e := write_eq t
   have hl := congrArg List.length e
   have n1 : ¬ t.kind = 1 := by omega
   have n2 : ¬ t.kind = 2 := by omega
   have n3 : ¬ t.kind = 3 := by omega
   have n4 : ¬ t.kind = 4 := by omega
   have n5 : ¬ t.kind = 5 := by omega
   have n6 : ¬ t.kind = 6 := by omega
   rw [if_neg n1, if_neg n2, if_neg n3, if_neg n4, if_neg n5, if_neg n6, if_pos hk] at e hl
   simp only [List.length_append, List.length_cons, List.length_nil] at hl
   have w1 := wrS (acc := acc) (s := [91]) (by simp only [List.length_append, List.length_cons, List.length_nil]; omega)
   have w2 := wlist ht.kids ih (acc ++ [91]) (by simp only [List.length_append, List.length_cons, List.length_nil]; omega)
   have w3 := wrest ht (acc ++ 91 :: listW (t.kids.map writeT)) (by simp only [List.length_append, List.length_cons, List.length_nil]; omega)
   have w4 := wrS (acc := acc ++ 91 :: (listW (t.kids.map writeT) ++ restW t.kids.length t.rest)) (s := [93]) (by simp only [List.length_append, List.length_cons, List.length_nil]; omega)
   simp -implicitDefEqProofs (disch := omega) only [zf n1, zf n2, zf n3, zf n4, zf n5, zf n6, zt hk, go_sem, ↓reduceIte, reduceAdd, reduceSub, reduceMul, reduceLeDiff, reduceLT, reduceEqDiff, reduceNeg, Nat.reduceBEq]
   (repeat' (first | refine gT ?_ ?_ | refine gF ?_ ?_ | refine gC ?_ ?_ | (refine c_bld 0 1 g0 (w1) rfl (by decide) rfl rfl (by first | rfl | (simp only [renL, ren, elT, termCells_eq, avt, renL_pers _ _ persTs, emb01]; done)) ?_; intro v9 g9; simp -implicitDefEqProofs (disch := omega) only [zf n1, zf n2, zf n3, zf n4, zf n5, zf n6, zt hk, go_sem, ↓reduceIte, reduceAdd, reduceSub, reduceMul, reduceLeDiff, reduceLT, reduceEqDiff, reduceNeg, Nat.reduceBEq]) | (refine c_bld 0 1 g0 (w2) rfl (by decide) rfl rfl (by first | rfl | (simp only [renL, ren, elT, termCells_eq, avt, renL_pers _ _ persTs, emb01]; done)) ?_; intro v9 g9; simp -implicitDefEqProofs (disch := omega) only [zf n1, zf n2, zf n3, zf n4, zf n5, zf n6, zt hk, go_sem, ↓reduceIte, reduceAdd, reduceSub, reduceMul, reduceLeDiff, reduceLT, reduceEqDiff, reduceNeg, Nat.reduceBEq]) | (refine c_bld 0 1 g0 (w3) rfl (by decide) rfl rfl (by first | rfl | (simp only [renL, ren, elT, termCells_eq, avt, renL_pers _ _ persTs, emb01]; done)) ?_; intro v9 g9; simp -implicitDefEqProofs (disch := omega) only [zf n1, zf n2, zf n3, zf n4, zf n5, zf n6, zt hk, go_sem, ↓reduceIte, reduceAdd, reduceSub, reduceMul, reduceLeDiff, reduceLT, reduceEqDiff, reduceNeg, Nat.reduceBEq]) | (refine c_bld 0 1 g0 (w4) rfl (by decide) rfl rfl (by first | rfl | (simp only [renL, ren, elT, termCells_eq, avt, renL_pers _ _ persTs, emb01]; done)) ?_; intro v9 g9; simp -implicitDefEqProofs (disch := omega) only [zf n1, zf n2, zf n3, zf n4, zf n5, zf n6, zt hk, go_sem, ↓reduceIte, reduceAdd, reduceSub, reduceMul, reduceLeDiff, reduceLT, reduceEqDiff, reduceNeg, Nat.reduceBEq]) | refine And.intro (by omega) ?_ | (intro hr; have hc := hr; (try simp only [zda, zdb, zdc, zdd] at hc); simp -implicitDefEqProofs (disch := omega) only [hr, zf n1, zf n2, zf n3, zf n4, zf n5, zf n6, zt hk, go_sem, ↓reduceIte, reduceAdd, reduceSub, reduceMul, reduceLeDiff, reduceLT, reduceEqDiff, reduceNeg, Nat.reduceBEq]; (try clear hr))))
   all_goals exact wr_fin (by rw [e])
theorem wterm_8 (t : LTerm) (acc : Str) (v : Value) (ht : OkT t) (hk : t.kind = 8) (ih : ∀ k ∈ t.kids, WrT k) (he : t.kids.length % 2 = 0) (hf : acc.length + (writeT t).length ≤ 140737488355328): ACalls Tryz.prog G0 136 [.ptr 0 0, elT t] [bldB TW v, bldU TB v acc] (WrK (acc ++ writeT t)) := by
 refine acalls_intro (rx := false) (th := fun _ => some 1000000) mixed Tryz.func136 rfl (by kernel_rfl) (by kernel_rfl) (ac := ?_) ?_ ?_
 rotate_left
 · simp only [strip, splitQ, stripOps, stripOp, hoist, List.filter_cons, List.filter_nil, List.nil_append, List.cons_append, isFree, anyPre, Region.binds, Bool.not_true, Bool.not_false, Bool.false_eq_true, if_true, if_false, Option.isNone_none, Option.isNone_some, Bool.true_and, Bool.false_and, List.map_nil, List.map_cons, List.isEmpty_nil, List.isEmpty_cons, List.append_nil, splitL, Nat.reduceBEq, List.getElem?_toArray]
   rfl
 · simp -implicitDefEqProofs (disch := omega) only [Tryz.f136, go_sem, List.replicate, ↓reduceIte, reduceAdd, reduceSub, reduceMul, reduceLeDiff, reduceLT, reduceEqDiff, reduceNeg, Nat.reduceBEq]
   have e := write_eq t
   have hl := congrArg List.length e
   have n1 : ¬ t.kind = 1 := by omega
   have n2 : ¬ t.kind = 2 := by omega
   have n3 : ¬ t.kind = 3 := by omega
   have n4 : ¬ t.kind = 4 := by omega
   have n5 : ¬ t.kind = 5 := by omega
   have n6 : ¬ t.kind = 6 := by omega
   have n7 : ¬ t.kind = 7 := by omega
   rw [if_neg n1, if_neg n2, if_neg n3, if_neg n4, if_neg n5, if_neg n6, if_neg n7, if_pos hk] at e hl
   simp only [List.length_append, List.length_cons, List.length_nil] at hl
   have w1 : WrP 200 [.ptr 0 0, elT t] (.tup []) acc _ := fun v => went1 t acc v ht he (by omega) ih
   simp -implicitDefEqProofs (disch := omega) only [zf n1, zf n2, zf n3, zf n4, zf n5, zf n6, zf n7, zt hk, go_sem, ↓reduceIte, reduceAdd, reduceSub, reduceMul, reduceLeDiff, reduceLT, reduceEqDiff, reduceNeg, Nat.reduceBEq]
   (repeat' (first | refine gT ?_ ?_ | refine gF ?_ ?_ | refine gC ?_ ?_ | (refine c_bld 0 1 g0 (w1) rfl (by decide) rfl rfl (by first | rfl | (simp only [renL, ren, elT, termCells_eq, avt, renL_pers _ _ persTs, emb01]; done)) ?_; intro v9 g9; simp -implicitDefEqProofs (disch := omega) only [zf n1, zf n2, zf n3, zf n4, zf n5, zf n6, zf n7, zt hk, go_sem, ↓reduceIte, reduceAdd, reduceSub, reduceMul, reduceLeDiff, reduceLT, reduceEqDiff, reduceNeg, Nat.reduceBEq]) | refine And.intro (by omega) ?_ | (intro hr; have hc := hr; (try simp only [zda, zdb, zdc, zdd] at hc); simp -implicitDefEqProofs (disch := omega) only [hr, zf n1, zf n2, zf n3, zf n4, zf n5, zf n6, zf n7, zt hk, go_sem, ↓reduceIte, reduceAdd, reduceSub, reduceMul, reduceLeDiff, reduceLT, reduceEqDiff, reduceNeg, Nat.reduceBEq]; (try clear hr))))
   all_goals exact wr_fin (by rw [e])

theorem nodeB_k {t : LTerm} (h : nodeB t = true) : 1 ≤ t.kind ∧ t.kind ≤ 8 := by
 unfold nodeB at h
 by_cases h1 : t.kind = 1; · omega
 by_cases h2 : t.kind = 2; · omega
 by_cases h3 : t.kind = 3; · omega
 by_cases h4 : t.kind = 4; · omega
 by_cases h5 : t.kind = 5; · omega
 by_cases h6 : t.kind = 6; · omega
 by_cases h7 : t.kind = 7; · omega
 by_cases h8 : t.kind = 8; · omega
 rw [if_neg h1, if_neg h2, if_neg h3, if_neg h4, if_neg h5, if_neg h6, if_neg h7, if_neg h8] at h
 cases h
theorem wterm : ∀ t : LTerm, OkT t → wfT nodeB t = true → WrT t :=
 term_ind (Q := fun t => OkT t → wfT nodeB t = true → WrT t) fun t hk _ ht hw acc hf v => by
   have hw' := wfT_eq.1 hw
   have ih : ∀ k ∈ t.kids, WrT k := fun k hm => hk k hm (ht.kid k hm) (hw'.2 k hm)
   have hn := hw'.1
   have hr := nodeB_k hn
   by_cases h1 : t.kind = 1
   · rw [nodeB_1 h1, Bool.and_eq_true] at hn
     exact wterm_1 t acc v ht h1 hn.1 hf
   by_cases h2 : t.kind = 2
   · exact wterm_2 t acc v ht h2 ht hf
   by_cases h3 : t.kind = 3
   · exact wterm_3 t acc v ht h3 ht hf
   by_cases h4 : t.kind = 4
   · exact wterm_4 t acc v ht h4 ht hf
   by_cases h5 : t.kind = 5
   · exact wterm_5 t acc v ht h5 ih hf
   by_cases h6 : t.kind = 6
   · exact wterm_6 t acc v ht h6 ht hf
   by_cases h7 : t.kind = 7
   · exact wterm_7 t acc v ht h7 ih hf
   have h8 : t.kind = 8 := by omega
   rw [nodeB_8 h8, Bool.and_eq_true, Bool.and_eq_true, decide_eq_true_eq] at hn
   exact wterm_8 t acc v ht h8 ih hn.1.2 hf
theorem kidsW_le {l : List LTerm} (h : ∀ t ∈ l, (writeT t).length + 10 ≤ 400 * nodesT t) : (listW (l.map writeT)).length ≤ 400 * nodesL l := by
 induction l with
 | nil => simp [nodesL]
 | cons a l ih =>
   have h1 := h a (by simp)
   have key : ∀ m : List LTerm, (∀ t ∈ m, (writeT t).length + 10 ≤ 400 * nodesT t) → ((m.map writeT).flatMap fun s => 44 :: 32 :: s).length ≤ 400 * nodesL m := by
     intro m
     induction m with
     | nil => intro _; simp [nodesL]
     | cons x m ih =>
       intro hm
       have i1 := ih (fun s hs => hm s (List.mem_cons_of_mem _ hs))
       have i2 := hm x (by simp)
       simp only [List.map_cons, List.flatMap_cons, List.length_append, List.length_cons, nodesL]
       omega
   have h2 := key l (fun s hs => h s (List.mem_cons_of_mem _ hs))
   simp only [List.map_cons, listW, List.length_append, nodesL]
   omega
theorem pairsW_le : ∀ (l : List LTerm), (∀ t ∈ l, (writeT t).length + 10 ≤ 400 * nodesT t) → (listW (pairW (l.map writeT))).length ≤ 400 * nodesL l := by
 have key : ∀ (n : Nat) (m : List LTerm), m.length ≤ n → (∀ t ∈ m, (writeT t).length + 10 ≤ 400 * nodesT t) → ((pairW (m.map writeT)).flatMap fun s => 44 :: 32 :: s).length ≤ 400 * nodesL m := by
   intro n
   induction n with
   | zero => intro m hm _; have : m = [] := List.eq_nil_of_length_eq_zero (by omega); subst this; simp [pairW, nodesL]
   | succ n ih =>
     intro m hm h
     match m with
     | [] => simp [pairW, nodesL]
     | [x] => simp [pairW]
     | x :: y :: m =>
       have i1 := ih m (by simp only [List.length_cons] at hm; omega) (fun s hs => h s (by simp [hs]))
       have i2 := h x (by simp)
       have i3 := h y (by simp)
       simp only [List.map_cons, pairW, List.flatMap_cons, List.length_append, List.length_cons, nodesL] at i1 ⊢
       omega
 intro l h
 have := key _ l (Nat.le_refl _) h
 have h2 : (listW (pairW (l.map writeT))).length ≤ ((pairW (l.map writeT)).flatMap fun s => 44 :: 32 :: s).length := by
   cases pairW (l.map writeT) with
   | nil => simp
   | cons a m => simp only [listW, List.flatMap_cons, List.length_append, List.length_cons]; omega
 omega
theorem nameW_len {s : Str} (h : isName s = true) : s.length ≤ 40 := by
 simp only [isName, Bool.and_eq_true, decide_eq_true_eq] at h
 exact h.1.1.2
theorem op_len {s : Str} (h : opName s = true) : s.length ≤ 42 := by
 have h1 := nameW_len h
 unfold base at h1
 split at h1
 · rw [List.length_take] at h1; omega
 · omega
theorem rest_len {t : LTerm} {so : Str} (h : restB t so = true) : (restW t.kids.length t.rest).length ≤ 43 := by
 simp only [restB, Bool.or_eq_true, Bool.and_eq_true, decide_eq_true_eq] at h
 rcases h with h | h
 · rw [List.eq_nil_of_length_eq_zero h]; simp
 · obtain ⟨⟨⟨⟨ha, hb⟩, hc⟩, hd⟩, he⟩ := h
   obtain ⟨u, hu⟩ := List.length_eq_one_iff.1 ha
   have hn := hc
   rw [hu] at hn ⊢
   have := nameW_len (s := u.text) hn
   simp only [restW, oneRest, List.flatMap_cons, List.flatMap_nil, List.append_nil, List.length_append, List.length_cons]
   split <;> simp <;> omega
theorem write_len : ∀ t : LTerm, wfT nodeB t = true → (writeT t).length + 10 ≤ 400 * nodesT t :=
 term_ind (Q := fun t => wfT nodeB t = true → (writeT t).length + 10 ≤ 400 * nodesT t) fun t hk _ hw => by
   have hw' := wfT_eq.1 hw
   have ih := kidsW_le (fun k hm => hk k hm (hw'.2 k hm))
   have ih2 := pairsW_le t.kids (fun k hm => hk k hm (hw'.2 k hm))
   have hn := hw'.1
   have hr := nodeB_k hn
   have e := write_eq t
   have en : nodesT t = 1 + t.rest.length + nodesL t.kids := by cases t; rw [nodesT]; rfl
   by_cases h1 : t.kind = 1
   · rw [nodeB_1 h1, Bool.and_eq_true] at hn
     have hi : -2147483647 ≤ t.n ∧ t.n ≤ 2147483647 := by simpa only [isInt, Bool.and_eq_true, decide_eq_true_eq] using hn.1
     have := Lib.itoa_length_le t.n (by omega) (by omega)
     rw [e, if_pos h1]; omega
   by_cases h2 : t.kind = 2
   · rw [e, if_neg h1, if_pos h2]
     have : (boolW (decide (t.n = 1))).length ≤ 5 := by unfold boolW; split <;> simp
     omega
   by_cases h3 : t.kind = 3
   · rw [nodeB_3 h3, Bool.and_eq_true] at hn
     have : t.text.length ≤ 200 := by
       have := hn.1
       simp only [isText, Bool.and_eq_true, decide_eq_true_eq] at this
       exact this.2
     rw [e, if_neg h1, if_neg h2, if_pos h3]
     simp only [List.length_cons, List.length_append, List.length_nil]; omega
   by_cases h4 : t.kind = 4
   · rw [nodeB_4 h4, Bool.and_eq_true] at hn
     have : t.text.length ≤ 40 := by
       have := hn.1
       simp only [isId, Bool.and_eq_true] at this
       exact nameW_len (by first | exact this.1.1.1 | exact this.1.1 | exact this.1.1.1.1 | exact this.1)
     rw [e, if_neg h1, if_neg h2, if_neg h3, if_pos h4]
     simp only [List.length_cons]; omega
   by_cases h5 : t.kind = 5
   · rw [nodeB_5 h5, Bool.and_eq_true, Bool.and_eq_true] at hn
     have := op_len hn.1.1
     rw [e, if_neg h1, if_neg h2, if_neg h3, if_neg h4, if_pos h5]
     simp only [List.length_cons, List.length_append, List.length_nil]; omega
   by_cases h6 : t.kind = 6
   · have hb : t.text.length ≤ 40 ∧ (openS t.text = true ∨ t.sort.length ≤ 40) := by
       simp only [nodeB, h6] at hn
       rcases bool_em (openS t.text) with ho | ho
       · refine ⟨?_, .inl ho⟩
         simp only [openS, Bool.or_eq_true, decide_eq_true_eq] at ho
         rcases ho with ho | ho <;> rw [ho] <;> decide
       · simp only [ho, Int.reduceEq, if_false, Bool.false_eq_true, if_true, Bool.and_eq_true] at hn
         exact ⟨nameW_len hn.1.1, .inr (nameW_len hn.1.2)⟩
     rw [e, if_neg h1, if_neg h2, if_neg h3, if_neg h4, if_neg h5, if_pos h6]
     split
     · simp only [List.length_append, List.length_nil]; omega
     · rename_i ho
       have := hb.2.resolve_left ho
       simp only [List.length_append, List.length_cons]; omega
   by_cases h7 : t.kind = 7
   · rw [nodeB_7 h7, Bool.and_eq_true] at hn
     have := rest_len hn.1
     rw [e, if_neg h1, if_neg h2, if_neg h3, if_neg h4, if_neg h5, if_neg h6, if_pos h7]
     simp only [List.length_cons, List.length_append, List.length_nil]; omega
   have h8 : t.kind = 8 := by omega
   rw [nodeB_8 h8, Bool.and_eq_true, Bool.and_eq_true] at hn
   have := rest_len hn.1.1
   rw [e, if_neg h1, if_neg h2, if_neg h3, if_neg h4, if_neg h5, if_neg h6, if_neg h7, if_pos h8]
   simp only [List.length_cons, List.length_append, List.length_nil]; omega
end Go.Proofs.YtnjnjdebgkjfhaaGreatDoor

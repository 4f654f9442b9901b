/-
  What functions of the chapter return, as plain functions of what they are given; no condition beyond those that each theorem names.
-/
import Derived.Test.YtnjnjdebgkjfhaaGreatDoorVaP52
import Derived.Test.YtnjnjdebgkjfhaaGreatDoorTeP53
set_option maxRecDepth 100000
set_option linter.unusedSimpArgs false
set_option linter.unusedVariables false
set_option maxHeartbeats 4000000
namespace Go.Proofs.YtnjnjdebgkjfhaaGreatDoor
open Go Go.Vo
open Nat (reduceAdd reduceSub reduceMul reduceLeDiff reduceLT reduceEqDiff)
open Int (reduceNeg)

@[simp] theorem listW_nil : listW [] = [] := rfl
@[simp] theorem restW_nil {n : Nat} : restW n [] = [] := rfl
@[simp] theorem pairW_nil : pairW [] = [] := rfl
abbrev WrK (l' : Str) : AV → List AObj → Prop := fun r h' => r = .tup [] ∧ ∃ v' tl, h' = bldB TW v' :: bldU TB v' l' :: tl
theorem wr_fin {v : Value} {l l' : Str} {tl : List AObj} (e : l = l') : WrK l' (.tup []) (bldB TW v :: bldU TB v l :: tl) := ⟨rfl, v, tl, by rw [e]⟩
abbrev WrT (t : LTerm) : Prop := ∀ acc : Str, acc.length + (writeT t).length ≤ 140737488355328 → WrP 136 [.ptr 0 0, elT t] (.tup []) acc (acc ++ writeT t)
theorem wlist1 (l : List LTerm) (acc : Str) (v : Value) (hl : l.length ≤ 1466015503701) (hf : acc.length + (listW (l.map writeT)).length ≤ 140737488355328) (ih : ∀ t ∈ l, WrT t): ACalls Tryz.prog G0 198 [.ptr 0 0, avt l] [bldB TW v, bldU TB v acc] (WrK (acc ++ listW (l.map writeT))) := by
 refine acalls_intro (rx := false) (th := fun _ => none) mixed Tryz.func198 rfl (by kernel_rfl) (by kernel_rfl) (ac := ?_) ?_ ?_
 rotate_left
 · simp only [strip, splitQ, stripOps, stripOp, hoist, List.filter_cons, List.filter_nil, List.nil_append, List.cons_append, isFree, anyPre, Region.binds, Bool.not_true, Bool.not_false, Bool.false_eq_true, if_true, if_false, Option.isNone_none, Option.isNone_some, Bool.true_and, Bool.false_and, List.map_nil, List.map_cons, List.isEmpty_nil, List.isEmpty_cons, List.append_nil]
   rfl
 · simp -implicitDefEqProofs (disch := omega) only [Tryz.f198, go_sem, List.replicate, ↓reduceIte, reduceAdd, reduceSub, reduceMul, reduceLeDiff, reduceLT, reduceEqDiff, reduceNeg, Nat.reduceBEq, avt]
   refine x_loopG (fun (s : Nat × Value) => [.k, .k, .k, .k, .j, .j, .k, .k, .v (.i .i64 (s.1 : Nat)), .j, .j, .j, .j, .j, .j, .j, .j, .j, .j, .j, .j, .j, .j]) (fun s => [bldB TW s.2, bldU TB s.2 (acc ++ listW ((l.take s.1).map writeT))]) (fun s => s.1 ≤ l.length) (fun s => l.length - s.1) ((0, v)) [] (Nat.zero_le _) (by simp [avs, avb, avi, avo, opCells, sigCells]) (by simp [Fits]) ?_
   rintro ⟨k, v⟩ g j hk
   dsimp only at hk ⊢
   by_cases hlt : k < l.length
   · have hki : (k : Int) < ((l.length : Nat) : Int) := by omega
     have f1 := listW_take hlt
     have f2 := listW_mono (k := k + 1) hlt
     have f3 := congrArg List.length f1
     have ih1 := ih _ (mem_getD (d := default) hlt)
     by_cases hk0 : 0 < k
     · have hk1 : (0 : Int) < (k : Int) := by omega
       rw [if_pos hk0] at f1 f3
       simp only [List.length_append, List.length_cons, List.length_nil] at f3
       have e1 : acc ++ listW ((l.take (k + 1)).map writeT) = acc ++ (listW ((l.take k).map writeT) ++ 44 :: 32 :: writeT (l.getD k default)) := by rw [f1]; rfl
       have w1 := wrS (acc := acc ++ listW ((l.take k).map writeT)) (s := [44, 32]) (by simp only [List.length_append, List.length_cons, List.length_nil]; omega)
       have w2 := ih1 (acc ++ (listW ((l.take k).map writeT) ++ [44, 32])) (by simp only [List.length_append, List.length_cons, List.length_nil]; omega)
       simp -implicitDefEqProofs (disch := omega) only [zt hki, zt hk1, go_sem, ↓reduceIte, reduceAdd, reduceSub, reduceMul, reduceLeDiff, reduceLT, reduceEqDiff, reduceNeg, Nat.reduceBEq]
       (repeat' (first | refine gT ?_ ?_ | refine gF ?_ ?_ | refine gC ?_ ?_ | (refine c_bld 0 1 g0 (w1) rfl (by decide) rfl rfl (by first | rfl | (simp only [renL, ren, elT, termCells_eq, avt, renL_pers _ _ persTs, emb01]; done)) ?_; intro v9 g9; simp -implicitDefEqProofs (disch := omega) only [zt hki, zt hk1, go_sem, ↓reduceIte, reduceAdd, reduceSub, reduceMul, reduceLeDiff, reduceLT, reduceEqDiff, reduceNeg, Nat.reduceBEq]) | (refine c_bld 0 1 g0 (w2) rfl (by decide) rfl rfl (by first | rfl | (simp only [renL, ren, elT, termCells_eq, avt, renL_pers _ _ persTs, emb01]; done)) ?_; intro v9 g9; simp -implicitDefEqProofs (disch := omega) only [zt hki, zt hk1, go_sem, ↓reduceIte, reduceAdd, reduceSub, reduceMul, reduceLeDiff, reduceLT, reduceEqDiff, reduceNeg, Nat.reduceBEq]) | refine And.intro (by omega) ?_ | (intro hr; have hc := hr; (try simp only [zda, zdb, zdc, zdd] at hc); simp -implicitDefEqProofs (disch := omega) only [hr, zt hki, zt hk1, go_sem, ↓reduceIte, reduceAdd, reduceSub, reduceMul, reduceLeDiff, reduceLT, reduceEqDiff, reduceNeg, Nat.reduceBEq]; (try clear hr))))
       all_goals first
         | (exfalso; omega)
         | exact ⟨(k + 1, v9), _, by dsimp only; omega, by dsimp only; omega, by dsimp only; rw [e1], by simp⟩
     · have hk1 : ¬ (0 : Int) < (k : Int) := by omega
       rw [if_neg hk0] at f1 f3
       simp only [List.length_append, List.length_cons, List.length_nil] at f3
       have e1 : acc ++ listW ((l.take (k + 1)).map writeT) = acc ++ (listW ((l.take k).map writeT) ++ writeT (l.getD k default)) := by rw [f1]; rfl
       have w2 := ih1 (acc ++ listW ((l.take k).map writeT)) (by simp only [List.length_append]; omega)
       simp -implicitDefEqProofs (disch := omega) only [zt hki, zf hk1, go_sem, ↓reduceIte, reduceAdd, reduceSub, reduceMul, reduceLeDiff, reduceLT, reduceEqDiff, reduceNeg, Nat.reduceBEq]
       (repeat' (first | refine gT ?_ ?_ | refine gF ?_ ?_ | refine gC ?_ ?_ | (refine c_bld 0 1 g0 (w2) rfl (by decide) rfl rfl (by first | rfl | (simp only [renL, ren, elT, termCells_eq, avt, renL_pers _ _ persTs, emb01]; done)) ?_; intro v9 g9; simp -implicitDefEqProofs (disch := omega) only [zt hki, zf hk1, go_sem, ↓reduceIte, reduceAdd, reduceSub, reduceMul, reduceLeDiff, reduceLT, reduceEqDiff, reduceNeg, Nat.reduceBEq]) | refine And.intro (by omega) ?_ | (intro hr; have hc := hr; (try simp only [zda, zdb, zdc, zdd] at hc); simp -implicitDefEqProofs (disch := omega) only [hr, zt hki, zf hk1, go_sem, ↓reduceIte, reduceAdd, reduceSub, reduceMul, reduceLeDiff, reduceLT, reduceEqDiff, reduceNeg, Nat.reduceBEq]; (try clear hr))))
       all_goals first
         | (exfalso; omega)
         | exact ⟨(k + 1, v9), _, by dsimp only; omega, by dsimp only; omega, by dsimp only; rw [e1], by simp⟩
   · have hki : ¬ (k : Int) < ((l.length : Nat) : Int) := by omega
     simp -implicitDefEqProofs (disch := omega) only [zf hki, go_sem, ↓reduceIte, reduceAdd, reduceSub, reduceMul, reduceLeDiff, reduceLT, reduceEqDiff, reduceNeg, Nat.reduceBEq]
     (repeat' (first | refine gT ?_ ?_ | refine gF ?_ ?_ | refine gC ?_ ?_ | refine And.intro (by omega) ?_ | (intro hr; have hc := hr; (try simp only [zda, zdb, zdc, zdd] at hc); simp -implicitDefEqProofs (disch := omega) only [hr, zf hki, go_sem, ↓reduceIte, reduceAdd, reduceSub, reduceMul, reduceLeDiff, reduceLT, reduceEqDiff, reduceNeg, Nat.reduceBEq]; (try clear hr))))
     all_goals first
       | (exfalso; omega)
       | exact wr_fin (by first | rfl | rw [List.take_of_length_le (by omega)])
theorem wlist {l : List LTerm} (hl : l.length ≤ 1466015503701) (ih : ∀ t ∈ l, WrT t) (acc : Str) (hf : acc.length + (listW (l.map writeT)).length ≤ 140737488355328) : WrP 198 [.ptr 0 0, avt l] (.tup []) acc (acc ++ listW (l.map writeT)) :=
 fun v => wlist1 l acc v hl hf ih
theorem wrest1 (t : LTerm) (acc : Str) (v : Value) (ht : OkT t) (hf : acc.length + (restW t.kids.length t.rest).length ≤ 140737488355328): ACalls Tryz.prog G0 199 [.ptr 0 0, elT t] [bldB TW v, bldU TB v acc] (WrK (acc ++ restW t.kids.length t.rest)) := by
 refine acalls_intro (rx := false) (th := fun _ => some 1000000) mixed Tryz.func199 rfl (by kernel_rfl) (by kernel_rfl) (ac := ?_) ?_ ?_
 rotate_left
 · simp only [strip, splitQ, stripOps, stripOp, hoist, List.filter_cons, List.filter_nil, List.nil_append, List.cons_append, isFree, anyPre, Region.binds, Bool.not_true, Bool.not_false, Bool.false_eq_true, if_true, if_false, Option.isNone_none, Option.isNone_some, Bool.true_and, Bool.false_and, List.map_nil, List.map_cons, List.isEmpty_nil, List.isEmpty_cons, List.append_nil, splitL, Nat.reduceBEq, List.getElem?_toArray]
   rfl
 · simp -implicitDefEqProofs (disch := omega) only [Tryz.f199, go_sem, List.replicate, ↓reduceIte, reduceAdd, reduceSub, reduceMul, reduceLeDiff, reduceLT, reduceEqDiff, reduceNeg, Nat.reduceBEq]
   have hr1 := ht.rest
   (repeat' (first | refine gT ?_ ?_ | refine gF ?_ ?_ | refine gC ?_ ?_ | refine And.intro (by omega) ?_ | (intro hr; have hc := hr; (try simp only [zda, zdb, zdc, zdd] at hc); simp -implicitDefEqProofs (disch := omega) only [hr, go_sem, ↓reduceIte, reduceAdd, reduceSub, reduceMul, reduceLeDiff, reduceLT, reduceEqDiff, reduceNeg, Nat.reduceBEq]; (try clear hr))))
   refine x_loopG (fun (s : Nat × Value) => [.k, .k, .k, .k, .k, .j, .k, .k, .k, .v (.i .i64 (s.1 : Nat)), .j, .j, .j, .j, .j, .j, .j, .j, .j, .j, .j, .j, .j, .j, .j, .j, .j, .j, .j]) (fun s => [bldB TW s.2, bldU TB s.2 (acc ++ restW t.kids.length (t.rest.take s.1)), .box false [.i .i64 (t).kind, .i .i64 (t).n, .s (t).text, .s (t).sort, .sl ((t).kids.flatMap termCells) (t).kids.length, .sl ((t).rest.flatMap termCells) (t).rest.length]]) (fun s => s.1 ≤ t.rest.length) (fun s => t.rest.length - s.1) ((0, v)) [] (Nat.zero_le _) (by simp [avs, avb, avi, avo, opCells, sigCells]) (by simp [Fits]) ?_
   rintro ⟨k, v⟩ g j hk
   dsimp only at hk ⊢
   by_cases hlt : k < t.rest.length
   · have hki : (k : Int) < ((t.rest.length : Nat) : Int) := by omega
     have f1 := restW_take (n := t.kids.length) hlt
     have f2 := restW_mono (n := t.kids.length) (k := k + 1) (r := t.rest) hlt
     have f3 := congrArg List.length f1
     by_cases hk0 : 0 < t.kids.length
     · have hk1 : (0 : Int) < ((t.kids.length : Nat) : Int) := by omega
       rw [oneRest, if_pos hk0] at f1 f3
       simp only [List.length_append, List.length_cons, List.length_nil] at f3
       have e1 : acc ++ restW t.kids.length (t.rest.take (k + 1)) = acc ++ (restW t.kids.length (t.rest.take k) ++ 32 :: 124 :: 32 :: (t.rest.getD k default).text) := by rw [f1]; rfl
       have w1 := wrS (acc := acc ++ restW t.kids.length (t.rest.take k)) (s := [32]) (by simp only [List.length_append, List.length_cons, List.length_nil]; omega)
       have w2 := wrS (acc := acc ++ (restW t.kids.length (t.rest.take k) ++ [32])) (s := 124 :: 32 :: (t.rest.getD k default).text) (by simp only [List.length_append, List.length_cons, List.length_nil]; omega)
       simp -implicitDefEqProofs (disch := omega) only [zt hki, zt hk1, go_sem, ↓reduceIte, reduceAdd, reduceSub, reduceMul, reduceLeDiff, reduceLT, reduceEqDiff, reduceNeg, Nat.reduceBEq]
       (repeat' (first | refine gT ?_ ?_ | refine gF ?_ ?_ | refine gC ?_ ?_ | (refine c_bld 0 1 g0 (w1) rfl (by decide) rfl rfl (by first | rfl | (simp only [renL, ren, elT, termCells_eq, avt, renL_pers _ _ persTs, emb01]; done)) ?_; intro v9 g9; simp -implicitDefEqProofs (disch := omega) only [zt hki, zt hk1, go_sem, ↓reduceIte, reduceAdd, reduceSub, reduceMul, reduceLeDiff, reduceLT, reduceEqDiff, reduceNeg, Nat.reduceBEq]) | (refine c_bld 0 1 g0 (w2) rfl (by decide) rfl rfl (by first | rfl | (simp only [renL, ren, elT, termCells_eq, avt, renL_pers _ _ persTs, emb01]; done)) ?_; intro v9 g9; simp -implicitDefEqProofs (disch := omega) only [zt hki, zt hk1, go_sem, ↓reduceIte, reduceAdd, reduceSub, reduceMul, reduceLeDiff, reduceLT, reduceEqDiff, reduceNeg, Nat.reduceBEq]) | refine And.intro (by omega) ?_ | (intro hr; have hc := hr; (try simp only [zda, zdb, zdc, zdd] at hc); simp -implicitDefEqProofs (disch := omega) only [hr, zt hki, zt hk1, go_sem, ↓reduceIte, reduceAdd, reduceSub, reduceMul, reduceLeDiff, reduceLT, reduceEqDiff, reduceNeg, Nat.reduceBEq]; (try clear hr))))
       all_goals first
         | (exfalso; omega)
         | exact ⟨(k + 1, v9), _, by dsimp only; omega, by dsimp only; omega, by dsimp only; rw [e1], by simp⟩
     · have hk1 : ¬ (0 : Int) < ((t.kids.length : Nat) : Int) := by omega
       rw [oneRest, if_neg hk0] at f1 f3
       simp only [List.length_append, List.length_cons, List.length_nil] at f3
       have e1 : acc ++ restW t.kids.length (t.rest.take (k + 1)) = acc ++ (restW t.kids.length (t.rest.take k) ++ 124 :: 32 :: (t.rest.getD k default).text) := by rw [f1]; rfl
       have w2 := wrS (acc := acc ++ restW t.kids.length (t.rest.take k)) (s := 124 :: 32 :: (t.rest.getD k default).text) (by simp only [List.length_append, List.length_cons, List.length_nil]; omega)
       simp -implicitDefEqProofs (disch := omega) only [zt hki, zf hk1, go_sem, ↓reduceIte, reduceAdd, reduceSub, reduceMul, reduceLeDiff, reduceLT, reduceEqDiff, reduceNeg, Nat.reduceBEq]
       (repeat' (first | refine gT ?_ ?_ | refine gF ?_ ?_ | refine gC ?_ ?_ | (refine c_bld 0 1 g0 (w2) rfl (by decide) rfl rfl (by first | rfl | (simp only [renL, ren, elT, termCells_eq, avt, renL_pers _ _ persTs, emb01]; done)) ?_; intro v9 g9; simp -implicitDefEqProofs (disch := omega) only [zt hki, zf hk1, go_sem, ↓reduceIte, reduceAdd, reduceSub, reduceMul, reduceLeDiff, reduceLT, reduceEqDiff, reduceNeg, Nat.reduceBEq]) | refine And.intro (by omega) ?_ | (intro hr; have hc := hr; (try simp only [zda, zdb, zdc, zdd] at hc); simp -implicitDefEqProofs (disch := omega) only [hr, zt hki, zf hk1, go_sem, ↓reduceIte, reduceAdd, reduceSub, reduceMul, reduceLeDiff, reduceLT, reduceEqDiff, reduceNeg, Nat.reduceBEq]; (try clear hr))))
       all_goals first
         | (exfalso; omega)
         | exact ⟨(k + 1, v9), _, by dsimp only; omega, by dsimp only; omega, by dsimp only; rw [e1], by simp⟩
   · have hki : ¬ (k : Int) < ((t.rest.length : Nat) : Int) := by omega
     simp -implicitDefEqProofs (disch := omega) only [zf hki, go_sem, ↓reduceIte, reduceAdd, reduceSub, reduceMul, reduceLeDiff, reduceLT, reduceEqDiff, reduceNeg, Nat.reduceBEq]
     (repeat' (first | refine gT ?_ ?_ | refine gF ?_ ?_ | refine gC ?_ ?_ | refine And.intro (by omega) ?_ | (intro hr; have hc := hr; (try simp only [zda, zdb, zdc, zdd] at hc); simp -implicitDefEqProofs (disch := omega) only [hr, zf hki, go_sem, ↓reduceIte, reduceAdd, reduceSub, reduceMul, reduceLeDiff, reduceLT, reduceEqDiff, reduceNeg, Nat.reduceBEq]; (try clear hr))))
     all_goals first
       | (exfalso; omega)
       | exact wr_fin (by first | rfl | rw [List.take_of_length_le (by omega)])
theorem wrest {t : LTerm} (ht : OkT t) (acc : Str) (hf : acc.length + (restW t.kids.length t.rest).length ≤ 140737488355328) : WrP 199 [.ptr 0 0, elT t] (.tup []) acc (acc ++ restW t.kids.length t.rest) :=
 fun v => wrest1 t acc v ht hf
end Go.Proofs.YtnjnjdebgkjfhaaGreatDoor

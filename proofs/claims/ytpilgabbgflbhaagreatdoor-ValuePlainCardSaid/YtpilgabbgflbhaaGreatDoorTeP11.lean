/-
  What functions of the chapter return, as plain functions of what they are given; no condition beyond those that each theorem names.
-/
import Derived.Test.YtpilgabbgflbhaaGreatDoorTeP8
set_option maxRecDepth 100000
set_option linter.unusedSimpArgs false
set_option linter.unusedVariables false
set_option maxHeartbeats 4000000
namespace Go.Proofs.YtpilgabbgflbhaaGreatDoor
open Go Go.Vo
open Nat (reduceAdd reduceSub reduceMul reduceLeDiff reduceLT reduceEqDiff)
open Int (reduceNeg)

theorem ctr206 (s : LSig) (x : Str) (l : List LTerm) (hs : OkS s) (hl : l.length ≤ 1466015503701) (ol : ∀ t ∈ l, OkT t): CT 9 [.agg (sigCells s), .s x, avt l] (.b true) := by
 refine sem_introA mixed Tryz.func9 g0 ?_
 · simp -implicitDefEqProofs (disch := omega) only [Tryz.f9, go_sem, List.replicate, ↓reduceIte, reduceAdd, reduceSub, reduceMul, reduceLeDiff, reduceLT, reduceEqDiff, reduceNeg, Nat.reduceBEq, avt]
   rcases bool_em (fewV s l) with hf | hf
   · have hm := fewV_small hf
     have c1 := ctr209V s x l hm hs hl ol
     have ok := apply_ok hm hs ol (x := x)
     have o := ok.inn.ok
     by_cases h0 : (applyV s x l).2 = 0
     · obtain ⟨hb, hv, hm2⟩ := apply_sort h0
       have hp := ok.val h0
       generalize applyV s x l = p at c1 o h0 hp hm2
       have c3 := ctr214 x
       rw [tellC, if_pos hb] at c3
       have c4 := ctr224 s p.1 hm hs o
       rw [hv, hp] at c4
       have c5 := ctr226 s p.1 (resultP x) hm hs hv hp
       rw [hm2] at c5
       (repeat' (first | refine gT ?_ ?_ | refine gF ?_ ?_ | refine gC ?_ ?_ | ((first | (refine c_ctrE (ctr207 s l hs hl ol) ?_ ?_; (focus (simp -implicitDefEqProofs (disch := omega) only [hf, h0, eq_self, decide_true, Bool.and_self, avs, avb, avi, avo, sigCells, opCells, pairCells, elT, avt, termCells_eq, go_sem, ↓reduceIte, reduceAdd, reduceSub, reduceMul, reduceLeDiff, reduceLT, reduceEqDiff, reduceNeg, Nat.reduceBEq]; done))) | (refine c_ctrE (c1) ?_ ?_; (focus (simp -implicitDefEqProofs (disch := omega) only [hf, h0, eq_self, decide_true, Bool.and_self, avs, avb, avi, avo, sigCells, opCells, pairCells, elT, avt, termCells_eq, go_sem, ↓reduceIte, reduceAdd, reduceSub, reduceMul, reduceLeDiff, reduceLT, reduceEqDiff, reduceNeg, Nat.reduceBEq]; done))) | (refine c_ctrE (c3) ?_ ?_; (focus (simp -implicitDefEqProofs (disch := omega) only [hf, h0, eq_self, decide_true, Bool.and_self, avs, avb, avi, avo, sigCells, opCells, pairCells, elT, avt, termCells_eq, go_sem, ↓reduceIte, reduceAdd, reduceSub, reduceMul, reduceLeDiff, reduceLT, reduceEqDiff, reduceNeg, Nat.reduceBEq]; done))) | (refine c_ctrE (c4) ?_ ?_; (focus (simp -implicitDefEqProofs (disch := omega) only [hf, h0, eq_self, decide_true, Bool.and_self, avs, avb, avi, avo, sigCells, opCells, pairCells, elT, avt, termCells_eq, go_sem, ↓reduceIte, reduceAdd, reduceSub, reduceMul, reduceLeDiff, reduceLT, reduceEqDiff, reduceNeg, Nat.reduceBEq]; done))) | (refine c_ctrE (c5) ?_ ?_; (focus (simp -implicitDefEqProofs (disch := omega) only [hf, h0, eq_self, decide_true, Bool.and_self, avs, avb, avi, avo, sigCells, opCells, pairCells, elT, avt, termCells_eq, go_sem, ↓reduceIte, reduceAdd, reduceSub, reduceMul, reduceLeDiff, reduceLT, reduceEqDiff, reduceNeg, Nat.reduceBEq]; done))) | (refine c_ctrE (ctr208) ?_ ?_; (focus (simp -implicitDefEqProofs (disch := omega) only [hf, h0, eq_self, decide_true, Bool.and_self, avs, avb, avi, avo, sigCells, opCells, pairCells, elT, avt, termCells_eq, go_sem, ↓reduceIte, reduceAdd, reduceSub, reduceMul, reduceLeDiff, reduceLT, reduceEqDiff, reduceNeg, Nat.reduceBEq]; done)))); simp -implicitDefEqProofs (disch := omega) only [hf, h0, eq_self, decide_true, Bool.and_self, go_sem, ↓reduceIte, reduceAdd, reduceSub, reduceMul, reduceLeDiff, reduceLT, reduceEqDiff, reduceNeg, Nat.reduceBEq]) | refine And.intro (by omega) ?_ | (intro hr; have hc := hr; (try simp only [zda, zdb, zdc, zdd] at hc); simp -implicitDefEqProofs (disch := omega) only [hr, hf, h0, eq_self, decide_true, Bool.and_self, go_sem, ↓reduceIte, reduceAdd, reduceSub, reduceMul, reduceLeDiff, reduceLT, reduceEqDiff, reduceNeg, Nat.reduceBEq]; (try clear hr))))
       all_goals exact fin_eq rfl rfl
     · have e := ok.inn.err h0
       generalize applyV s x l = p at c1 o h0 e
       obtain ⟨t, c⟩ := p
       dsimp only at e h0
       subst e
       (repeat' (first | refine gT ?_ ?_ | refine gF ?_ ?_ | refine gC ?_ ?_ | ((first | (refine c_ctrE (ctr207 s l hs hl ol) ?_ ?_; (focus (simp -implicitDefEqProofs (disch := omega) only [hf, decide_eq_false h0, eq_self, decide_true, avs, avb, avi, avo, sigCells, opCells, pairCells, elT, avt, termCells_eq, go_sem, ↓reduceIte, reduceAdd, reduceSub, reduceMul, reduceLeDiff, reduceLT, reduceEqDiff, reduceNeg, Nat.reduceBEq]; done))) | (refine c_ctrE (c1) ?_ ?_; (focus (simp -implicitDefEqProofs (disch := omega) only [hf, decide_eq_false h0, eq_self, decide_true, avs, avb, avi, avo, sigCells, opCells, pairCells, elT, avt, termCells_eq, go_sem, ↓reduceIte, reduceAdd, reduceSub, reduceMul, reduceLeDiff, reduceLT, reduceEqDiff, reduceNeg, Nat.reduceBEq]; done))) | (refine c_ctrE (ctr211 tZ tZ okT_Z okT_Z) ?_ ?_; (focus (simp -implicitDefEqProofs (disch := omega) only [hf, decide_eq_false h0, eq_self, decide_true, avs, avb, avi, avo, sigCells, opCells, pairCells, elT, avt, termCells_eq, go_sem, ↓reduceIte, reduceAdd, reduceSub, reduceMul, reduceLeDiff, reduceLT, reduceEqDiff, reduceNeg, Nat.reduceBEq]; done))) | (refine c_ctrE (ctr208) ?_ ?_; (focus (simp -implicitDefEqProofs (disch := omega) only [hf, decide_eq_false h0, eq_self, decide_true, avs, avb, avi, avo, sigCells, opCells, pairCells, elT, avt, termCells_eq, go_sem, ↓reduceIte, reduceAdd, reduceSub, reduceMul, reduceLeDiff, reduceLT, reduceEqDiff, reduceNeg, Nat.reduceBEq]; done)))); simp -implicitDefEqProofs (disch := omega) only [hf, decide_eq_false h0, eq_self, decide_true, go_sem, ↓reduceIte, reduceAdd, reduceSub, reduceMul, reduceLeDiff, reduceLT, reduceEqDiff, reduceNeg, Nat.reduceBEq]) | refine And.intro (by omega) ?_ | (intro hr; have hc := hr; (try simp only [zda, zdb, zdc, zdd] at hc); simp -implicitDefEqProofs (disch := omega) only [hr, hf, decide_eq_false h0, eq_self, decide_true, go_sem, ↓reduceIte, reduceAdd, reduceSub, reduceMul, reduceLeDiff, reduceLT, reduceEqDiff, reduceNeg, Nat.reduceBEq]; (try clear hr))))
       all_goals exact fin_eq rfl rfl
   · (repeat' (first | refine gT ?_ ?_ | refine gF ?_ ?_ | refine gC ?_ ?_ | ((first | (refine c_ctrE (ctr207 s l hs hl ol) ?_ ?_; (focus (simp -implicitDefEqProofs (disch := omega) only [hf, avs, avb, avi, avo, sigCells, opCells, pairCells, elT, avt, termCells_eq, go_sem, ↓reduceIte, reduceAdd, reduceSub, reduceMul, reduceLeDiff, reduceLT, reduceEqDiff, reduceNeg, Nat.reduceBEq]; done))) | (refine c_ctrE (ctr208) ?_ ?_; (focus (simp -implicitDefEqProofs (disch := omega) only [hf, avs, avb, avi, avo, sigCells, opCells, pairCells, elT, avt, termCells_eq, go_sem, ↓reduceIte, reduceAdd, reduceSub, reduceMul, reduceLeDiff, reduceLT, reduceEqDiff, reduceNeg, Nat.reduceBEq]; done)))); simp -implicitDefEqProofs (disch := omega) only [hf, go_sem, ↓reduceIte, reduceAdd, reduceSub, reduceMul, reduceLeDiff, reduceLT, reduceEqDiff, reduceNeg, Nat.reduceBEq]) | refine And.intro (by omega) ?_ | (intro hr; have hc := hr; (try simp only [zda, zdb, zdc, zdd] at hc); simp -implicitDefEqProofs (disch := omega) only [hr, hf, go_sem, ↓reduceIte, reduceAdd, reduceSub, reduceMul, reduceLeDiff, reduceLT, reduceEqDiff, reduceNeg, Nat.reduceBEq]; (try clear hr))))
     exact fin_eq rfl rfl
end Go.Proofs.YtpilgabbgflbhaaGreatDoor

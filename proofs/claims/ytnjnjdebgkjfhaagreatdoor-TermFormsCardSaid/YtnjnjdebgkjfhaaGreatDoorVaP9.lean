/-
  What functions of the chapter return, as plain functions of what they are given; no condition beyond those that each theorem names.
-/
import Derived.Test.YtnjnjdebgkjfhaaGreatDoorVaP7
import Derived.Test.YtnjnjdebgkjfhaaGreatDoorSoP4
set_option maxRecDepth 100000
set_option linter.unusedSimpArgs false
set_option linter.unusedVariables false
set_option maxHeartbeats 4000000
namespace Go.Proofs.YtnjnjdebgkjfhaaGreatDoor
open Go Go.Vo
open Nat (reduceAdd reduceSub reduceMul reduceLeDiff reduceLT reduceEqDiff)
open Int (reduceNeg)

def opFitG (s : LSig) (t : LTerm) : Bool := decide ((argsR2 s t.text).1.length = t.kids.length) && allN t.kids.length (fun i => underR s (ofR s (t.kids.getD i default)).1 ((argsR2 s t.text).1.getD i []) || underR s ((argsR2 s t.text).1.getD i []) (ofR s (t.kids.getD i default)).1)
mutual
def fitsR (s : LSig) : LTerm → Bool
 | .mk k n x so ks rs => (ofR s (.mk k n x so ks rs)).2 && (fitsRL s ks && (if k = 5 then opFitG s (.mk k n x so ks rs) else true))
def fitsRL (s : LSig) : List LTerm → Bool
 | [] => true
 | k :: l => fitsR s k && fitsRL s l
end
theorem fitsRL_eq {s : LSig} : ∀ l, fitsRL s l = l.all (fitsR s)
 | [] => rfl
 | k :: l => by rw [fitsRL, fitsRL_eq l]; rfl
theorem fitsR_eq (s : LSig) (t : LTerm) : fitsR s t = ((ofR s t).2 && (t.kids.all (fitsR s) && (if t.kind = 5 then opFitG s t else true))) := by
 cases t; rw [fitsR, fitsRL_eq]; rfl
theorem ctr375_1 (s : LSig) (t : LTerm) (hm : Small s) (hs : OkS s) (ht : OkT t) (ih : ∀ k ∈ t.kids, CT 113 [.agg (sigCells s), elT k] (.b (fitsR s k))): CT 113 [.agg (sigCells s), elT t] (.b (fitsR s t)) := by
 refine sem_introB mixed Tryz.func113 g0 ?_
 · skip
   have e := fitsR_eq s t
   have hk1 := ht.kids
   have c0 := ctr239 s t hs
   have c1 := ctr257 s t.text hs
   obtain ⟨⟨l, so, ok⟩, hq⟩ : ∃ p, argsR2 s t.text = p := ⟨_, rfl⟩
   obtain ⟨⟨sx, ok0⟩, ho⟩ : ∃ p, ofR s t = p := ⟨_, rfl⟩
   simp only [opFitG, hq, ho] at e
   rw [hq] at c1
   rw [ho] at c0
   cases ok0 with
   | false =>
     (repeat' (first | refine gT ?_ ?_ | refine gF ?_ ?_ | refine gC ?_ ?_ | ((refine c_ctrE (c0) ?_ ?_; (focus (simp -implicitDefEqProofs (disch := omega) only [avs, avb, avi, avo, sigCells, opCells, pairCells, elT, avt, termCells_eq, go_sem, ↓reduceIte, reduceAdd, reduceSub, reduceMul, reduceLeDiff, reduceLT, reduceEqDiff, reduceNeg, Nat.reduceBEq]; done))); simp -implicitDefEqProofs (disch := omega) only [go_sem, ↓reduceIte, reduceAdd, reduceSub, reduceMul, reduceLeDiff, reduceLT, reduceEqDiff, reduceNeg, Nat.reduceBEq]) | refine And.intro (by omega) ?_ | (intro hr; have hc := hr; (try simp only [zda, zdb, zdc, zdd] at hc); simp -implicitDefEqProofs (disch := omega) only [hr, go_sem, ↓reduceIte, reduceAdd, reduceSub, reduceMul, reduceLeDiff, reduceLT, reduceEqDiff, reduceNeg, Nat.reduceBEq]; (try clear hr))))
     all_goals exact fin_eq (by rw [e, Bool.false_and]) rfl
   | true =>
   rw [Bool.true_and] at e
   (repeat' (first | refine gT ?_ ?_ | refine gF ?_ ?_ | refine gC ?_ ?_ | ((refine c_ctrE (c0) ?_ ?_; (focus (simp -implicitDefEqProofs (disch := omega) only [avs, avb, avi, avo, sigCells, opCells, pairCells, elT, avt, termCells_eq, go_sem, ↓reduceIte, reduceAdd, reduceSub, reduceMul, reduceLeDiff, reduceLT, reduceEqDiff, reduceNeg, Nat.reduceBEq]; done))); simp -implicitDefEqProofs (disch := omega) only [go_sem, ↓reduceIte, reduceAdd, reduceSub, reduceMul, reduceLeDiff, reduceLT, reduceEqDiff, reduceNeg, Nat.reduceBEq]) | refine And.intro (by omega) ?_ | (intro hr; have hc := hr; (try simp only [zda, zdb, zdc, zdd] at hc); simp -implicitDefEqProofs (disch := omega) only [hr, go_sem, ↓reduceIte, reduceAdd, reduceSub, reduceMul, reduceLeDiff, reduceLT, reduceEqDiff, reduceNeg, Nat.reduceBEq]; (try clear hr))))
   refine x_loopG (fun (k : Nat) => [.k, .k, .k, .k, .j, .k, .k, .k, .j, .k, .k, .k, .k, .k, .k, .k, .k, .k, .k, .k, .k, .k, .k, .k, .k, .k, .k, .v (.i .i64 (k : Nat)), .j, .j, .j, .j, .j, .j, .j, .j, .k, .k, .k, .k, .k, .k, .k, .k, .k, .k, .k, .k, .k, .k, .k, .k, .k, .k, .k, .k, .k, .k, .k, .k, .k, .k, .k, .k, .k, .k, .k, .k, .k, .k, .k, .k, .k, .k, .k, .k]) (fun k => [.box false (sigCells s), .box false [.i .i64 (t).kind, .i .i64 (t).n, .s (t).text, .s (t).sort, .sl ((t).kids.flatMap termCells) (t).kids.length, .sl ((t).rest.flatMap termCells) (t).rest.length]]) (fun k => k ≤ t.kids.length ∧ ∀ j, j < k → fitsR s (t.kids.getD j default) = true) (fun k => t.kids.length - k) (0) [] ⟨Nat.zero_le _, fun j h => by omega⟩ (by simp [avs, avb, avi, avo, opCells, sigCells]) (by simp [Fits]) ?_
   rintro k g j ⟨hk, ha⟩
   have o : k < t.kids.length → CT 113 [.agg (sigCells s), elT (t.kids.getD k default)] (.b (fitsR s (t.kids.getD k default))) := fun h => ih _ (mem_getD h)
   simp -implicitDefEqProofs (disch := omega) only [go_sem, ↓reduceIte, reduceAdd, reduceSub, reduceMul, reduceLeDiff, reduceLT, reduceEqDiff, reduceNeg, Nat.reduceBEq]
   (repeat' (first | refine gT ?_ ?_ | refine gF ?_ ?_ | refine gC ?_ ?_ | ((first | (refine c_ctrE ((o (by omega))) ?_ ?_; (focus (simp -implicitDefEqProofs (disch := omega) only [avs, avb, avi, avo, sigCells, opCells, pairCells, elT, avt, termCells_eq, go_sem, ↓reduceIte, reduceAdd, reduceSub, reduceMul, reduceLeDiff, reduceLT, reduceEqDiff, reduceNeg, Nat.reduceBEq]; done))) | (refine c_ctrE (c1) ?_ ?_; (focus (simp -implicitDefEqProofs (disch := omega) only [avs, avb, avi, avo, sigCells, opCells, pairCells, elT, avt, termCells_eq, go_sem, ↓reduceIte, reduceAdd, reduceSub, reduceMul, reduceLeDiff, reduceLT, reduceEqDiff, reduceNeg, Nat.reduceBEq]; done)))); simp -implicitDefEqProofs (disch := omega) only [go_sem, ↓reduceIte, reduceAdd, reduceSub, reduceMul, reduceLeDiff, reduceLT, reduceEqDiff, reduceNeg, Nat.reduceBEq]) | refine And.intro (by omega) ?_ | (intro hr; have hc := hr; (try simp only [zda, zdb, zdc, zdd] at hc); simp -implicitDefEqProofs (disch := omega) only [hr, go_sem, ↓reduceIte, reduceAdd, reduceSub, reduceMul, reduceLeDiff, reduceLT, reduceEqDiff, reduceNeg, Nat.reduceBEq]; (try clear hr))))
   all_goals first
     | exact fin_eq (by rw [e, all_false k (by omega) hc, Bool.false_and]) rfl
     | exact ⟨k + 1, _, ⟨by omega, below_succ ha hc⟩, by omega, rfl, by simp⟩
     | skip
   all_goals rw [all_true (fun j hj => ha j (by omega)), Bool.true_and] at e
   all_goals first
     | (exfalso; omega)
     | exact fin_eq (by rw [e, if_neg (by assumption)]) rfl
     | exact fin_eq (by rw [e, if_pos (by omega), zf (by omega : ¬ l.length = t.kids.length), Bool.false_and]) rfl
     | skip
   have hn : l.length = t.kids.length := by omega
   rw [if_pos (by omega), zt hn, Bool.true_and] at e
   refine x_loopG (fun (k : Nat) => [.k, .k, .k, .k, .j, .k, .k, .k, .k, .k, .k, .k, .j, .j, .j, .j, .k, .k, .k, .k, .k, .k, .k, .k, .k, .k, .k, .k, .k, .k, .k, .k, .k, .k, .k, .k, .k, .k, .k, .k, .k, .k, .k, .k, .k, .k, .k, .k, .k, .k, .k, .k, .k, .k, .k, .k, .v (.i .i64 (k : Nat)), .j, .j, .j, .j, .j, .j, .j, .j, .j, .j, .j, .j, .j, .j, .j, .j, .j, .j, .j]) (fun k => (.box false (sigCells s) :: .box false [.i .i64 (t).kind, .i .i64 (t).n, .s (t).text, .s (t).sort, .sl ((t).kids.flatMap termCells) (t).kids.length, .sl ((t).rest.flatMap termCells) (t).rest.length] :: g)) (fun k => k ≤ t.kids.length ∧ ∀ j, j < k → (underR s (ofR s (t.kids.getD j default)).1 (l.getD j []) || underR s (l.getD j []) (ofR s (t.kids.getD j default)).1) = true) (fun k => t.kids.length - k) (0) [] ⟨Nat.zero_le _, fun j h => by omega⟩ (by simp [avs, avb, avi, avo, opCells, sigCells]) (by simp [Fits]) ?_
   rintro kk g2 j2 ⟨hkk, ha2⟩
   simp -implicitDefEqProofs (disch := omega) only [go_sem, ↓reduceIte, reduceAdd, reduceSub, reduceMul, reduceLeDiff, reduceLT, reduceEqDiff, reduceNeg, Nat.reduceBEq]
   (repeat' (first | refine gT ?_ ?_ | refine gF ?_ ?_ | refine gC ?_ ?_ | ((first | (refine c_ctrE (ctr239 s (t.kids.getD kk default) hs) ?_ ?_; (focus (simp -implicitDefEqProofs (disch := omega) only [avs, avb, avi, avo, sigCells, opCells, pairCells, elT, avt, termCells_eq, go_sem, ↓reduceIte, reduceAdd, reduceSub, reduceMul, reduceLeDiff, reduceLT, reduceEqDiff, reduceNeg, Nat.reduceBEq]; done))) | (refine c_ctrE (ctr86 s (ofR s (t.kids.getD kk default)).1 (l.getD kk []) hm) ?_ ?_; (focus (simp -implicitDefEqProofs (disch := omega) only [avs, avb, avi, avo, sigCells, opCells, pairCells, elT, avt, termCells_eq, go_sem, ↓reduceIte, reduceAdd, reduceSub, reduceMul, reduceLeDiff, reduceLT, reduceEqDiff, reduceNeg, Nat.reduceBEq]; done)))); simp -implicitDefEqProofs (disch := omega) only [go_sem, ↓reduceIte, reduceAdd, reduceSub, reduceMul, reduceLeDiff, reduceLT, reduceEqDiff, reduceNeg, Nat.reduceBEq]) | refine And.intro (by omega) ?_ | (intro hr; have hc := hr; (try simp only [zda, zdb, zdc, zdd] at hc); simp -implicitDefEqProofs (disch := omega) only [hr, go_sem, ↓reduceIte, reduceAdd, reduceSub, reduceMul, reduceLeDiff, reduceLT, reduceEqDiff, reduceNeg, Nat.reduceBEq]; (try clear hr))))
   all_goals first
     | exact fin_eq (by rw [e, allN_false kk (by omega) hc]) rfl
     | exact ⟨kk + 1, _, ⟨by omega, below_succ ha2 hc⟩, by omega, rfl, by simp⟩
     | exact fin_eq (by rw [e, allN_true (fun j hj => ha2 j (by omega))]) rfl
     | (exfalso; omega)
theorem ctr375 (s : LSig) (hm : Small s) (hs : OkS s) : ∀ (t : LTerm), OkT t → CT 113 [.agg (sigCells s), elT t] (.b (fitsR s t)) :=
 term_ind fun t hk _ ht => ctr375_1 s t hm hs ht (fun k hmm => hk k hmm (ht.kid k hmm))
theorem ctr359 (s : LSig) (t : LTerm) (hm : Small s) (hs : OkS s) (ht : OkT t): CT 57 [.agg (sigCells s), elT t] (.b (validT nodeB t && fitsR s t)) := by
 refine sem_introB mixed Tryz.func57 g0 ?_
 · skip
   (repeat' (first | refine gT ?_ ?_ | refine gF ?_ ?_ | refine gC ?_ ?_ | ((first | (refine c_ctrE (ctr252 t ht) ?_ ?_; (focus (simp -implicitDefEqProofs (disch := omega) only [avs, avb, avi, avo, sigCells, opCells, pairCells, elT, avt, termCells_eq, go_sem, ↓reduceIte, reduceAdd, reduceSub, reduceMul, reduceLeDiff, reduceLT, reduceEqDiff, reduceNeg, Nat.reduceBEq]; done))) | (refine c_ctrE (ctr375 s hm hs t ht) ?_ ?_; (focus (simp -implicitDefEqProofs (disch := omega) only [avs, avb, avi, avo, sigCells, opCells, pairCells, elT, avt, termCells_eq, go_sem, ↓reduceIte, reduceAdd, reduceSub, reduceMul, reduceLeDiff, reduceLT, reduceEqDiff, reduceNeg, Nat.reduceBEq]; done)))); simp -implicitDefEqProofs (disch := omega) only [go_sem, ↓reduceIte, reduceAdd, reduceSub, reduceMul, reduceLeDiff, reduceLT, reduceEqDiff, reduceNeg, Nat.reduceBEq]) | refine And.intro (by omega) ?_ | (intro hr; have hc := hr; (try simp only [zda, zdb, zdc, zdd] at hc); simp -implicitDefEqProofs (disch := omega) only [hr, go_sem, ↓reduceIte, reduceAdd, reduceSub, reduceMul, reduceLeDiff, reduceLT, reduceEqDiff, reduceNeg, Nat.reduceBEq]; (try clear hr))))
   all_goals exact fin_eq rfl rfl
theorem ctr330 (s : LSig) (t : LTerm) (hm : Small s) (hs : OkS s) (ht : OkT t): CT 19 [.agg (sigCells s), elT t] (.b (validB s && (validT nodeB t && fitsR s t))) := by
 refine sem_introB mixed Tryz.func19 g0 ?_
 · skip
   (repeat' (first | refine gT ?_ ?_ | refine gF ?_ ?_ | refine gC ?_ ?_ | ((first | (refine c_ctrE (ctr13 s hm hs) ?_ ?_; (focus (simp -implicitDefEqProofs (disch := omega) only [avs, avb, avi, avo, sigCells, opCells, pairCells, elT, avt, termCells_eq, go_sem, ↓reduceIte, reduceAdd, reduceSub, reduceMul, reduceLeDiff, reduceLT, reduceEqDiff, reduceNeg, Nat.reduceBEq]; done))) | (refine c_ctrE (ctr359 s t hm hs ht) ?_ ?_; (focus (simp -implicitDefEqProofs (disch := omega) only [avs, avb, avi, avo, sigCells, opCells, pairCells, elT, avt, termCells_eq, go_sem, ↓reduceIte, reduceAdd, reduceSub, reduceMul, reduceLeDiff, reduceLT, reduceEqDiff, reduceNeg, Nat.reduceBEq]; done)))); simp -implicitDefEqProofs (disch := omega) only [go_sem, ↓reduceIte, reduceAdd, reduceSub, reduceMul, reduceLeDiff, reduceLT, reduceEqDiff, reduceNeg, Nat.reduceBEq]) | refine And.intro (by omega) ?_ | (intro hr; have hc := hr; (try simp only [zda, zdb, zdc, zdd] at hc); simp -implicitDefEqProofs (disch := omega) only [hr, go_sem, ↓reduceIte, reduceAdd, reduceSub, reduceMul, reduceLeDiff, reduceLT, reduceEqDiff, reduceNeg, Nat.reduceBEq]; (try clear hr))))
   all_goals exact fin_eq rfl rfl
def sortVR (s : LSig) (t : LTerm) : Str × Int := if (validB s && validT nodeB t) = true then (if (ofR s t).2 = true then ((ofR s t).1, 0) else ([], 13)) else ([], 2)
theorem ctr333 (s : LSig) (t : LTerm) (hm : Small s) (hs : OkS s) (ht : OkT t): CT 23 [.agg (sigCells s), elT t] (sortAV (sortVR s t)) := by
 refine sem_introB mixed Tryz.func23 g0 ?_
 · skip
   have c1 := ctr252 t ht
   have c2 := ctr13 s hm hs
   have c3 := ctr239 s t hs
   rw [sortAV, sortVR]
   rcases bool_em (validB s) with h2 | h2
   · rcases bool_em (validT nodeB t) with h1 | h1
     · rw [h1] at c1; rw [h2] at c2
       rw [h1, h2, Bool.and_self, if_pos rfl]
       rcases bool_em (ofR s t).2 with h3 | h3
       · rw [h3] at c3
         (repeat' (first | refine gT ?_ ?_ | refine gF ?_ ?_ | refine gC ?_ ?_ | ((first | (refine c_ctrE (c1) ?_ ?_; (focus (simp -implicitDefEqProofs (disch := omega) only [avs, avb, avi, avo, sigCells, opCells, pairCells, elT, avt, termCells_eq, go_sem, ↓reduceIte, reduceAdd, reduceSub, reduceMul, reduceLeDiff, reduceLT, reduceEqDiff, reduceNeg, Nat.reduceBEq]; done))) | (refine c_ctrE (c2) ?_ ?_; (focus (simp -implicitDefEqProofs (disch := omega) only [avs, avb, avi, avo, sigCells, opCells, pairCells, elT, avt, termCells_eq, go_sem, ↓reduceIte, reduceAdd, reduceSub, reduceMul, reduceLeDiff, reduceLT, reduceEqDiff, reduceNeg, Nat.reduceBEq]; done))) | (refine c_ctrE (c3) ?_ ?_; (focus (simp -implicitDefEqProofs (disch := omega) only [avs, avb, avi, avo, sigCells, opCells, pairCells, elT, avt, termCells_eq, go_sem, ↓reduceIte, reduceAdd, reduceSub, reduceMul, reduceLeDiff, reduceLT, reduceEqDiff, reduceNeg, Nat.reduceBEq]; done)))); simp -implicitDefEqProofs (disch := omega) only [go_sem, ↓reduceIte, reduceAdd, reduceSub, reduceMul, reduceLeDiff, reduceLT, reduceEqDiff, reduceNeg, Nat.reduceBEq]) | refine And.intro (by omega) ?_ | (intro hr; have hc := hr; (try simp only [zda, zdb, zdc, zdd] at hc); simp -implicitDefEqProofs (disch := omega) only [hr, go_sem, ↓reduceIte, reduceAdd, reduceSub, reduceMul, reduceLeDiff, reduceLT, reduceEqDiff, reduceNeg, Nat.reduceBEq]; (try clear hr))))
         all_goals exact fin_eq (by first | rfl | rw [if_pos h3]) rfl
       · rw [h3] at c3
         (repeat' (first | refine gT ?_ ?_ | refine gF ?_ ?_ | refine gC ?_ ?_ | ((first | (refine c_ctrE (c1) ?_ ?_; (focus (simp -implicitDefEqProofs (disch := omega) only [avs, avb, avi, avo, sigCells, opCells, pairCells, elT, avt, termCells_eq, go_sem, ↓reduceIte, reduceAdd, reduceSub, reduceMul, reduceLeDiff, reduceLT, reduceEqDiff, reduceNeg, Nat.reduceBEq]; done))) | (refine c_ctrE (c2) ?_ ?_; (focus (simp -implicitDefEqProofs (disch := omega) only [avs, avb, avi, avo, sigCells, opCells, pairCells, elT, avt, termCells_eq, go_sem, ↓reduceIte, reduceAdd, reduceSub, reduceMul, reduceLeDiff, reduceLT, reduceEqDiff, reduceNeg, Nat.reduceBEq]; done))) | (refine c_ctrE (c3) ?_ ?_; (focus (simp -implicitDefEqProofs (disch := omega) only [avs, avb, avi, avo, sigCells, opCells, pairCells, elT, avt, termCells_eq, go_sem, ↓reduceIte, reduceAdd, reduceSub, reduceMul, reduceLeDiff, reduceLT, reduceEqDiff, reduceNeg, Nat.reduceBEq]; done)))); simp -implicitDefEqProofs (disch := omega) only [go_sem, ↓reduceIte, reduceAdd, reduceSub, reduceMul, reduceLeDiff, reduceLT, reduceEqDiff, reduceNeg, Nat.reduceBEq]) | refine And.intro (by omega) ?_ | (intro hr; have hc := hr; (try simp only [zda, zdb, zdc, zdd] at hc); simp -implicitDefEqProofs (disch := omega) only [hr, go_sem, ↓reduceIte, reduceAdd, reduceSub, reduceMul, reduceLeDiff, reduceLT, reduceEqDiff, reduceNeg, Nat.reduceBEq]; (try clear hr))))
         all_goals exact fin_eq (by first | rfl | rw [if_neg (by rw [h3]; simp)]) rfl
     · rw [h1] at c1; rw [h2] at c2
       rw [h1, Bool.and_false, if_neg (by decide)]
       (repeat' (first | refine gT ?_ ?_ | refine gF ?_ ?_ | refine gC ?_ ?_ | ((first | (refine c_ctrE (c1) ?_ ?_; (focus (simp -implicitDefEqProofs (disch := omega) only [avs, avb, avi, avo, sigCells, opCells, pairCells, elT, avt, termCells_eq, go_sem, ↓reduceIte, reduceAdd, reduceSub, reduceMul, reduceLeDiff, reduceLT, reduceEqDiff, reduceNeg, Nat.reduceBEq]; done))) | (refine c_ctrE (c2) ?_ ?_; (focus (simp -implicitDefEqProofs (disch := omega) only [avs, avb, avi, avo, sigCells, opCells, pairCells, elT, avt, termCells_eq, go_sem, ↓reduceIte, reduceAdd, reduceSub, reduceMul, reduceLeDiff, reduceLT, reduceEqDiff, reduceNeg, Nat.reduceBEq]; done)))); simp -implicitDefEqProofs (disch := omega) only [go_sem, ↓reduceIte, reduceAdd, reduceSub, reduceMul, reduceLeDiff, reduceLT, reduceEqDiff, reduceNeg, Nat.reduceBEq]) | refine And.intro (by omega) ?_ | (intro hr; have hc := hr; (try simp only [zda, zdb, zdc, zdd] at hc); simp -implicitDefEqProofs (disch := omega) only [hr, go_sem, ↓reduceIte, reduceAdd, reduceSub, reduceMul, reduceLeDiff, reduceLT, reduceEqDiff, reduceNeg, Nat.reduceBEq]; (try clear hr))))
       all_goals exact fin_eq rfl rfl
   · rw [h2] at c2
     rw [h2, Bool.false_and, if_neg (by decide)]
     (repeat' (first | refine gT ?_ ?_ | refine gF ?_ ?_ | refine gC ?_ ?_ | ((refine c_ctrE (c2) ?_ ?_; (focus (simp -implicitDefEqProofs (disch := omega) only [avs, avb, avi, avo, sigCells, opCells, pairCells, elT, avt, termCells_eq, go_sem, ↓reduceIte, reduceAdd, reduceSub, reduceMul, reduceLeDiff, reduceLT, reduceEqDiff, reduceNeg, Nat.reduceBEq]; done))); simp -implicitDefEqProofs (disch := omega) only [go_sem, ↓reduceIte, reduceAdd, reduceSub, reduceMul, reduceLeDiff, reduceLT, reduceEqDiff, reduceNeg, Nat.reduceBEq]) | refine And.intro (by omega) ?_ | (intro hr; have hc := hr; (try simp only [zda, zdb, zdc, zdd] at hc); simp -implicitDefEqProofs (disch := omega) only [hr, go_sem, ↓reduceIte, reduceAdd, reduceSub, reduceMul, reduceLeDiff, reduceLT, reduceEqDiff, reduceNeg, Nat.reduceBEq]; (try clear hr))))
     all_goals exact fin_eq rfl rfl
theorem ctr335 (s : LSig) (t : LTerm) (hm : Small s) (hs : OkS s) (ht : OkT t): CT 25 [.agg (sigCells s), elT t] (valueAV (valueV s t)) := by
 refine sem_introB mixed Tryz.func25 g0 ?_
 · skip
   have c1 := ctr224 s t hm hs ht
   rw [valueAV, valueV]
   rcases bool_em (validB s && plainV s t) with h1 | h1
   · have h2 := (Bool.and_eq_true _ _).mp h1
     rw [h1] at c1
     rw [h1, if_pos rfl]
     (repeat' (first | refine gT ?_ ?_ | refine gF ?_ ?_ | refine gC ?_ ?_ | ((first | (refine c_ctrE (c1) ?_ ?_; (focus (simp -implicitDefEqProofs (disch := omega) only [avs, avb, avi, avo, sigCells, opCells, pairCells, elT, avt, termCells_eq, go_sem, ↓reduceIte, reduceAdd, reduceSub, reduceMul, reduceLeDiff, reduceLT, reduceEqDiff, reduceNeg, Nat.reduceBEq]; done))) | (refine c_ctrE (ctr277 s t hm hs h2.1 h2.2) ?_ ?_; (focus (simp -implicitDefEqProofs (disch := omega) only [avs, avb, avi, avo, sigCells, opCells, pairCells, elT, avt, termCells_eq, go_sem, ↓reduceIte, reduceAdd, reduceSub, reduceMul, reduceLeDiff, reduceLT, reduceEqDiff, reduceNeg, Nat.reduceBEq]; done)))); simp -implicitDefEqProofs (disch := omega) only [go_sem, ↓reduceIte, reduceAdd, reduceSub, reduceMul, reduceLeDiff, reduceLT, reduceEqDiff, reduceNeg, Nat.reduceBEq]) | refine And.intro (by omega) ?_ | (intro hr; have hc := hr; (try simp only [zda, zdb, zdc, zdd] at hc); simp -implicitDefEqProofs (disch := omega) only [hr, go_sem, ↓reduceIte, reduceAdd, reduceSub, reduceMul, reduceLeDiff, reduceLT, reduceEqDiff, reduceNeg, Nat.reduceBEq]; (try clear hr))))
     all_goals exact fin_eq rfl rfl
   · rw [h1] at c1
     rw [h1, if_neg (by decide)]
     (repeat' (first | refine gT ?_ ?_ | refine gF ?_ ?_ | refine gC ?_ ?_ | ((refine c_ctrE (c1) ?_ ?_; (focus (simp -implicitDefEqProofs (disch := omega) only [avs, avb, avi, avo, sigCells, opCells, pairCells, elT, avt, termCells_eq, go_sem, ↓reduceIte, reduceAdd, reduceSub, reduceMul, reduceLeDiff, reduceLT, reduceEqDiff, reduceNeg, Nat.reduceBEq]; done))); simp -implicitDefEqProofs (disch := omega) only [go_sem, ↓reduceIte, reduceAdd, reduceSub, reduceMul, reduceLeDiff, reduceLT, reduceEqDiff, reduceNeg, Nat.reduceBEq]) | refine And.intro (by omega) ?_ | (intro hr; have hc := hr; (try simp only [zda, zdb, zdc, zdd] at hc); simp -implicitDefEqProofs (disch := omega) only [hr, go_sem, ↓reduceIte, reduceAdd, reduceSub, reduceMul, reduceLeDiff, reduceLT, reduceEqDiff, reduceNeg, Nat.reduceBEq]; (try clear hr))))
     all_goals exact fin_eq rfl rfl

theorem ex_ne {s : LSig} {x : Str} (hv : validB s = true) (h : existsA s x = true) : x ≠ [] := by
 simp only [existsA, keysOf, List.contains_iff_mem, List.mem_append] at h
 rcases h with h | h
 · exact (by decide : ∀ y ∈ alwaysA, y ≠ []) x h
 · simp only [validB, validMid, Bool.and_eq_true, List.all_eq_true] at hv
   have := hv.1.2.1.2 x h
   simp only [freshA, isName, Bool.and_eq_true] at this
   rintro rfl
   simp at this
theorem valid_funs {s : LSig} (h : validB s = true) : ∀ o ∈ s.funs, isFun s o = true := by
 simp only [validB, validHead, validMid, validTail, Bool.and_eq_true, List.all_eq_true, decide_eq_true_eq] at h
 exact h.2.2
theorem built_same : builtIns.all (fun x => decide (argsP x = (builtR x).1) && decide (resultP x = (builtR x).2) && alwaysA.contains (resultP x) && (argsP x).all alwaysA.contains) = true := by decide +kernel
structure CalledOk (s : LSig) (x : Str) : Prop where
 ok : (called s x).2.2 = (argsR2 s x).2.2
 args : (called s x).2.2 = true → (called s x).1.args = (argsR2 s x).1
 sort : (called s x).2.2 = true → (called s x).1.sort = (argsR2 s x).2.1
 exS : (called s x).2.2 = true → existsA s (called s x).1.sort = true
 exA : (called s x).2.2 = true → ∀ y ∈ (called s x).1.args, existsA s y = true
 no : (called s x).2.2 = false → (called s x).1.sort = []
theorem called_ok {s : LSig} {x : Str} (hv : validB s = true) : CalledOk s x := by
 cases h1 : opAt s x with
 | some o =>
   have ho := valid_ops hv o (opAt_mem h1)
   have hs := op_sort ho
   simp only [isOp, opHead, Bool.and_eq_true, List.all_eq_true] at ho
   have ha := ho.1.1.1.1.1.1.2
   constructor <;> simp only [called, argsR2, h1] <;> intros <;> first | rfl | exact hs | exact ha _ ‹_› | trivial | contradiction
 | none =>
   cases h2 : funAt s x with
   | some o =>
     have ho := valid_funs hv o (List.mem_of_find?_eq_some h2)
     simp only [isFun, Bool.and_eq_true, List.all_eq_true] at ho
     have ha := ho.1.1.2
     have hs := ho.1.2
     constructor <;> simp only [called, argsR2, h1, h2] <;> intros <;> first | rfl | exact hs | exact ha _ ‹_› | trivial | contradiction
   | none =>
     rcases bool_em (builtIns.contains x) with h3 | h3
     · have hb := List.all_eq_true.1 built_same x (List.contains_iff_mem.1 h3)
       simp only [Bool.and_eq_true, decide_eq_true_eq, List.all_eq_true] at hb
       obtain ⟨⟨⟨b1, b2⟩, b3⟩, b4⟩ := hb
       have hs : existsA s (resultP x) = true := ex_built (List.contains_iff_mem.1 b3)
       have ha : ∀ y ∈ argsP x, existsA s y = true := fun y hy => ex_built (List.contains_iff_mem.1 (b4 y hy))
       constructor <;> simp only [called, argsR2, h1, h2, builtOp, h3, if_true] <;> intros <;> first | rfl | exact b1 | exact b2 | exact hs | exact ha _ ‹_› | trivial | contradiction
     · constructor <;> simp only [called, argsR2, h1, h2, builtOp, h3, Bool.false_eq_true, if_false] <;> intros <;> first | rfl | trivial | contradiction
theorem of_sort {s : LSig} {t : LTerm} (hv : validB s = true) (hn : nodeB t = true) : ((ofR s t).2 = true → sortP s t = (ofR s t).1 ∧ existsA s (sortP s t) = true) ∧ ((ofR s t).2 = false → sortP s t = []) := by
 have hk := nodeB_k hn
 have hc := called_ok (x := t.text) hv
 by_cases h5 : t.kind = 5
 · simp only [sortP, ofR, h5, Int.reduceEq, if_true, if_false]
   rw [← hc.ok]
   exact ⟨fun h => ⟨hc.sort h, hc.exS h⟩, hc.no⟩
 by_cases h6 : t.kind = 6
 · simp only [sortP, ofR, h6, Int.reduceEq, if_true, if_false, exists_eq]
   exact ⟨fun h => by rw [if_pos h]; exact ⟨rfl, h⟩, fun h => by rw [if_neg (by rw [h]; simp)]⟩
 have e : ∀ (a : Str), a ∈ alwaysA → (True → True ∧ existsA s a = true) ∧ (true = false → a = []) := fun a ha => ⟨fun _ => ⟨trivial, ex_built ha⟩, fun h => by cases h⟩
 by_cases h1 : t.kind = 1
 · simp only [sortP, ofR, h1, Int.reduceEq, if_true, if_false]; exact e intS (by decide)
 by_cases h2 : t.kind = 2
 · simp only [sortP, ofR, h2, Int.reduceEq, if_true, if_false]; exact e boolS (by decide)
 by_cases h3 : t.kind = 3
 · simp only [sortP, ofR, h3, Int.reduceEq, if_true, if_false]; exact e textS (by decide)
 by_cases h4 : t.kind = 4
 · simp only [sortP, ofR, h4, Int.reduceEq, if_true, if_false]; exact e idS (by decide)
 by_cases h7 : t.kind = 7
 · simp only [sortP, ofR, h7, Int.reduceEq, if_true, if_false]; exact e listS (by decide)
 have h8 : t.kind = 8 := by omega
 simp only [sortP, ofR, h8, Int.reduceEq, if_true, if_false]; exact e mapS (by decide)
theorem sortV_eq {s : LSig} {t : LTerm} : sortVR s t = sortV s t := by
 rw [sortVR, sortV]
 rcases bool_em (validB s && validT nodeB t) with h | h
 · rw [if_pos h, if_pos h]
   rw [Bool.and_eq_true] at h
   have o := of_sort h.1 (wfT_eq.1 (valid_wf h.2)).1 (s := s)
   rcases bool_em (ofR s t).2 with h2 | h2
   · have q := o.1 h2
     rw [if_pos h2, if_neg (ex_ne h.1 q.2), q.1]
   · rw [if_neg (by rw [h2]; simp), if_pos (o.2 h2)]
 · rw [if_neg (by rw [h]; simp), if_neg (by rw [h]; simp)]
theorem fits_eq {s : LSig} (hv : validB s = true) : ∀ t : LTerm, wfT nodeB t = true → fitsR s t = fitsP s t :=
 term_ind (Q := fun t => wfT nodeB t = true → fitsR s t = fitsP s t) fun t hk _ hw => by
   have hw' := wfT_eq.1 hw
   have ek : t.kids.all (fitsR s) = t.kids.all (fitsP s) := all_congr fun x hx => hk x hx (hw'.2 x hx)
   rw [fitsR_eq, fitsP_eq, ek]
   rcases bool_em (t.kids.all (fitsP s)) with ha | ha
   · rw [ha, Bool.true_and, Bool.true_and]
     have hc := called_ok (x := t.text) hv
     by_cases h6 : t.kind = 6
     · rw [if_pos h6, if_neg (by omega), Bool.and_true]
       simp only [ofR, h6, Int.reduceEq, if_true, if_false, exists_eq]
     rw [if_neg h6]
     by_cases h5 : t.kind = 5
     · rw [if_pos h5, if_pos h5, opFitF, opFitG]
       have e2 : (ofR s t).2 = (called s t.text).2.2 := by simp only [ofR, h5, Int.reduceEq, if_true, if_false]; exact hc.ok.symm
       rw [e2]
       rcases bool_em (called s t.text).2.2 with ho | ho
       · rw [ho, Bool.true_and, Bool.true_and, ← hc.args ho]
         by_cases hn : (called s t.text).1.args.length = t.kids.length
         · rw [zt hn, Bool.true_and, Bool.true_and]
           refine allN_congr fun j hj => ?_
           have hm : t.kids.getD j default ∈ t.kids := mem_getD hj
           have hf : fitsR s (t.kids.getD j default) = true := by rw [hk _ hm (hw'.2 _ hm)]; exact List.all_eq_true.1 ha _ hm
           have hof : (ofR s (t.kids.getD j default)).2 = true := by rw [fitsR_eq, Bool.and_eq_true] at hf; exact hf.1
           have q := (of_sort hv (wfT_eq.1 (hw'.2 _ hm)).1).1 hof
           have hx : existsA s ((called s t.text).1.args.getD j []) = true := hc.exA ho _ (by
             have : j < (called s t.text).1.args.length := by omega
             simp only [List.getD, List.getElem?_eq_getElem this, Option.getD_some]
             exact List.getElem_mem this)
           rw [← q.1, under_eq q.2, under_eq hx, meets]
         · rw [zf hn, Bool.false_and, Bool.false_and]
       · rw [ho, Bool.false_and, Bool.false_and]
     · rw [if_neg h5, if_neg h5, Bool.and_true]
       have hkk := nodeB_k hw'.1
       simp only [ofR]
       repeat' split
       all_goals first | rfl | omega
   · rw [ha, Bool.false_and, Bool.false_and, Bool.and_false]
theorem fitsV_eq {s : LSig} {t : LTerm} : (validB s && (validT nodeB t && fitsR s t)) = fitsV s t := by
 rw [fitsV]
 rcases bool_em (validB s) with h | h
 · rcases bool_em (validT nodeB t) with h2 | h2
   · rw [fits_eq h t (valid_wf h2), h, h2]
   · rw [h2, Bool.false_and, Bool.false_and, Bool.and_false]
 · rw [h, Bool.false_and, Bool.false_and, Bool.and_false]
theorem ctr317 (s : LSig) (t : LTerm) (hs : OkS s) (ht : OkT t): CT 3 [.agg (sigCells s), elT t] (.b true) := by
 refine sem_introA mixed Tryz.func3 g0 ?_
 · simp -implicitDefEqProofs (disch := omega) only [Tryz.f3, List.length_cons, List.length_nil, Nat.zero_add, List.cons_append, List.nil_append, Nat.sub_zero, List.replicate, ↓reduceIte, reduceAdd, reduceSub, reduceMul, reduceLeDiff, reduceLT, reduceEqDiff, reduceNeg, Nat.reduceBEq, List.flatten_cons, List.flatten_nil, List.append_nil]
   have fs := ctr10 s hs
   have ft := few1 t ht
   rcases bool_em (few s) with h1 | h1
   · rw [h1] at fs
     rcases bool_em (fewP 2600 [t]) with h2 | h2
     · rw [h2] at ft
       have hm := few_small h1
       have a1 := ctr242 t ht
       have a2 := ctr252 t ht
       have a3 := ctr329 s t hm hs ht
       have a4 := ctr330 s t hm hs ht
       rw [fitsV_eq] at a4
       have a5 := ctr331 s t hm hs ht
       have a6 := ctr224 s t hm hs ht
       have a7 := ctr332 s t hm hs ht
       have a8 := ctr333 s t hm hs ht
       rw [sortV_eq] at a8
       have a9 := ctr334 s t hm hs ht
       have b1 := ctr335 s t hm hs ht
       generalize validT nodeB t = v1 at a1 a2
       generalize fitsV s t = v2 at a3 a4
       generalize (validB s && plainV s t) = v3 at a5 a6
       generalize sortV s t = p at a7 a8
       generalize valueV s t = q at a9 b1
       obtain ⟨x, e⟩ := p
       obtain ⟨y, f⟩ := q
       simp -implicitDefEqProofs (disch := omega) only [List.flatMap_cons, List.flatMap_nil, List.append_nil, List.length_cons, List.length_nil, rep1t, List.flatten_cons, List.flatten_nil, go_sem, ↓reduceIte, reduceAdd, reduceSub, reduceMul, reduceLeDiff, reduceLT, reduceEqDiff, reduceNeg, Nat.reduceBEq]
       (repeat' (first | refine gT ?_ ?_ | refine gF ?_ ?_ | refine gC ?_ ?_ | ((first | (refine c_ctrE (fs) ?_ ?_; (focus (simp -implicitDefEqProofs (disch := omega) only [List.flatMap_cons, List.flatMap_nil, List.append_nil, List.length_cons, List.length_nil, rep1t, List.flatten_cons, List.flatten_nil, sortAV, valueAV, eq_self, decide_true, not_true_eq_false, decide_false, ne_eq, Bool.not_true, avs, avb, avi, avo, sigCells, opCells, pairCells, elT, avt, termCells_eq, go_sem, ↓reduceIte, reduceAdd, reduceSub, reduceMul, reduceLeDiff, reduceLT, reduceEqDiff, reduceNeg, Nat.reduceBEq]; done))) | (refine c_ctrE (ft) ?_ ?_; (focus (simp -implicitDefEqProofs (disch := omega) only [List.flatMap_cons, List.flatMap_nil, List.append_nil, List.length_cons, List.length_nil, rep1t, List.flatten_cons, List.flatten_nil, sortAV, valueAV, eq_self, decide_true, not_true_eq_false, decide_false, ne_eq, Bool.not_true, avs, avb, avi, avo, sigCells, opCells, pairCells, elT, avt, termCells_eq, go_sem, ↓reduceIte, reduceAdd, reduceSub, reduceMul, reduceLeDiff, reduceLT, reduceEqDiff, reduceNeg, Nat.reduceBEq]; done))) | (refine c_ctrE (a1) ?_ ?_; (focus (simp -implicitDefEqProofs (disch := omega) only [List.flatMap_cons, List.flatMap_nil, List.append_nil, List.length_cons, List.length_nil, rep1t, List.flatten_cons, List.flatten_nil, sortAV, valueAV, eq_self, decide_true, not_true_eq_false, decide_false, ne_eq, Bool.not_true, avs, avb, avi, avo, sigCells, opCells, pairCells, elT, avt, termCells_eq, go_sem, ↓reduceIte, reduceAdd, reduceSub, reduceMul, reduceLeDiff, reduceLT, reduceEqDiff, reduceNeg, Nat.reduceBEq]; done))) | (refine c_ctrE (a2) ?_ ?_; (focus (simp -implicitDefEqProofs (disch := omega) only [List.flatMap_cons, List.flatMap_nil, List.append_nil, List.length_cons, List.length_nil, rep1t, List.flatten_cons, List.flatten_nil, sortAV, valueAV, eq_self, decide_true, not_true_eq_false, decide_false, ne_eq, Bool.not_true, avs, avb, avi, avo, sigCells, opCells, pairCells, elT, avt, termCells_eq, go_sem, ↓reduceIte, reduceAdd, reduceSub, reduceMul, reduceLeDiff, reduceLT, reduceEqDiff, reduceNeg, Nat.reduceBEq]; done))) | (refine c_ctrE (a3) ?_ ?_; (focus (simp -implicitDefEqProofs (disch := omega) only [List.flatMap_cons, List.flatMap_nil, List.append_nil, List.length_cons, List.length_nil, rep1t, List.flatten_cons, List.flatten_nil, sortAV, valueAV, eq_self, decide_true, not_true_eq_false, decide_false, ne_eq, Bool.not_true, avs, avb, avi, avo, sigCells, opCells, pairCells, elT, avt, termCells_eq, go_sem, ↓reduceIte, reduceAdd, reduceSub, reduceMul, reduceLeDiff, reduceLT, reduceEqDiff, reduceNeg, Nat.reduceBEq]; done))) | (refine c_ctrE (a4) ?_ ?_; (focus (simp -implicitDefEqProofs (disch := omega) only [List.flatMap_cons, List.flatMap_nil, List.append_nil, List.length_cons, List.length_nil, rep1t, List.flatten_cons, List.flatten_nil, sortAV, valueAV, eq_self, decide_true, not_true_eq_false, decide_false, ne_eq, Bool.not_true, avs, avb, avi, avo, sigCells, opCells, pairCells, elT, avt, termCells_eq, go_sem, ↓reduceIte, reduceAdd, reduceSub, reduceMul, reduceLeDiff, reduceLT, reduceEqDiff, reduceNeg, Nat.reduceBEq]; done))) | (refine c_ctrE (a5) ?_ ?_; (focus (simp -implicitDefEqProofs (disch := omega) only [List.flatMap_cons, List.flatMap_nil, List.append_nil, List.length_cons, List.length_nil, rep1t, List.flatten_cons, List.flatten_nil, sortAV, valueAV, eq_self, decide_true, not_true_eq_false, decide_false, ne_eq, Bool.not_true, avs, avb, avi, avo, sigCells, opCells, pairCells, elT, avt, termCells_eq, go_sem, ↓reduceIte, reduceAdd, reduceSub, reduceMul, reduceLeDiff, reduceLT, reduceEqDiff, reduceNeg, Nat.reduceBEq]; done))) | (refine c_ctrE (a6) ?_ ?_; (focus (simp -implicitDefEqProofs (disch := omega) only [List.flatMap_cons, List.flatMap_nil, List.append_nil, List.length_cons, List.length_nil, rep1t, List.flatten_cons, List.flatten_nil, sortAV, valueAV, eq_self, decide_true, not_true_eq_false, decide_false, ne_eq, Bool.not_true, avs, avb, avi, avo, sigCells, opCells, pairCells, elT, avt, termCells_eq, go_sem, ↓reduceIte, reduceAdd, reduceSub, reduceMul, reduceLeDiff, reduceLT, reduceEqDiff, reduceNeg, Nat.reduceBEq]; done))) | (refine c_ctrE (a7) ?_ ?_; (focus (simp -implicitDefEqProofs (disch := omega) only [List.flatMap_cons, List.flatMap_nil, List.append_nil, List.length_cons, List.length_nil, rep1t, List.flatten_cons, List.flatten_nil, sortAV, valueAV, eq_self, decide_true, not_true_eq_false, decide_false, ne_eq, Bool.not_true, avs, avb, avi, avo, sigCells, opCells, pairCells, elT, avt, termCells_eq, go_sem, ↓reduceIte, reduceAdd, reduceSub, reduceMul, reduceLeDiff, reduceLT, reduceEqDiff, reduceNeg, Nat.reduceBEq]; done))) | (refine c_ctrE (a8) ?_ ?_; (focus (simp -implicitDefEqProofs (disch := omega) only [List.flatMap_cons, List.flatMap_nil, List.append_nil, List.length_cons, List.length_nil, rep1t, List.flatten_cons, List.flatten_nil, sortAV, valueAV, eq_self, decide_true, not_true_eq_false, decide_false, ne_eq, Bool.not_true, avs, avb, avi, avo, sigCells, opCells, pairCells, elT, avt, termCells_eq, go_sem, ↓reduceIte, reduceAdd, reduceSub, reduceMul, reduceLeDiff, reduceLT, reduceEqDiff, reduceNeg, Nat.reduceBEq]; done))) | (refine c_ctrE (a9) ?_ ?_; (focus (simp -implicitDefEqProofs (disch := omega) only [List.flatMap_cons, List.flatMap_nil, List.append_nil, List.length_cons, List.length_nil, rep1t, List.flatten_cons, List.flatten_nil, sortAV, valueAV, eq_self, decide_true, not_true_eq_false, decide_false, ne_eq, Bool.not_true, avs, avb, avi, avo, sigCells, opCells, pairCells, elT, avt, termCells_eq, go_sem, ↓reduceIte, reduceAdd, reduceSub, reduceMul, reduceLeDiff, reduceLT, reduceEqDiff, reduceNeg, Nat.reduceBEq]; done))) | (refine c_ctrE (b1) ?_ ?_; (focus (simp -implicitDefEqProofs (disch := omega) only [List.flatMap_cons, List.flatMap_nil, List.append_nil, List.length_cons, List.length_nil, rep1t, List.flatten_cons, List.flatten_nil, sortAV, valueAV, eq_self, decide_true, not_true_eq_false, decide_false, ne_eq, Bool.not_true, avs, avb, avi, avo, sigCells, opCells, pairCells, elT, avt, termCells_eq, go_sem, ↓reduceIte, reduceAdd, reduceSub, reduceMul, reduceLeDiff, reduceLT, reduceEqDiff, reduceNeg, Nat.reduceBEq]; done))) | (refine c_ctrE (ctr328) ?_ ?_; (focus (simp -implicitDefEqProofs (disch := omega) only [List.flatMap_cons, List.flatMap_nil, List.append_nil, List.length_cons, List.length_nil, rep1t, List.flatten_cons, List.flatten_nil, sortAV, valueAV, eq_self, decide_true, not_true_eq_false, decide_false, ne_eq, Bool.not_true, avs, avb, avi, avo, sigCells, opCells, pairCells, elT, avt, termCells_eq, go_sem, ↓reduceIte, reduceAdd, reduceSub, reduceMul, reduceLeDiff, reduceLT, reduceEqDiff, reduceNeg, Nat.reduceBEq]; done)))); simp -implicitDefEqProofs (disch := omega) only [List.flatMap_cons, List.flatMap_nil, List.append_nil, List.length_cons, List.length_nil, rep1t, List.flatten_cons, List.flatten_nil, sortAV, valueAV, eq_self, decide_true, not_true_eq_false, decide_false, ne_eq, Bool.not_true, go_sem, ↓reduceIte, reduceAdd, reduceSub, reduceMul, reduceLeDiff, reduceLT, reduceEqDiff, reduceNeg, Nat.reduceBEq]) | refine And.intro (by omega) ?_ | (intro hr; have hc := hr; (try simp only [zda, zdb, zdc, zdd] at hc); simp -implicitDefEqProofs (disch := omega) only [hr, List.flatMap_cons, List.flatMap_nil, List.append_nil, List.length_cons, List.length_nil, rep1t, List.flatten_cons, List.flatten_nil, sortAV, valueAV, eq_self, decide_true, not_true_eq_false, decide_false, ne_eq, Bool.not_true, go_sem, ↓reduceIte, reduceAdd, reduceSub, reduceMul, reduceLeDiff, reduceLT, reduceEqDiff, reduceNeg, Nat.reduceBEq]; (try clear hr))))
       all_goals first
         | exact fin_eq rfl rfl
         | (exfalso; simp_all; done)
     · rw [h2] at ft
       simp -implicitDefEqProofs (disch := omega) only [List.flatMap_cons, List.flatMap_nil, List.append_nil, List.length_cons, List.length_nil, rep1t, List.flatten_cons, List.flatten_nil, go_sem, ↓reduceIte, reduceAdd, reduceSub, reduceMul, reduceLeDiff, reduceLT, reduceEqDiff, reduceNeg, Nat.reduceBEq]
       (repeat' (first | refine gT ?_ ?_ | refine gF ?_ ?_ | refine gC ?_ ?_ | ((first | (refine c_ctrE (fs) ?_ ?_; (focus (simp -implicitDefEqProofs (disch := omega) only [List.flatMap_cons, List.flatMap_nil, List.append_nil, List.length_cons, List.length_nil, rep1t, List.flatten_cons, List.flatten_nil, avs, avb, avi, avo, sigCells, opCells, pairCells, elT, avt, termCells_eq, go_sem, ↓reduceIte, reduceAdd, reduceSub, reduceMul, reduceLeDiff, reduceLT, reduceEqDiff, reduceNeg, Nat.reduceBEq]; done))) | (refine c_ctrE (ft) ?_ ?_; (focus (simp -implicitDefEqProofs (disch := omega) only [List.flatMap_cons, List.flatMap_nil, List.append_nil, List.length_cons, List.length_nil, rep1t, List.flatten_cons, List.flatten_nil, avs, avb, avi, avo, sigCells, opCells, pairCells, elT, avt, termCells_eq, go_sem, ↓reduceIte, reduceAdd, reduceSub, reduceMul, reduceLeDiff, reduceLT, reduceEqDiff, reduceNeg, Nat.reduceBEq]; done))) | (refine c_ctrE (ctr328) ?_ ?_; (focus (simp -implicitDefEqProofs (disch := omega) only [List.flatMap_cons, List.flatMap_nil, List.append_nil, List.length_cons, List.length_nil, rep1t, List.flatten_cons, List.flatten_nil, avs, avb, avi, avo, sigCells, opCells, pairCells, elT, avt, termCells_eq, go_sem, ↓reduceIte, reduceAdd, reduceSub, reduceMul, reduceLeDiff, reduceLT, reduceEqDiff, reduceNeg, Nat.reduceBEq]; done)))); simp -implicitDefEqProofs (disch := omega) only [List.flatMap_cons, List.flatMap_nil, List.append_nil, List.length_cons, List.length_nil, rep1t, List.flatten_cons, List.flatten_nil, go_sem, ↓reduceIte, reduceAdd, reduceSub, reduceMul, reduceLeDiff, reduceLT, reduceEqDiff, reduceNeg, Nat.reduceBEq]) | refine And.intro (by omega) ?_ | (intro hr; have hc := hr; (try simp only [zda, zdb, zdc, zdd] at hc); simp -implicitDefEqProofs (disch := omega) only [hr, List.flatMap_cons, List.flatMap_nil, List.append_nil, List.length_cons, List.length_nil, rep1t, List.flatten_cons, List.flatten_nil, go_sem, ↓reduceIte, reduceAdd, reduceSub, reduceMul, reduceLeDiff, reduceLT, reduceEqDiff, reduceNeg, Nat.reduceBEq]; (try clear hr))))
       all_goals exact fin_eq rfl rfl
   · rw [h1] at fs
     simp -implicitDefEqProofs (disch := omega) only [go_sem, ↓reduceIte, reduceAdd, reduceSub, reduceMul, reduceLeDiff, reduceLT, reduceEqDiff, reduceNeg, Nat.reduceBEq]
     (repeat' (first | refine gT ?_ ?_ | refine gF ?_ ?_ | refine gC ?_ ?_ | ((first | (refine c_ctrE (fs) ?_ ?_; (focus (simp -implicitDefEqProofs (disch := omega) only [avs, avb, avi, avo, sigCells, opCells, pairCells, elT, avt, termCells_eq, go_sem, ↓reduceIte, reduceAdd, reduceSub, reduceMul, reduceLeDiff, reduceLT, reduceEqDiff, reduceNeg, Nat.reduceBEq]; done))) | (refine c_ctrE (ctr328) ?_ ?_; (focus (simp -implicitDefEqProofs (disch := omega) only [avs, avb, avi, avo, sigCells, opCells, pairCells, elT, avt, termCells_eq, go_sem, ↓reduceIte, reduceAdd, reduceSub, reduceMul, reduceLeDiff, reduceLT, reduceEqDiff, reduceNeg, Nat.reduceBEq]; done)))); simp -implicitDefEqProofs (disch := omega) only [go_sem, ↓reduceIte, reduceAdd, reduceSub, reduceMul, reduceLeDiff, reduceLT, reduceEqDiff, reduceNeg, Nat.reduceBEq]) | refine And.intro (by omega) ?_ | (intro hr; have hc := hr; (try simp only [zda, zdb, zdc, zdd] at hc); simp -implicitDefEqProofs (disch := omega) only [hr, go_sem, ↓reduceIte, reduceAdd, reduceSub, reduceMul, reduceLeDiff, reduceLT, reduceEqDiff, reduceNeg, Nat.reduceBEq]; (try clear hr))))
     all_goals exact fin_eq rfl rfl
end Go.Proofs.YtnjnjdebgkjfhaaGreatDoor

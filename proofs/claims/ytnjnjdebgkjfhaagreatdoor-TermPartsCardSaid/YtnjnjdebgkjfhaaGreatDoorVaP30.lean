/-
  What functions of the chapter return, as plain functions of what they are given; no condition beyond those that each theorem names.
-/
import Derived.Test.YtnjnjdebgkjfhaaGreatDoorVaP27
import Derived.Test.YtnjnjdebgkjfhaaGreatDoorSoP24
import Derived.Test.YtnjnjdebgkjfhaaGreatDoorSoP28
import Derived.Test.YtnjnjdebgkjfhaaGreatDoorVaP24
import Derived.Test.YtnjnjdebgkjfhaaGreatDoorVaP26
set_option maxRecDepth 100000
set_option linter.unusedSimpArgs false
set_option linter.unusedVariables false
set_option maxHeartbeats 4000000
namespace Go.Proofs.YtnjnjdebgkjfhaaGreatDoor
open Go Go.Vo
open Nat (reduceAdd reduceSub reduceMul reduceLeDiff reduceLT reduceEqDiff)
open Int (reduceNeg)

def stepOk (t : LTerm) (i : Int) : Bool := decide (0 ≤ i) && decide (i < t.kids.length)
def kidAt (t : LTerm) (i : Int) : LTerm := t.kids.getD i.toNat default
def stopT : LTerm → List Int → LTerm
 | t, [] => t
 | t, i :: p => if stepOk t i then stopT (kidAt t i) p else t
def atOk : LTerm → List Int → Bool
 | _, [] => true
 | t, i :: p => stepOk t i && atOk (kidAt t i) p
theorem drop_at {p : List Int} {k : Nat} (h : k < p.length) : p.drop k = p.getD k 0 :: p.drop (k + 1) := by
 rw [List.drop_eq_getElem_cons h]; simp [List.getD, h]
def PathOk (p : List Int) : Prop := p.length ≤ 140737488355328 ∧ ∀ i ∈ p, -9223372036854775808 ≤ i ∧ i ≤ 9223372036854775807
theorem PathOk.at {p : List Int} (h : PathOk p) {k : Nat} (hk : k < p.length) : -9223372036854775808 ≤ p.getD k 0 ∧ p.getD k 0 ≤ 9223372036854775807 := h.2 _ (mem_getD hk)
theorem OkT.kidAt {t : LTerm} (h : OkT t) {i : Int} (hi : stepOk t i = true) : OkT (kidAt t i) := by
 simp only [stepOk, Bool.and_eq_true, decide_eq_true_eq] at hi
 exact h.kid _ (mem_getD (by omega))
def resB (t : LTerm) (b : Bool) : AV := .tup [elT t, .b b]
theorem fin_tb {H : List AObj} {t : LTerm} {v4 v5 : AV} {c : Bool} (r4 : Rd6 H v4 t.kids) (r5 : Rd6 H v5 t.rest) : Fin H (.tup [.agg [.i .i64 t.kind, .i .i64 t.n, .s t.text, .s t.sort, v4, v5], .b c]) (resB t c) := by
 have e4 := rd6_fin r4
 have e5 := rd6_fin r5
 have hn : finIds (.tup [.agg [.i .i64 t.kind, .i .i64 t.n, .s t.text, .s t.sort, v4, v5], .b c]) (resB t c) = [] := by
   simp only [resB, elT, finIds, finIdsL, termCells_eq, e4.2, e5.2, List.append_nil]
 refine .inr ⟨?_, ?_, ?_⟩
 · rw [resB, elT, termCells_eq]; exact ⟨⟨rfl, rfl, rfl, rfl, e4.1, e5.1, trivial⟩, rfl, trivial⟩
 · rw [hn]; exact List.nodup_nil
 · rw [hn]; simp
theorem fin_tbP {H : List AObj} {t u : LTerm} {b c : Bool} (h : t = u) (hb : b = c) : Fin H (.tup [.agg [.i .i64 u.kind, .i .i64 u.n, .s u.text, .s u.sort, .sl (u.kids.flatMap termCells) u.kids.length, .sl (u.rest.flatMap termCells) u.rest.length], .b c]) (resB t b) := by
 subst h hb
 exact fin_tb rd6_sl rd6_sl
theorem ctr367 (t : LTerm) (p : List Int) (ht : OkT t) (hp : PathOk p): CT 75 [elT t, avi p] (resB (stopT t p) (atOk t p)) := by
 refine sem_introA mixed Tryz.func75 g0 ?_
 · generalize hR : ((resB (stopT t p) (atOk t p)) : AV) = R
   simp -implicitDefEqProofs (disch := omega) only [Tryz.f75, go_sem, List.replicate, ↓reduceIte, reduceAdd, reduceSub, reduceMul, reduceLeDiff, reduceLT, reduceEqDiff, reduceNeg, Nat.reduceBEq, avi]
   (repeat' (first | refine gT ?_ ?_ | refine gF ?_ ?_ | refine gC ?_ ?_ | refine And.intro (by omega) ?_ | (intro hr; have hc := hr; (try simp only [zda, zdb, zdc, zdd] at hc); simp -implicitDefEqProofs (disch := omega) only [hr, go_sem, ↓reduceIte, reduceAdd, reduceSub, reduceMul, reduceLeDiff, reduceLT, reduceEqDiff, reduceNeg, Nat.reduceBEq]; (try clear hr))))
   refine x_loopJ (fun (s : Nat × LTerm) => [.k, .k, .k, .k, .k, .j, .k, .j, .k, .k, .v (.i .i64 (s.1 : Nat)), .j, .j, .j, .j, .j, .j, .j, .j, .j, .j, .j, .j, .j, .j, .j, .j, .j, .j, .j, .k]) (fun s => [.box false [.i .i64 (s.2).kind, .i .i64 (s.2).n, .s (s.2).text, .s (s.2).sort, .sl ((s.2).kids.flatMap termCells) (s.2).kids.length, .sl ((s.2).rest.flatMap termCells) (s.2).rest.length], .box false [.i .i64 0, .i .i64 0, .s [], .s [], .e0, .e0]]) (fun s => (s.1 ≤ p.length ∧ OkT s.2) ∧ stopT t p = stopT s.2 (p.drop s.1) ∧ atOk t p = atOk s.2 (p.drop s.1)) (fun s => p.length - s.1) ((0, t)) ⟨⟨Nat.zero_le _, ht⟩, rfl, rfl⟩ rfl (by simp [Fits]) ?_
   rintro ⟨k, u⟩ j ⟨⟨hk, hu⟩, h1, h2⟩
   dsimp only at hk hu h1 h2
   have hq := hp.1
   have hb := fun h => hp.at (k := k) h
   have hl := hu.kids
   simp -implicitDefEqProofs (disch := omega) only [go_sem, ↓reduceIte, reduceAdd, reduceSub, reduceMul, reduceLeDiff, reduceLT, reduceEqDiff, reduceNeg, Nat.reduceBEq]
   (repeat' (first | refine gT ?_ ?_ | refine gF ?_ ?_ | refine gC ?_ ?_ | refine And.intro (by omega) ?_ | (intro hr; have hc := hr; (try simp only [zda, zdb, zdc, zdd] at hc); simp -implicitDefEqProofs (disch := omega) only [hr, go_sem, ↓reduceIte, reduceAdd, reduceSub, reduceMul, reduceLeDiff, reduceLT, reduceEqDiff, reduceNeg, Nat.reduceBEq]; (try clear hr))))
   · have hn : stepOk u (p.getD k 0) = false := by simp only [stepOk, Bool.and_eq_false_iff, decide_eq_false_iff_not]; omega
     rw [drop_at (by omega)] at h1 h2
     rw [stopT, if_neg (by rw [hn]; simp)] at h1
     rw [atOk, hn, Bool.false_and] at h2
     subst hR
     exact fin_tbP h1 h2
   · have hn : stepOk u (p.getD k 0) = true := by simp only [stepOk, Bool.and_eq_true, decide_eq_true_eq]; omega
     rw [drop_at (by omega)] at h1 h2
     rw [stopT, if_pos hn] at h1
     rw [atOk, hn, Bool.true_and] at h2
     exact ⟨(k + 1, kidAt u (p.getD k 0)), ⟨⟨by dsimp only; omega, hu.kidAt hn⟩, h1, h2⟩, by dsimp only; omega, rfl, by simp⟩
   · have hn : stepOk u (p.getD k 0) = false := by simp only [stepOk, Bool.and_eq_false_iff, decide_eq_false_iff_not]; omega
     rw [drop_at (by omega)] at h1 h2
     rw [stopT, if_neg (by rw [hn]; simp)] at h1
     rw [atOk, hn, Bool.false_and] at h2
     subst hR
     exact fin_tbP h1 h2
   · rw [List.drop_of_length_le (by omega)] at h1 h2
     rw [stopT] at h1
     rw [atOk] at h2
     subst hR
     exact fin_tbP (by first | exact h1 | (rw [h2]; exact h1)) h2
theorem ctr368 (t : LTerm) (p : List Int) (ht : OkT t) (hp : PathOk p): CT 77 [elT t, avi p] (resB (if atOk t p then stopT t p else tZ) (atOk t p)) := by
 refine sem_introA mixed Tryz.func77 g0 ?_
 · generalize hR : ((resB (if atOk t p then stopT t p else tZ) (atOk t p)) : AV) = R
   simp -implicitDefEqProofs (disch := omega) only [Tryz.f77, go_sem, List.replicate, ↓reduceIte, reduceAdd, reduceSub, reduceMul, reduceLeDiff, reduceLT, reduceEqDiff, reduceNeg, Nat.reduceBEq, avi]
   (repeat' (first | refine gT ?_ ?_ | refine gF ?_ ?_ | refine gC ?_ ?_ | refine And.intro (by omega) ?_ | (intro hr; have hc := hr; (try simp only [zda, zdb, zdc, zdd] at hc); simp -implicitDefEqProofs (disch := omega) only [hr, go_sem, ↓reduceIte, reduceAdd, reduceSub, reduceMul, reduceLeDiff, reduceLT, reduceEqDiff, reduceNeg, Nat.reduceBEq]; (try clear hr))))
   refine x_loopJ (fun (s : Nat × LTerm) => [.k, .k, .k, .k, .k, .j, .k, .j, .k, .k, .v (.i .i64 (s.1 : Nat)), .j, .j, .j, .j, .j, .j, .j, .j, .j, .j, .j, .j, .j, .j, .j, .j, .j, .j, .j, .k]) (fun s => [.box false [.i .i64 (s.2).kind, .i .i64 (s.2).n, .s (s.2).text, .s (s.2).sort, .sl ((s.2).kids.flatMap termCells) (s.2).kids.length, .sl ((s.2).rest.flatMap termCells) (s.2).rest.length], .box false [.i .i64 0, .i .i64 0, .s [], .s [], .e0, .e0]]) (fun s => (s.1 ≤ p.length ∧ OkT s.2) ∧ stopT t p = stopT s.2 (p.drop s.1) ∧ atOk t p = atOk s.2 (p.drop s.1)) (fun s => p.length - s.1) ((0, t)) ⟨⟨Nat.zero_le _, ht⟩, rfl, rfl⟩ rfl (by simp [Fits]) ?_
   rintro ⟨k, u⟩ j ⟨⟨hk, hu⟩, h1, h2⟩
   dsimp only at hk hu h1 h2
   have hq := hp.1
   have hb := fun h => hp.at (k := k) h
   have hl := hu.kids
   simp -implicitDefEqProofs (disch := omega) only [go_sem, ↓reduceIte, reduceAdd, reduceSub, reduceMul, reduceLeDiff, reduceLT, reduceEqDiff, reduceNeg, Nat.reduceBEq]
   (repeat' (first | refine gT ?_ ?_ | refine gF ?_ ?_ | refine gC ?_ ?_ | refine And.intro (by omega) ?_ | (intro hr; have hc := hr; (try simp only [zda, zdb, zdc, zdd] at hc); simp -implicitDefEqProofs (disch := omega) only [hr, go_sem, ↓reduceIte, reduceAdd, reduceSub, reduceMul, reduceLeDiff, reduceLT, reduceEqDiff, reduceNeg, Nat.reduceBEq]; (try clear hr))))
   · have hn : stepOk u (p.getD k 0) = false := by simp only [stepOk, Bool.and_eq_false_iff, decide_eq_false_iff_not]; omega
     rw [drop_at (by omega)] at h1 h2
     rw [stopT, if_neg (by rw [hn]; simp)] at h1
     rw [atOk, hn, Bool.false_and] at h2
     subst hR
     (rw [h2, if_neg (by simp)]; exact fin_tb (t := tZ) rd6_e0 rd6_e0)
   · have hn : stepOk u (p.getD k 0) = true := by simp only [stepOk, Bool.and_eq_true, decide_eq_true_eq]; omega
     rw [drop_at (by omega)] at h1 h2
     rw [stopT, if_pos hn] at h1
     rw [atOk, hn, Bool.true_and] at h2
     exact ⟨(k + 1, kidAt u (p.getD k 0)), ⟨⟨by dsimp only; omega, hu.kidAt hn⟩, h1, h2⟩, by dsimp only; omega, rfl, by simp⟩
   · have hn : stepOk u (p.getD k 0) = false := by simp only [stepOk, Bool.and_eq_false_iff, decide_eq_false_iff_not]; omega
     rw [drop_at (by omega)] at h1 h2
     rw [stopT, if_neg (by rw [hn]; simp)] at h1
     rw [atOk, hn, Bool.false_and] at h2
     subst hR
     (rw [h2, if_neg (by simp)]; exact fin_tb (t := tZ) rd6_e0 rd6_e0)
   · rw [List.drop_of_length_le (by omega)] at h1 h2
     rw [stopT] at h1
     rw [atOk] at h2
     subst hR
     exact fin_tbP (by first | exact h1 | (rw [h2]; exact h1)) h2
def atV (t : LTerm) (p : List Int) : Res := if validT nodeB t then (if atOk t p then (stopT t p, 0) else (tZ, 4)) else (tZ, 2)
theorem stop_ok : ∀ {p : List Int} {t : LTerm}, OkT t → OkT (stopT t p)
 | [], t, h => h
 | i :: p, t, h => by
   rw [stopT]
   split
   · rename_i hi
     exact stop_ok (h.kidAt hi)
   · exact h
theorem ctr347 (t : LTerm) (p : List Int) (ht : OkT t) (hp : PathOk p): CT 39 [elT t, avi p] (resV (atV t p)) := by
 refine sem_introA mixed Tryz.func39 g0 ?_
 · generalize hR : ((resV (atV t p)) : AV) = R
   simp -implicitDefEqProofs (disch := omega) only [Tryz.f39, go_sem, List.replicate, ↓reduceIte, reduceAdd, reduceSub, reduceMul, reduceLeDiff, reduceLT, reduceEqDiff, reduceNeg, Nat.reduceBEq, avi]
   have c := ctr242 t ht
   have c1 := ctr367 t p ht hp
   have c2 := ctr233 (stopT t p) (stop_ok ht)
   cases hv : validT nodeB t with
   | false =>
     rw [hv] at c
     (repeat' (first | refine gT ?_ ?_ | refine gF ?_ ?_ | refine gC ?_ ?_ | ((refine c_ctrE (c) ?_ ?_; (focus (simp -implicitDefEqProofs (disch := omega) only [avs, avb, avi, avo, sigCells, opCells, pairCells, elT, avt, termCells_eq, go_sem, ↓reduceIte, reduceAdd, reduceSub, reduceMul, reduceLeDiff, reduceLT, reduceEqDiff, reduceNeg, Nat.reduceBEq]; done))); simp -implicitDefEqProofs (disch := omega) only [go_sem, ↓reduceIte, reduceAdd, reduceSub, reduceMul, reduceLeDiff, reduceLT, reduceEqDiff, reduceNeg, Nat.reduceBEq]) | refine And.intro (by omega) ?_ | (intro hr; have hc := hr; (try simp only [zda, zdb, zdc, zdd] at hc); simp -implicitDefEqProofs (disch := omega) only [hr, go_sem, ↓reduceIte, reduceAdd, reduceSub, reduceMul, reduceLeDiff, reduceLT, reduceEqDiff, reduceNeg, Nat.reduceBEq]; (try clear hr))))
     subst hR
     exact fin_res (by rw [atV, hv]; rfl) rd6_e0 rd6_e0
   | true =>
     rw [hv] at c
     cases ha : atOk t p with
     | false =>
       rw [ha] at c1
       (repeat' (first | refine gT ?_ ?_ | refine gF ?_ ?_ | refine gC ?_ ?_ | ((first | (refine c_ctrE (c) ?_ ?_; (focus (simp -implicitDefEqProofs (disch := omega) only [resB, avs, avb, avi, avo, sigCells, opCells, pairCells, elT, avt, termCells_eq, go_sem, ↓reduceIte, reduceAdd, reduceSub, reduceMul, reduceLeDiff, reduceLT, reduceEqDiff, reduceNeg, Nat.reduceBEq]; done))) | (refine c_ctrE (c1) ?_ ?_; (focus (simp -implicitDefEqProofs (disch := omega) only [resB, avs, avb, avi, avo, sigCells, opCells, pairCells, elT, avt, termCells_eq, go_sem, ↓reduceIte, reduceAdd, reduceSub, reduceMul, reduceLeDiff, reduceLT, reduceEqDiff, reduceNeg, Nat.reduceBEq]; done)))); simp -implicitDefEqProofs (disch := omega) only [resB, go_sem, ↓reduceIte, reduceAdd, reduceSub, reduceMul, reduceLeDiff, reduceLT, reduceEqDiff, reduceNeg, Nat.reduceBEq]) | refine And.intro (by omega) ?_ | (intro hr; have hc := hr; (try simp only [zda, zdb, zdc, zdd] at hc); simp -implicitDefEqProofs (disch := omega) only [hr, resB, go_sem, ↓reduceIte, reduceAdd, reduceSub, reduceMul, reduceLeDiff, reduceLT, reduceEqDiff, reduceNeg, Nat.reduceBEq]; (try clear hr))))
       subst hR
       exact fin_res (by rw [atV, hv, ha]; rfl) rd6_e0 rd6_e0
     | true =>
       rw [ha] at c1
       (repeat' (first | refine gT ?_ ?_ | refine gF ?_ ?_ | refine gC ?_ ?_ | ((first | (refine c_ctrE (c) ?_ ?_; (focus (simp -implicitDefEqProofs (disch := omega) only [resB, avs, avb, avi, avo, sigCells, opCells, pairCells, elT, avt, termCells_eq, go_sem, ↓reduceIte, reduceAdd, reduceSub, reduceMul, reduceLeDiff, reduceLT, reduceEqDiff, reduceNeg, Nat.reduceBEq]; done))) | (refine c_ctrE (c1) ?_ ?_; (focus (simp -implicitDefEqProofs (disch := omega) only [resB, avs, avb, avi, avo, sigCells, opCells, pairCells, elT, avt, termCells_eq, go_sem, ↓reduceIte, reduceAdd, reduceSub, reduceMul, reduceLeDiff, reduceLT, reduceEqDiff, reduceNeg, Nat.reduceBEq]; done))) | (refine c_ctrE (c2) ?_ ?_; (focus (simp -implicitDefEqProofs (disch := omega) only [resB, avs, avb, avi, avo, sigCells, opCells, pairCells, elT, avt, termCells_eq, go_sem, ↓reduceIte, reduceAdd, reduceSub, reduceMul, reduceLeDiff, reduceLT, reduceEqDiff, reduceNeg, Nat.reduceBEq]; done)))); simp -implicitDefEqProofs (disch := omega) only [resB, go_sem, ↓reduceIte, reduceAdd, reduceSub, reduceMul, reduceLeDiff, reduceLT, reduceEqDiff, reduceNeg, Nat.reduceBEq]) | refine And.intro (by omega) ?_ | (intro hr; have hc := hr; (try simp only [zda, zdb, zdc, zdd] at hc); simp -implicitDefEqProofs (disch := omega) only [hr, resB, go_sem, ↓reduceIte, reduceAdd, reduceSub, reduceMul, reduceLeDiff, reduceLT, reduceEqDiff, reduceNeg, Nat.reduceBEq]; (try clear hr))))
       subst hR
       have he : atV t p = (stopT t p, 0) := by rw [atV, hv, ha]; rfl
       exact fin_resP he
theorem ctr348 (t : LTerm) (p : List Int) (ht : OkT t) (hp : PathOk p): CT 40 [elT t, avi p] (resV (atV t p)) := by
 refine sem_introA mixed Tryz.func40 g0 ?_
 · generalize hR : ((resV (atV t p)) : AV) = R
   simp -implicitDefEqProofs (disch := omega) only [Tryz.f40, go_sem, List.replicate, ↓reduceIte, reduceAdd, reduceSub, reduceMul, reduceLeDiff, reduceLT, reduceEqDiff, reduceNeg, Nat.reduceBEq, avi]
   have c := ctr252 t ht
   have c1 := ctr368 t p ht hp
   cases hv : validT nodeB t with
   | false =>
     rw [hv] at c
     (repeat' (first | refine gT ?_ ?_ | refine gF ?_ ?_ | refine gC ?_ ?_ | ((refine c_ctrE (c) ?_ ?_; (focus (simp -implicitDefEqProofs (disch := omega) only [avs, avb, avi, avo, sigCells, opCells, pairCells, elT, avt, termCells_eq, go_sem, ↓reduceIte, reduceAdd, reduceSub, reduceMul, reduceLeDiff, reduceLT, reduceEqDiff, reduceNeg, Nat.reduceBEq]; done))); simp -implicitDefEqProofs (disch := omega) only [go_sem, ↓reduceIte, reduceAdd, reduceSub, reduceMul, reduceLeDiff, reduceLT, reduceEqDiff, reduceNeg, Nat.reduceBEq]) | refine And.intro (by omega) ?_ | (intro hr; have hc := hr; (try simp only [zda, zdb, zdc, zdd] at hc); simp -implicitDefEqProofs (disch := omega) only [hr, go_sem, ↓reduceIte, reduceAdd, reduceSub, reduceMul, reduceLeDiff, reduceLT, reduceEqDiff, reduceNeg, Nat.reduceBEq]; (try clear hr))))
     subst hR
     exact fin_res (by rw [atV, hv]; rfl) rd6_e0 rd6_e0
   | true =>
     rw [hv] at c
     cases ha : atOk t p with
     | false =>
       rw [ha, if_neg (by simp)] at c1
       (repeat' (first | refine gT ?_ ?_ | refine gF ?_ ?_ | refine gC ?_ ?_ | ((first | (refine c_ctrE (c) ?_ ?_; (focus (simp -implicitDefEqProofs (disch := omega) only [resB, avs, avb, avi, avo, sigCells, opCells, pairCells, elT, avt, termCells_eq, go_sem, ↓reduceIte, reduceAdd, reduceSub, reduceMul, reduceLeDiff, reduceLT, reduceEqDiff, reduceNeg, Nat.reduceBEq]; done))) | (refine c_ctrE (c1) ?_ ?_; (focus (simp -implicitDefEqProofs (disch := omega) only [resB, avs, avb, avi, avo, sigCells, opCells, pairCells, elT, avt, termCells_eq, go_sem, ↓reduceIte, reduceAdd, reduceSub, reduceMul, reduceLeDiff, reduceLT, reduceEqDiff, reduceNeg, Nat.reduceBEq]; done)))); simp -implicitDefEqProofs (disch := omega) only [resB, go_sem, ↓reduceIte, reduceAdd, reduceSub, reduceMul, reduceLeDiff, reduceLT, reduceEqDiff, reduceNeg, Nat.reduceBEq]) | refine And.intro (by omega) ?_ | (intro hr; have hc := hr; (try simp only [zda, zdb, zdc, zdd] at hc); simp -implicitDefEqProofs (disch := omega) only [hr, resB, go_sem, ↓reduceIte, reduceAdd, reduceSub, reduceMul, reduceLeDiff, reduceLT, reduceEqDiff, reduceNeg, Nat.reduceBEq]; (try clear hr))))
       subst hR
       exact fin_res (by rw [atV, hv, ha]; rfl) rd6_e0 rd6_e0
     | true =>
       rw [ha, if_pos rfl] at c1
       (repeat' (first | refine gT ?_ ?_ | refine gF ?_ ?_ | refine gC ?_ ?_ | ((first | (refine c_ctrE (c) ?_ ?_; (focus (simp -implicitDefEqProofs (disch := omega) only [resB, avs, avb, avi, avo, sigCells, opCells, pairCells, elT, avt, termCells_eq, go_sem, ↓reduceIte, reduceAdd, reduceSub, reduceMul, reduceLeDiff, reduceLT, reduceEqDiff, reduceNeg, Nat.reduceBEq]; done))) | (refine c_ctrE (c1) ?_ ?_; (focus (simp -implicitDefEqProofs (disch := omega) only [resB, avs, avb, avi, avo, sigCells, opCells, pairCells, elT, avt, termCells_eq, go_sem, ↓reduceIte, reduceAdd, reduceSub, reduceMul, reduceLeDiff, reduceLT, reduceEqDiff, reduceNeg, Nat.reduceBEq]; done)))); simp -implicitDefEqProofs (disch := omega) only [resB, go_sem, ↓reduceIte, reduceAdd, reduceSub, reduceMul, reduceLeDiff, reduceLT, reduceEqDiff, reduceNeg, Nat.reduceBEq]) | refine And.intro (by omega) ?_ | (intro hr; have hc := hr; (try simp only [zda, zdb, zdc, zdd] at hc); simp -implicitDefEqProofs (disch := omega) only [hr, resB, go_sem, ↓reduceIte, reduceAdd, reduceSub, reduceMul, reduceLeDiff, reduceLT, reduceEqDiff, reduceNeg, Nat.reduceBEq]; (try clear hr))))
       subst hR
       have he : atV t p = (stopT t p, 0) := by rw [atV, hv, ha]; rfl
       exact fin_resP he

mutual
def chT (a b : Str) : Bool → LTerm → LTerm
 | q, .mk k n x s ks rs => .mk k n (if k = 5 then swapOp x a b else if k = 6 then (if x = [95] then x else if x = [36] then x else swap x a b) else x)
     (if k = 5 then s else if k = 6 then (if x = [95] then s else if x = [36] then s else if q = true then swap s a b else s) else s) (chL a b q ks) (chL a b false rs)
def chL (a b : Str) : Bool → List LTerm → List LTerm
 | q, [] => []
 | q, t :: l => chT a b q t :: chL a b q l
end
theorem chL_eq {q : Bool} {a b : Str} : ∀ {l : List LTerm}, chL a b q l = l.map (chT a b q)
 | [] => rfl
 | t :: l => by rw [chL, chL_eq, List.map_cons]
theorem chT_eq {q : Bool} {a b : Str} {t : LTerm} : chT a b q t = .mk t.kind t.n (if t.kind = 5 then swapOp t.text a b else if t.kind = 6 then (if t.text = [95] then t.text else if t.text = [36] then t.text else swap t.text a b) else t.text)
     (if t.kind = 5 then t.sort else if t.kind = 6 then (if t.text = [95] then t.sort else if t.text = [36] then t.sort else if q = true then swap t.sort a b else t.sort) else t.sort) (t.kids.map (chT a b q)) (t.rest.map (chT a b false)) := by
 cases t; rw [chT, chL_eq, chL_eq]; rfl
def opC (a b : Str) : AV := .fn 84 [] [.box [.s a] 0, .box [.s b] 0]
def vaC (a b : Str) : AV := .fn 81 [] [.box [.s a] 0, .box [.s b] 0]
def soC (q : Bool) (a b : Str) : AV := if q = true then vaC a b else .fn 146 [] []
theorem ctr385 (x : Str): CT 146 [.s x] (.s x) := by
 refine sem_introB mixed Tryz.func146 g0 ?_
 · skip
   (repeat' (first | refine gT ?_ ?_ | refine gF ?_ ?_ | refine gC ?_ ?_ | refine And.intro (by omega) ?_ | (intro hr; have hc := hr; (try simp only [zda, zdb, zdc, zdd] at hc); simp -implicitDefEqProofs (disch := omega) only [hr, go_sem, ↓reduceIte, reduceAdd, reduceSub, reduceMul, reduceLeDiff, reduceLT, reduceEqDiff, reduceNeg, Nat.reduceBEq]; (try clear hr))))
   exact fin_eq rfl rfl
theorem ctr371 (x a b : Str): CT 81 [.s x, .box [.s a] 0, .box [.s b] 0] (.s (swap x a b)) := by
 refine sem_introB mixed Tryz.func81 g0 ?_
 · skip
   (repeat' (first | refine gT ?_ ?_ | refine gF ?_ ?_ | refine gC ?_ ?_ | ((refine c_ctrE (ctr80 x a b) ?_ ?_; (focus (simp -implicitDefEqProofs (disch := omega) only [avs, avb, avi, avo, sigCells, opCells, pairCells, elT, avt, termCells_eq, go_sem, ↓reduceIte, reduceAdd, reduceSub, reduceMul, reduceLeDiff, reduceLT, reduceEqDiff, reduceNeg, Nat.reduceBEq]; done))); simp -implicitDefEqProofs (disch := omega) only [go_sem, ↓reduceIte, reduceAdd, reduceSub, reduceMul, reduceLeDiff, reduceLT, reduceEqDiff, reduceNeg, Nat.reduceBEq]) | refine And.intro (by omega) ?_ | (intro hr; have hc := hr; (try simp only [zda, zdb, zdc, zdd] at hc); simp -implicitDefEqProofs (disch := omega) only [hr, go_sem, ↓reduceIte, reduceAdd, reduceSub, reduceMul, reduceLeDiff, reduceLT, reduceEqDiff, reduceNeg, Nat.reduceBEq]; (try clear hr))))
   exact fin_eq rfl rfl
theorem ctr373 (x a b : Str) (hx : x.length ≤ 140737488355328) (ha : a.length ≤ 1000) (hb : b.length ≤ 1000): CT 84 [.s x, .box [.s a] 0, .box [.s b] 0] (.s (swapOp x a b)) := by
 refine sem_introB mixed Tryz.func84 g0 ?_
 · skip
   (repeat' (first | refine gT ?_ ?_ | refine gF ?_ ?_ | refine gC ?_ ?_ | ((refine c_ctrE (ctr83 x a b hx ha hb) ?_ ?_; (focus (simp -implicitDefEqProofs (disch := omega) only [avs, avb, avi, avo, sigCells, opCells, pairCells, elT, avt, termCells_eq, go_sem, ↓reduceIte, reduceAdd, reduceSub, reduceMul, reduceLeDiff, reduceLT, reduceEqDiff, reduceNeg, Nat.reduceBEq]; done))); simp -implicitDefEqProofs (disch := omega) only [go_sem, ↓reduceIte, reduceAdd, reduceSub, reduceMul, reduceLeDiff, reduceLT, reduceEqDiff, reduceNeg, Nat.reduceBEq]) | refine And.intro (by omega) ?_ | (intro hr; have hc := hr; (try simp only [zda, zdb, zdc, zdd] at hc); simp -implicitDefEqProofs (disch := omega) only [hr, go_sem, ↓reduceIte, reduceAdd, reduceSub, reduceMul, reduceLeDiff, reduceLT, reduceEqDiff, reduceNeg, Nat.reduceBEq]; (try clear hr))))
   exact fin_eq rfl rfl
theorem chg1 (l : List LTerm) (q : Bool) (a b : Str) (hl : l.length ≤ 1466015503701) (ih : ∀ t ∈ l, CT 83 [elT t, opC a b, soC q a b, vaC a b] (elT (chT a b q t))): CT 145 [avt l, soC q a b, .box [opC a b] 0, .box [vaC a b] 0] (avt (l.map (chT a b q))) := by
 refine sem_introA mixed Tryz.func145 g0 ?_
 · simp -implicitDefEqProofs (disch := omega) only [Tryz.f145, go_sem, List.replicate, ↓reduceIte, reduceAdd, reduceSub, reduceMul, reduceLeDiff, reduceLT, reduceEqDiff, reduceNeg, Nat.reduceBEq, avt, opC, vaC]
   have hs : pers (soC q a b) = true := by unfold soC; split <;> rfl
   generalize soC q a b = so at *
   refine x_loopJ (fun (s : Nat × AV × List AObj) => [.k, .k, .k, .k, .k, .k, .k, .v (s.2.1), .k, .j, .k, .k, .v (.i .i64 (s.1 : Nat)), .j, .j, .j, .j, .j, .j, .j, .j, .j, .j, .j, .j, .k]) (fun s => s.2.2) (fun s => s.1 ≤ l.length ∧ OutIs 6 0 s.2.2 s.2.1 (((l.map (chT a b q)).take s.1).flatMap termCells) s.1) (fun s => l.length - s.1) ((0, .e0, [])) ⟨Nat.zero_le _, outIs_e0⟩ rfl (by simp [Fits]) ?_
   rintro ⟨k, out, g⟩ j ⟨hk, ho⟩
   dsimp only at hk ho
   have o : k < l.length → CT 83 [elT (l.getD k default), opC a b, so, vaC a b] (elT (chT a b q (l.getD k default))) := fun h => ih _ (mem_getD h)
   simp -implicitDefEqProofs (disch := omega) only [go_sem, ↓reduceIte, reduceAdd, reduceSub, reduceMul, reduceLeDiff, reduceLT, reduceEqDiff, reduceNeg, Nat.reduceBEq]
   (repeat' (first | refine gT ?_ ?_ | refine gF ?_ ?_ | refine gC ?_ ?_ | ((refine c_ctrE ((o (by omega))) ?_ ?_; (focus (simp -implicitDefEqProofs (disch := omega) only [rep1t, opC, vaC, hs, avs, avb, avi, avo, sigCells, opCells, pairCells, elT, avt, termCells_eq, go_sem, ↓reduceIte, reduceAdd, reduceSub, reduceMul, reduceLeDiff, reduceLT, reduceEqDiff, reduceNeg, Nat.reduceBEq]; done))); simp -implicitDefEqProofs (disch := omega) only [rep1t, opC, vaC, hs, go_sem, ↓reduceIte, reduceAdd, reduceSub, reduceMul, reduceLeDiff, reduceLT, reduceEqDiff, reduceNeg, Nat.reduceBEq]) | refine And.intro (by omega) ?_ | (intro hr; have hc := hr; (try simp only [zda, zdb, zdc, zdd] at hc); simp -implicitDefEqProofs (disch := omega) only [hr, rep1t, opC, vaC, hs, go_sem, ↓reduceIte, reduceAdd, reduceSub, reduceMul, reduceLeDiff, reduceLT, reduceEqDiff, reduceNeg, Nat.reduceBEq]; (try clear hr))))
   · refine app_intro' (pre := []) (g := g ++ [.box false [.i .i64 (l.getD k default).kind, .i .i64 (l.getD k default).n, .s (l.getD k default).text, .s (l.getD k default).sort, .sl ((l.getD k default).kids.flatMap termCells) (l.getD k default).kids.length, .sl ((l.getD k default).rest.flatMap termCells) (l.getD k default).rest.length]]) (more := [.arr false 6 ([.i .i64 (chT a b q (l.getD k default)).kind, .i .i64 (chT a b q (l.getD k default)).n, .s (chT a b q (l.getD k default)).text, .s (chT a b q (l.getD k default)).sort, .sl ((chT a b q (l.getD k default)).kids.flatMap termCells) (chT a b q (l.getD k default)).kids.length, .sl ((chT a b q (l.getD k default)).rest.flatMap termCells) (chT a b q (l.getD k default)).rest.length])]) (news := [.i .i64 (chT a b q (l.getD k default)).kind, .i .i64 (chT a b q (l.getD k default)).n, .s (chT a b q (l.getD k default)).text, .s (chT a b q (l.getD k default)).sort, .sl ((chT a b q (l.getD k default)).kids.flatMap termCells) (chT a b q (l.getD k default)).kids.length, .sl ((chT a b q (l.getD k default)).rest.flatMap termCells) (chT a b q (l.getD k default)).rest.length]) (m := 1) ((ho).more _) rfl (by simp -implicitDefEqProofs (disch := omega) only [go_sem, ↓reduceIte, reduceAdd, reduceSub, reduceMul, reduceLeDiff, reduceLT, reduceEqDiff, reduceNeg, Nat.reduceBEq]) el28 zo30 sz30 by30 rfl (by decide) (by simp -implicitDefEqProofs (disch := omega) only [go_sem, ↓reduceIte, reduceAdd, reduceSub, reduceMul, reduceLeDiff, reduceLT, reduceEqDiff, reduceNeg, Nat.reduceBEq]) (by simp -implicitDefEqProofs (disch := omega) only [go_sem, ↓reduceIte, reduceAdd, reduceSub, reduceMul, reduceLeDiff, reduceLT, reduceEqDiff, reduceNeg, Nat.reduceBEq]) ⟨by omega, by omega⟩ ?_
     intro out' g' ho' _
     simp -implicitDefEqProofs (disch := omega) only [go_sem, ↓reduceIte, reduceAdd, reduceSub, reduceMul, reduceLeDiff, reduceLT, reduceEqDiff, reduceNeg, Nat.reduceBEq]
     refine ⟨(k + 1, out', g'), ⟨by dsimp only; omega, ?_⟩, by dsimp only; omega, rfl, by simp⟩
     dsimp only
     have hkl : k < (l.map (chT a b q)).length := by rw [List.length_map]; omega
     rw [List.map_take, take_cells hkl, termCells_eq]
     have e : (l.map (chT a b q)).getD k default = chT a b q (l.getD k default) := by simp [List.getD, show k < l.length by omega]
     rw [e]
     exact ho'
   · have h1 : k = l.length := by omega
     subst h1
     rw [List.take_of_length_le (by simp)] at ho
     have r := fin_rd (l := l.map (chT a b q)) (out_rd (by rw [List.length_map]; exact ho) rfl)
     rw [List.length_map] at r
     exact r
theorem ite_fz {c : Bool} {a d : AObj} {x y : List AV} : (if c = true then [a, .box false x, .box false y, d] else [a, .box true x, .box true y, d]) = [a, .box (!c) x, .box (!c) y, d] := by cases c <;> rfl
theorem ite_fz2 {c z : Bool} {a d : AObj} {x y : List AV} : (if c = true then [a, .box z x, .box z y, d] else [a, .box true x, .box true y, d]) = [a, .box (!c || z) x, .box (!c || z) y, d] := by cases c <;> rfl
theorem chg2 (t : LTerm) (q : Bool) (a b : Str) (ht : OkT t) (ha : a.length ≤ 1000) (hb : b.length ≤ 1000) (ck : CT 145 [avt t.kids, soC q a b, .box [opC a b] 0, .box [vaC a b] 0] (avt (t.kids.map (chT a b q)))) (cr : CT 145 [avt t.rest, soC false a b, .box [opC a b] 0, .box [vaC a b] 0] (avt (t.rest.map (chT a b false)))): CT 83 [elT t, opC a b, soC q a b, vaC a b] (elT (chT a b q t)) := by
 refine sem_introA mixed Tryz.func83 g0 ?_
 · simp -implicitDefEqProofs (disch := omega) only [Tryz.f83, go_sem, List.replicate, ↓reduceIte, reduceAdd, reduceSub, reduceMul, reduceLeDiff, reduceLT, reduceEqDiff, reduceNeg, Nat.reduceBEq, opC, vaC]
   have hx := ht.text
   have c1 := ctr373 t.text a b hx ha hb
   have c2 := ctr371 t.text a b
   have c3 : CT 81 [.s t.sort, .box [.s a] 0, .box [.s b] 0] (.s (swap t.sort a b)) := ctr371 t.sort a b
   have c4 := ctr385 t.sort
   have c5 : CT 145 [avt t.rest, .fn 146 [] [], .box [opC a b] 0, .box [vaC a b] 0] (avt (t.rest.map (chT a b false))) := cr
   rw [chT_eq]
   cases q with
   | true =>
     rw [show soC true a b = .fn 81 [] [.box [.s a] 0, .box [.s b] 0] from rfl] at *
     (repeat' (first | refine gT ?_ ?_ | refine gF ?_ ?_ | refine gC ?_ ?_ | ((first | (refine c_ctrE (c1) ?_ ?_; (focus (simp -implicitDefEqProofs (disch := omega) only [opC, vaC, ite_fz, ite_fz2, avs, avb, avi, avo, sigCells, opCells, pairCells, elT, avt, termCells_eq, go_sem, ↓reduceIte, reduceAdd, reduceSub, reduceMul, reduceLeDiff, reduceLT, reduceEqDiff, reduceNeg, Nat.reduceBEq]; done))) | (refine c_ctrE (c2) ?_ ?_; (focus (simp -implicitDefEqProofs (disch := omega) only [opC, vaC, ite_fz, ite_fz2, avs, avb, avi, avo, sigCells, opCells, pairCells, elT, avt, termCells_eq, go_sem, ↓reduceIte, reduceAdd, reduceSub, reduceMul, reduceLeDiff, reduceLT, reduceEqDiff, reduceNeg, Nat.reduceBEq]; done))) | (refine c_ctrE (c3) ?_ ?_; (focus (simp -implicitDefEqProofs (disch := omega) only [opC, vaC, ite_fz, ite_fz2, avs, avb, avi, avo, sigCells, opCells, pairCells, elT, avt, termCells_eq, go_sem, ↓reduceIte, reduceAdd, reduceSub, reduceMul, reduceLeDiff, reduceLT, reduceEqDiff, reduceNeg, Nat.reduceBEq]; done))) | (refine c_ctrE (ck) ?_ ?_; (focus (simp -implicitDefEqProofs (disch := omega) only [opC, vaC, ite_fz, ite_fz2, avs, avb, avi, avo, sigCells, opCells, pairCells, elT, avt, termCells_eq, go_sem, ↓reduceIte, reduceAdd, reduceSub, reduceMul, reduceLeDiff, reduceLT, reduceEqDiff, reduceNeg, Nat.reduceBEq]; done))) | (refine c_ctrE (c5) ?_ ?_; (focus (simp -implicitDefEqProofs (disch := omega) only [opC, vaC, ite_fz, ite_fz2, avs, avb, avi, avo, sigCells, opCells, pairCells, elT, avt, termCells_eq, go_sem, ↓reduceIte, reduceAdd, reduceSub, reduceMul, reduceLeDiff, reduceLT, reduceEqDiff, reduceNeg, Nat.reduceBEq]; done)))); simp -implicitDefEqProofs (disch := omega) only [opC, vaC, ite_fz, ite_fz2, go_sem, ↓reduceIte, reduceAdd, reduceSub, reduceMul, reduceLeDiff, reduceLT, reduceEqDiff, reduceNeg, Nat.reduceBEq]) | refine And.intro (by omega) ?_ | (intro hr; have hc := hr; (try simp only [zda, zdb, zdc, zdd] at hc); simp -implicitDefEqProofs (disch := omega) only [hr, opC, vaC, ite_fz, ite_fz2, go_sem, ↓reduceIte, reduceAdd, reduceSub, reduceMul, reduceLeDiff, reduceLT, reduceEqDiff, reduceNeg, Nat.reduceBEq]; (try clear hr))))
     all_goals clear c1 c2 c3 c4 c5 ck cr
     all_goals refine fin_eq ?_ (by simp only [pers, persL, persTs, Bool.and_self])
     all_goals simp [*]
   | false =>
     rw [show soC false a b = .fn 146 [] [] from rfl] at *
     (repeat' (first | refine gT ?_ ?_ | refine gF ?_ ?_ | refine gC ?_ ?_ | ((first | (refine c_ctrE (c1) ?_ ?_; (focus (simp -implicitDefEqProofs (disch := omega) only [opC, vaC, ite_fz, ite_fz2, avs, avb, avi, avo, sigCells, opCells, pairCells, elT, avt, termCells_eq, go_sem, ↓reduceIte, reduceAdd, reduceSub, reduceMul, reduceLeDiff, reduceLT, reduceEqDiff, reduceNeg, Nat.reduceBEq]; done))) | (refine c_ctrE (c2) ?_ ?_; (focus (simp -implicitDefEqProofs (disch := omega) only [opC, vaC, ite_fz, ite_fz2, avs, avb, avi, avo, sigCells, opCells, pairCells, elT, avt, termCells_eq, go_sem, ↓reduceIte, reduceAdd, reduceSub, reduceMul, reduceLeDiff, reduceLT, reduceEqDiff, reduceNeg, Nat.reduceBEq]; done))) | (refine c_ctrE (c4) ?_ ?_; (focus (simp -implicitDefEqProofs (disch := omega) only [opC, vaC, ite_fz, ite_fz2, avs, avb, avi, avo, sigCells, opCells, pairCells, elT, avt, termCells_eq, go_sem, ↓reduceIte, reduceAdd, reduceSub, reduceMul, reduceLeDiff, reduceLT, reduceEqDiff, reduceNeg, Nat.reduceBEq]; done))) | (refine c_ctrE (ck) ?_ ?_; (focus (simp -implicitDefEqProofs (disch := omega) only [opC, vaC, ite_fz, ite_fz2, avs, avb, avi, avo, sigCells, opCells, pairCells, elT, avt, termCells_eq, go_sem, ↓reduceIte, reduceAdd, reduceSub, reduceMul, reduceLeDiff, reduceLT, reduceEqDiff, reduceNeg, Nat.reduceBEq]; done))) | (refine c_ctrE (c5) ?_ ?_; (focus (simp -implicitDefEqProofs (disch := omega) only [opC, vaC, ite_fz, ite_fz2, avs, avb, avi, avo, sigCells, opCells, pairCells, elT, avt, termCells_eq, go_sem, ↓reduceIte, reduceAdd, reduceSub, reduceMul, reduceLeDiff, reduceLT, reduceEqDiff, reduceNeg, Nat.reduceBEq]; done)))); simp -implicitDefEqProofs (disch := omega) only [opC, vaC, ite_fz, ite_fz2, go_sem, ↓reduceIte, reduceAdd, reduceSub, reduceMul, reduceLeDiff, reduceLT, reduceEqDiff, reduceNeg, Nat.reduceBEq]) | refine And.intro (by omega) ?_ | (intro hr; have hc := hr; (try simp only [zda, zdb, zdc, zdd] at hc); simp -implicitDefEqProofs (disch := omega) only [hr, opC, vaC, ite_fz, ite_fz2, go_sem, ↓reduceIte, reduceAdd, reduceSub, reduceMul, reduceLeDiff, reduceLT, reduceEqDiff, reduceNeg, Nat.reduceBEq]; (try clear hr))))
     all_goals clear c1 c2 c3 c4 c5 ck cr
     all_goals refine fin_eq ?_ (by simp only [pers, persL, persTs, Bool.and_self])
     all_goals simp [*]
theorem chT_of {a b : Str} (ha : a.length ≤ 1000) (hb : b.length ≤ 1000) : ∀ (t : LTerm), OkT t → ∀ q, CT 83 [elT t, opC a b, soC q a b, vaC a b] (elT (chT a b q t)) :=
 term_ind fun t hk hr ht q => chg2 t q a b ht ha hb (chg1 t.kids q a b ht.kids fun x hx => hk x hx (ht.kid x hx) q) (chg1 t.rest false a b ht.rest fun x hx => hr x hx (ht.rst x hx) false)
theorem c_two {P : Program} {G : Glob} {d : Option Nat} {os : List AOper} {K : List AV → List AObj → Prop} {env : List AV} {F f g : FuncId} {T T' r : AV} {B0 B3 : AObj} {x y : List AV}
   (s : Ctr P G F [T, .fn f [] [.box x 0, .box y 0], .fn g [] [.box x 0, .box y 0], .fn g [] [.box x 0, .box y 0]] r) (hT : pers T = true) (hx : persL x = true) (hy : persL y = true) (hT' : T = T')
   (k : ∀ p q, awops P G none os K (aput env d (mat r [B0, .box p x, .box q y, B3]).1) (mat r [B0, .box p x, .box q y, B3]).2) :
   callF P G none F [T', .fn f [] [.ptr 1 0, .ptr 2 0], .fn g [] [.ptr 1 0, .ptr 2 0], .fn g [] [.ptr 1 0, .ptr 2 0]] d os K env [B0, .box false x, .box false y, B3] := by
 subst hT'
 have e0 : snap dep [B0, .box false x, .box false y, B3] T = T ∧ reach dep [B0, .box false x, .box false y, B3] T = [] := ⟨by rw [snap_dep, if_pos hT], by rw [reach_dep, if_pos hT]⟩
 have e1 := fn2 (H := [B0, .box false x, .box false y, B3]) (f := f) (j := 1) (k := 2) rfl rfl hx hy
 have e2 := fn2 (H := [B0, .box false x, .box false y, B3]) (f := g) (j := 1) (k := 2) rfl rfl hx hy
 have hA : ∃ p q, hAfter r [B0, .box false x, .box false y, B3] [T, .fn f [] [.ptr 1 0, .ptr 2 0], .fn g [] [.ptr 1 0, .ptr 2 0], .fn g [] [.ptr 1 0, .ptr 2 0]] = [B0, .box p x, .box q y, B3] := by
   unfold hAfter
   split
   · exact ⟨false, false, rfl⟩
   · refine ⟨true, true, ?_⟩
     simp only [List.flatMap_cons, List.flatMap_nil, e0.2, e1.2, e2.2]
     rfl
 obtain ⟨p, q, hA⟩ := hA
 refine c_ctrE s (by simp only [List.map_cons, List.map_nil, e0.1, e1.1, e2.1]) ?_
 rw [hA]
 exact k p q
def renameV (t : LTerm) (a b : Str) : Res := if validT nodeB t && isName a && isName b then (chT a b true t, 0) else (tZ, 2)
theorem ctr351 (t : LTerm) (a b : Str) (ht : OkT t) (ha : a.length ≤ 140737488355328) (hb : b.length ≤ 140737488355328): CT 43 [elT t, .s a, .s b] (resV (renameV t a b)) := by
 refine sem_introA mixed Tryz.func43 g0 ?_
 · generalize hR : ((resV (renameV t a b)) : AV) = R
   simp -implicitDefEqProofs (disch := omega) only [Tryz.f43, go_sem, List.replicate, ↓reduceIte, reduceAdd, reduceSub, reduceMul, reduceLeDiff, reduceLT, reduceEqDiff, reduceNeg, Nat.reduceBEq]
   have c := ctr242 t ht
   have c1 := ctr41 a ha
   have c2 := ctr41 b hb
   cases hv : validT nodeB t with
   | false =>
     rw [hv] at c
     (repeat' (first | refine gT ?_ ?_ | refine gF ?_ ?_ | refine gC ?_ ?_ | ((first | (refine c_ctrE (c) ?_ ?_; (focus (simp -implicitDefEqProofs (disch := omega) only [avs, avb, avi, avo, sigCells, opCells, pairCells, elT, avt, termCells_eq, go_sem, ↓reduceIte, reduceAdd, reduceSub, reduceMul, reduceLeDiff, reduceLT, reduceEqDiff, reduceNeg, Nat.reduceBEq]; done))) | (refine c_ctrE (c1) ?_ ?_; (focus (simp -implicitDefEqProofs (disch := omega) only [avs, avb, avi, avo, sigCells, opCells, pairCells, elT, avt, termCells_eq, go_sem, ↓reduceIte, reduceAdd, reduceSub, reduceMul, reduceLeDiff, reduceLT, reduceEqDiff, reduceNeg, Nat.reduceBEq]; done))) | (refine c_ctrE (c2) ?_ ?_; (focus (simp -implicitDefEqProofs (disch := omega) only [avs, avb, avi, avo, sigCells, opCells, pairCells, elT, avt, termCells_eq, go_sem, ↓reduceIte, reduceAdd, reduceSub, reduceMul, reduceLeDiff, reduceLT, reduceEqDiff, reduceNeg, Nat.reduceBEq]; done)))); simp -implicitDefEqProofs (disch := omega) only [go_sem, ↓reduceIte, reduceAdd, reduceSub, reduceMul, reduceLeDiff, reduceLT, reduceEqDiff, reduceNeg, Nat.reduceBEq]) | refine And.intro (by omega) ?_ | (intro hr; have hc := hr; (try simp only [zda, zdb, zdc, zdd] at hc); simp -implicitDefEqProofs (disch := omega) only [hr, go_sem, ↓reduceIte, reduceAdd, reduceSub, reduceMul, reduceLeDiff, reduceLT, reduceEqDiff, reduceNeg, Nat.reduceBEq]; (try clear hr))))
     all_goals (subst hR; exact fin_res (by rw [renameV, hv]; rfl) rd6_e0 rd6_e0)
   | true =>
     rw [hv] at c
     cases h1 : isName a with
     | false =>
       rw [h1] at c1
       (repeat' (first | refine gT ?_ ?_ | refine gF ?_ ?_ | refine gC ?_ ?_ | ((first | (refine c_ctrE (c) ?_ ?_; (focus (simp -implicitDefEqProofs (disch := omega) only [avs, avb, avi, avo, sigCells, opCells, pairCells, elT, avt, termCells_eq, go_sem, ↓reduceIte, reduceAdd, reduceSub, reduceMul, reduceLeDiff, reduceLT, reduceEqDiff, reduceNeg, Nat.reduceBEq]; done))) | (refine c_ctrE (c1) ?_ ?_; (focus (simp -implicitDefEqProofs (disch := omega) only [avs, avb, avi, avo, sigCells, opCells, pairCells, elT, avt, termCells_eq, go_sem, ↓reduceIte, reduceAdd, reduceSub, reduceMul, reduceLeDiff, reduceLT, reduceEqDiff, reduceNeg, Nat.reduceBEq]; done))) | (refine c_ctrE (c2) ?_ ?_; (focus (simp -implicitDefEqProofs (disch := omega) only [avs, avb, avi, avo, sigCells, opCells, pairCells, elT, avt, termCells_eq, go_sem, ↓reduceIte, reduceAdd, reduceSub, reduceMul, reduceLeDiff, reduceLT, reduceEqDiff, reduceNeg, Nat.reduceBEq]; done)))); simp -implicitDefEqProofs (disch := omega) only [go_sem, ↓reduceIte, reduceAdd, reduceSub, reduceMul, reduceLeDiff, reduceLT, reduceEqDiff, reduceNeg, Nat.reduceBEq]) | refine And.intro (by omega) ?_ | (intro hr; have hc := hr; (try simp only [zda, zdb, zdc, zdd] at hc); simp -implicitDefEqProofs (disch := omega) only [hr, go_sem, ↓reduceIte, reduceAdd, reduceSub, reduceMul, reduceLeDiff, reduceLT, reduceEqDiff, reduceNeg, Nat.reduceBEq]; (try clear hr))))
       all_goals (subst hR; exact fin_res (by rw [renameV, hv, h1]; rfl) rd6_e0 rd6_e0)
     | true =>
       rw [h1] at c1
       cases h2 : isName b with
       | false =>
         rw [h2] at c2
         (repeat' (first | refine gT ?_ ?_ | refine gF ?_ ?_ | refine gC ?_ ?_ | ((first | (refine c_ctrE (c) ?_ ?_; (focus (simp -implicitDefEqProofs (disch := omega) only [avs, avb, avi, avo, sigCells, opCells, pairCells, elT, avt, termCells_eq, go_sem, ↓reduceIte, reduceAdd, reduceSub, reduceMul, reduceLeDiff, reduceLT, reduceEqDiff, reduceNeg, Nat.reduceBEq]; done))) | (refine c_ctrE (c1) ?_ ?_; (focus (simp -implicitDefEqProofs (disch := omega) only [avs, avb, avi, avo, sigCells, opCells, pairCells, elT, avt, termCells_eq, go_sem, ↓reduceIte, reduceAdd, reduceSub, reduceMul, reduceLeDiff, reduceLT, reduceEqDiff, reduceNeg, Nat.reduceBEq]; done))) | (refine c_ctrE (c2) ?_ ?_; (focus (simp -implicitDefEqProofs (disch := omega) only [avs, avb, avi, avo, sigCells, opCells, pairCells, elT, avt, termCells_eq, go_sem, ↓reduceIte, reduceAdd, reduceSub, reduceMul, reduceLeDiff, reduceLT, reduceEqDiff, reduceNeg, Nat.reduceBEq]; done)))); simp -implicitDefEqProofs (disch := omega) only [go_sem, ↓reduceIte, reduceAdd, reduceSub, reduceMul, reduceLeDiff, reduceLT, reduceEqDiff, reduceNeg, Nat.reduceBEq]) | refine And.intro (by omega) ?_ | (intro hr; have hc := hr; (try simp only [zda, zdb, zdc, zdd] at hc); simp -implicitDefEqProofs (disch := omega) only [hr, go_sem, ↓reduceIte, reduceAdd, reduceSub, reduceMul, reduceLeDiff, reduceLT, reduceEqDiff, reduceNeg, Nat.reduceBEq]; (try clear hr))))
         all_goals (subst hR; exact fin_res (by rw [renameV, hv, h1, h2]; rfl) rd6_e0 rd6_e0)
       | true =>
         rw [h2] at c2
         have l1 := nameW_len h1
         have l2 := nameW_len h2
         have c3 := chT_of (a := a) (b := b) (by omega) (by omega) t ht true
         have he : renameV t a b = (chT a b true t, 0) := by rw [renameV, hv, h1, h2]; rfl
         rw [show soC true a b = vaC a b from rfl] at c3
         (repeat' (first | refine gT ?_ ?_ | refine gF ?_ ?_ | refine gC ?_ ?_ | ((first | (refine c_ctrE (c) ?_ ?_; (focus (simp -implicitDefEqProofs (disch := omega) only [opC, vaC, avs, avb, avi, avo, sigCells, opCells, pairCells, elT, avt, termCells_eq, go_sem, ↓reduceIte, reduceAdd, reduceSub, reduceMul, reduceLeDiff, reduceLT, reduceEqDiff, reduceNeg, Nat.reduceBEq]; done))) | (refine c_ctrE (c1) ?_ ?_; (focus (simp -implicitDefEqProofs (disch := omega) only [opC, vaC, avs, avb, avi, avo, sigCells, opCells, pairCells, elT, avt, termCells_eq, go_sem, ↓reduceIte, reduceAdd, reduceSub, reduceMul, reduceLeDiff, reduceLT, reduceEqDiff, reduceNeg, Nat.reduceBEq]; done))) | (refine c_ctrE (c2) ?_ ?_; (focus (simp -implicitDefEqProofs (disch := omega) only [opC, vaC, avs, avb, avi, avo, sigCells, opCells, pairCells, elT, avt, termCells_eq, go_sem, ↓reduceIte, reduceAdd, reduceSub, reduceMul, reduceLeDiff, reduceLT, reduceEqDiff, reduceNeg, Nat.reduceBEq]; done)))); simp -implicitDefEqProofs (disch := omega) only [opC, vaC, go_sem, ↓reduceIte, reduceAdd, reduceSub, reduceMul, reduceLeDiff, reduceLT, reduceEqDiff, reduceNeg, Nat.reduceBEq]) | refine And.intro (by omega) ?_ | (intro hr; have hc := hr; (try simp only [zda, zdb, zdc, zdd] at hc); simp -implicitDefEqProofs (disch := omega) only [hr, opC, vaC, go_sem, ↓reduceIte, reduceAdd, reduceSub, reduceMul, reduceLeDiff, reduceLT, reduceEqDiff, reduceNeg, Nat.reduceBEq]; (try clear hr))))
         rw [opC, vaC] at c3
         refine c_two (T := elT t) c3 (show persL (termCells t) = true from persT t) rfl rfl (by rw [elT, termCells_eq]; rfl) fun p q => ?_
         simp -implicitDefEqProofs (disch := omega) only [elT, termCells_eq, avt, go_sem, ↓reduceIte, reduceAdd, reduceSub, reduceMul, reduceLeDiff, reduceLT, reduceEqDiff, reduceNeg, Nat.reduceBEq]
         subst hR
         exact fin_resP he

def tokc (c : UInt8) : Bool := !([32, 34, 40, 41, 44, 58, 91, 93, 123, 124, 125] : List UInt8).contains c
def Ends (u : Str) : Prop := ∀ c v, u = c :: v → tokc c = false
def Sep (u : Str) : Prop := ∀ c v, u = c :: v → c = 32 ∨ c = 41 ∨ c = 44 ∨ c = 93 ∨ c = 125
theorem Sep.ends {u : Str} (h : Sep u) : Ends u := fun c v e => by
 rcases h c v e with rfl | rfl | rfl | rfl | rfl <;> decide
theorem name_first {s : Str} (h : isName s = true) : ∃ c v, s = c :: v ∧ letter c.toNat = true := by
 simp only [isName, Bool.and_eq_true] at h
 cases s with
 | nil => simp at h
 | cons c v => exact ⟨c, v, rfl, by simpa [at_] using h.1.2⟩
def word (s : Str) : Str := s.takeWhile tokc
def after (s : Str) : Str := s.dropWhile tokc
theorem letter_ne {c : UInt8} (h : letter c.toNat = true) : c ≠ 39 ∧ c ≠ 95 ∧ c ≠ 36 := by
 refine ⟨?_, ?_, ?_⟩ <;> rintro rfl <;> revert h <;> decide

structure OneR (r : LTerm) (so : Str) : Prop where
 k : r.kind = 6
 n : r.n = 0
 name : isName r.text = true
 sort : r.sort = so
 kids : r.kids = []
 rest : r.rest = []
theorem rest_one {t : LTerm} {so : Str} (h : restB t so = true) : t.rest = [] ∨ ∃ r, t.rest = [r] ∧ OneR r so := by
 simp only [restB, zeroB, Bool.or_eq_true, Bool.and_eq_true, decide_eq_true_eq, Bool.false_eq_true, false_or, true_or, and_true, true_and] at h
 rcases h with h | h
 · exact .inl (List.length_eq_zero_iff.1 h)
 · obtain ⟨⟨⟨⟨ha, hb⟩, hc⟩, hd⟩, ⟨he, hf⟩, hg⟩ := h
   obtain ⟨u, hu⟩ := List.length_eq_one_iff.1 ha
   rw [hu] at hb hc hd he hf hg
   exact .inr ⟨u, hu, hb, he, hc, hd, hf, hg⟩
theorem OneR.eq {r q : LTerm} {so : Str} (a : OneR r so) (b : OneR q so) (h : r.text = q.text) : r = q := by
 rw [LTerm.ext_iff]
 exact ⟨by rw [a.k, b.k], by rw [a.n, b.n], h, by rw [a.sort, b.sort], by rw [a.kids, b.kids], by rw [a.rest, b.rest]⟩

theorem ch_parts {a b : Str} {q : Bool} {t : LTerm} : (chT a b q t).kids = t.kids.map (chT a b q) ∧ (chT a b q t).rest = t.rest.map (chT a b false) ∧ (chT a b q t).kind = t.kind ∧ (chT a b q t).n = t.n := by
 rw [chT_eq]; exact ⟨rfl, rfl, rfl, rfl⟩
theorem name_closed {s : Str} (h : isName s = true) : openS s = false := by
 obtain ⟨c, v, e, hc⟩ := name_first h
 have := letter_ne hc
 rw [e]
 simp only [openS, Bool.or_eq_false_iff, decide_eq_false_iff_not, List.cons.injEq, not_and]
 exact ⟨fun h => absurd h this.2.1, fun h => absurd h this.2.2⟩
theorem closed_ne {s : Str} (h : openS s = false) : ¬ s = [95] ∧ ¬ s = [36] := by simpa only [openS, Bool.or_eq_false_iff, decide_eq_false_iff_not] using h
theorem mkText {k n : Int} {x y : Str} {l r : List LTerm} : (LTerm.mk k n x y l r).text = x := rfl
theorem mkSort {k n : Int} {x y : Str} {l r : List LTerm} : (LTerm.mk k n x y l r).sort = y := rfl
theorem ch_var {a b : Str} {q : Bool} {t : LTerm} (h : t.kind = 6) (ho : openS t.text = false) : (chT a b q t).text = swap t.text a b ∧ (chT a b q t).sort = if q = true then swap t.sort a b else t.sort := by
 obtain ⟨h1, h2⟩ := closed_ne ho
 have n5 : ¬ t.kind = 5 := by omega
 rw [chT_eq, mkText, mkSort]
 rw [if_neg n5, if_pos h, if_neg h1, if_neg h2, if_neg n5, if_pos h, if_neg h1, if_neg h2]
 exact ⟨rfl, rfl⟩
theorem nodeB_6 {t : LTerm} (h : t.kind = 6) : nodeB t = (if openS t.text = true then decide (t.sort = anyN) && zeroB t false true true false false else isName t.text && isName t.sort && zeroB t false true true false false) := by simp only [nodeB, h, Int.reduceEq, if_false, if_true]
theorem ch_ok {a b : Str} (ha : a.length ≤ 1000) (hb : b.length ≤ 1000) : ∀ (t : LTerm), OkT t → ∀ q, OkT (chT a b q t) :=
 term_ind fun t hk hr ht q => by
   obtain ⟨p1, p2, p3, p4⟩ := ch_parts (a := a) (b := b) (q := q) (t := t)
   have hx := ht.text
   have hs := ht.sort
   have l1 : (swap t.text a b).length ≤ 140737488355328 := swap_len hx (by omega) (by omega)
   have l2 : (swap t.sort a b).length ≤ 140737488355328 := swap_len hs (by omega) (by omega)
   have l3 := swapOp_len' hx ha hb
   refine .mk ?_ ?_ (by rw [p4]; exact ht.nlo) (by rw [p4]; exact ht.nhi) (by rw [p1, List.length_map]; exact ht.kids) (by rw [p2, List.length_map]; exact ht.rest) ?_ ?_
   · rw [chT_eq, mkText]; repeat' split
     all_goals assumption
   · rw [chT_eq, mkSort]; repeat' split
     all_goals assumption
   · intro k hm
     rw [p1, List.mem_map] at hm
     obtain ⟨x, hx, rfl⟩ := hm
     exact hk x hx (ht.kid x hx) q
   · intro k hm
     rw [p2, List.mem_map] at hm
     obtain ⟨x, hx, rfl⟩ := hm
     exact hr x hx (ht.rst x hx) false

def withT : LTerm → List Int → LTerm → LTerm
 | _, [], u => u
 | t, i :: p, u => .mk t.kind t.n t.text t.sort (t.kids.set i.toNat (withT (kidAt t i) p u)) t.rest
theorem ctr383 (l : List LTerm) (h0 : l.length ≠ 0) (hl : l.length ≤ 1466015503701): CT 142 [avt l] (.own 6 (l.flatMap termCells) l.length) := by
 refine sem_introA mixed Tryz.func142 g0 ?_
 · simp -implicitDefEqProofs (disch := omega) only [Tryz.f142, go_sem, List.replicate, ↓reduceIte, reduceAdd, reduceSub, reduceMul, reduceLeDiff, reduceLT, reduceEqDiff, reduceNeg, Nat.reduceBEq, avt]
   (repeat' (first | refine gT ?_ ?_ | refine gF ?_ ?_ | refine gC ?_ ?_ | refine And.intro (by omega) ?_ | (intro hr; have hc := hr; (try simp only [zda, zdb, zdc, zdd] at hc); simp -implicitDefEqProofs (disch := omega) only [hr, go_sem, ↓reduceIte, reduceAdd, reduceSub, reduceMul, reduceLeDiff, reduceLT, reduceEqDiff, reduceNeg, Nat.reduceBEq]; (try clear hr))))
   · cases hc
   · exact fin_out (pre := []) (g := [.arr false 6 (l.flatMap termCells)]) (.inr ⟨0, rfl, rfl, by rw [term_flat_len]⟩) persTs
theorem set_cells {l : List LTerm} {i : Nat} {x : LTerm} (h : i < l.length) : (l.set i x).flatMap termCells = (l.take i).flatMap termCells ++ (termCells x ++ (l.flatMap termCells).drop (i * 6 + 6)) := by
 rw [List.set_eq_take_append_cons_drop, if_pos h, List.flatMap_append, List.flatMap_cons, show i * 6 + 6 = (i + 1) * 6 by omega, term_drop]
theorem rd_set {H : List AObj} {b i : Nat} {l : List LTerm} {x : LTerm} (h : i < l.length) (hH : H[b]? = some (.arr false 6 ((l.take i).flatMap termCells ++ (termCells x ++ (l.flatMap termCells).drop (i * 6 + 6))))) : Rd6 H (.hs b 0 l.length false) (l.set i x) := by
 rw [← set_cells h] at hH
 refine .inr (.inr ⟨b, 0, false, false, _, by rw [List.length_set], hH, ?_, ?_⟩)
 · rw [term_flat_len]; omega
 · rw [List.drop_zero, List.take_of_length_le (by rw [term_flat_len]; exact Nat.le_refl _)]
theorem ctr369_0 (t u : LTerm): CT 78 [elT t, avi [], elT u] (elT u) := by
 refine sem_introA mixed Tryz.func78 g0 ?_
 · simp -implicitDefEqProofs (disch := omega) only [Tryz.f78, go_sem, List.replicate, ↓reduceIte, reduceAdd, reduceSub, reduceMul, reduceLeDiff, reduceLT, reduceEqDiff, reduceNeg, Nat.reduceBEq, avi, List.map_nil, List.length_nil]
   (repeat' (first | refine gT ?_ ?_ | refine gF ?_ ?_ | refine gC ?_ ?_ | refine And.intro (by omega) ?_ | (intro hr; have hc := hr; (try simp only [zda, zdb, zdc, zdd] at hc); simp -implicitDefEqProofs (disch := omega) only [hr, go_sem, ↓reduceIte, reduceAdd, reduceSub, reduceMul, reduceLeDiff, reduceLT, reduceEqDiff, reduceNeg, Nat.reduceBEq]; (try clear hr))))
   exact fin_eq rfl (by simp only [pers, persL, persTs, Bool.and_self])
theorem ctr369_1 (t u : LTerm) (i : Int) (p : List Int) (ht : OkT t) (hu : OkT u) (hp : PathOk (i :: p)) (hi : stepOk t i = true) (ih : CT 78 [elT (kidAt t i), avi p, elT u] (elT (withT (kidAt t i) p u))): CT 78 [elT t, avi (i :: p), elT u] (elT (withT t (i :: p) u)) := by
 refine sem_introA mixed Tryz.func78 g0 ?_
 · generalize hR : ((elT (withT t (i :: p) u)) : AV) = R
   simp -implicitDefEqProofs (disch := omega) only [Tryz.f78, go_sem, List.replicate, ↓reduceIte, reduceAdd, reduceSub, reduceMul, reduceLeDiff, reduceLT, reduceEqDiff, reduceNeg, Nat.reduceBEq, avi, List.map_cons, List.length_cons]
   have hq := hp.1
   have hb := hp.2 i (by simp)
   have hl := ht.kids
   have hs := hi
   simp only [stepOk, Bool.and_eq_true, decide_eq_true_eq] at hs
   rw [List.length_cons] at hq
   (repeat' (first | refine gT ?_ ?_ | refine gF ?_ ?_ | refine gC ?_ ?_ | ((first | (refine c_ctrE ((ctr383 t.kids (by omega) ht.kids)) ?_ ?_; (focus (simp -implicitDefEqProofs (disch := omega) only [Nat.add_sub_cancel, kidAt, avs, avb, avi, avo, sigCells, opCells, pairCells, elT, avt, termCells_eq, go_sem, ↓reduceIte, reduceAdd, reduceSub, reduceMul, reduceLeDiff, reduceLT, reduceEqDiff, reduceNeg, Nat.reduceBEq]; done))) | (refine c_ctrE (ih) ?_ ?_; (focus (simp -implicitDefEqProofs (disch := omega) only [Nat.add_sub_cancel, kidAt, avs, avb, avi, avo, sigCells, opCells, pairCells, elT, avt, termCells_eq, go_sem, ↓reduceIte, reduceAdd, reduceSub, reduceMul, reduceLeDiff, reduceLT, reduceEqDiff, reduceNeg, Nat.reduceBEq]; done)))); simp -implicitDefEqProofs (disch := omega) only [Nat.add_sub_cancel, kidAt, go_sem, ↓reduceIte, reduceAdd, reduceSub, reduceMul, reduceLeDiff, reduceLT, reduceEqDiff, reduceNeg, Nat.reduceBEq]) | refine And.intro (by omega) ?_ | (intro hr; have hc := hr; (try simp only [zda, zdb, zdc, zdd] at hc); simp -implicitDefEqProofs (disch := omega) only [hr, Nat.add_sub_cancel, kidAt, go_sem, ↓reduceIte, reduceAdd, reduceSub, reduceMul, reduceLeDiff, reduceLT, reduceEqDiff, reduceNeg, Nat.reduceBEq]; (try clear hr))))
   · exfalso; omega
   · subst hR
     rw [withT]
     refine fin_t (t := .mk t.kind t.n t.text t.sort (t.kids.set i.toNat (withT (kidAt t i) p u)) t.rest) (rd_set (by omega) (b := 3) ?_) rd6_sl
     rw [termCells_eq]
     rfl
theorem ctr369 : ∀ (p : List Int) (t u : LTerm), OkT t → OkT u → PathOk p → atOk t p = true → CT 78 [elT t, avi p, elT u] (elT (withT t p u))
 | [], t, u, ht, hu, hp, h => ctr369_0 t u
 | i :: p, t, u, ht, hu, hp, h => by
   rw [atOk, Bool.and_eq_true] at h
   exact ctr369_1 t u i p ht hu hp h.1 (ctr369 p _ u (ht.kidAt h.1) hu ⟨by have := hp.1; rw [List.length_cons] at this; omega, fun j hj => hp.2 j (by simp [hj])⟩ h.2)
theorem ctr370_0 (t u : LTerm): CT 79 [elT t, avi [], elT u] (elT u) := by
 refine sem_introA mixed Tryz.func79 g0 ?_
 · simp -implicitDefEqProofs (disch := omega) only [Tryz.f79, go_sem, List.replicate, ↓reduceIte, reduceAdd, reduceSub, reduceMul, reduceLeDiff, reduceLT, reduceEqDiff, reduceNeg, Nat.reduceBEq, avi, List.map_nil, List.length_nil]
   (repeat' (first | refine gT ?_ ?_ | refine gF ?_ ?_ | refine gC ?_ ?_ | refine And.intro (by omega) ?_ | (intro hr; have hc := hr; (try simp only [zda, zdb, zdc, zdd] at hc); simp -implicitDefEqProofs (disch := omega) only [hr, go_sem, ↓reduceIte, reduceAdd, reduceSub, reduceMul, reduceLeDiff, reduceLT, reduceEqDiff, reduceNeg, Nat.reduceBEq]; (try clear hr))))
   exact fin_eq rfl (by simp only [pers, persL, persTs, Bool.and_self])
theorem ctr370_1 (t u : LTerm) (i : Int) (p : List Int) (ht : OkT t) (hu : OkT u) (hp : PathOk (i :: p)) (hi : stepOk t i = true) (ih : CT 79 [elT (kidAt t i), avi p, elT u] (elT (withT (kidAt t i) p u))): CT 79 [elT t, avi (i :: p), elT u] (elT (withT t (i :: p) u)) := by
 refine sem_introA mixed Tryz.func79 g0 ?_
 · generalize hR : ((elT (withT t (i :: p) u)) : AV) = R
   simp -implicitDefEqProofs (disch := omega) only [Tryz.f79, go_sem, List.replicate, ↓reduceIte, reduceAdd, reduceSub, reduceMul, reduceLeDiff, reduceLT, reduceEqDiff, reduceNeg, Nat.reduceBEq, avi, List.map_cons, List.length_cons]
   have hq := hp.1
   have hb := hp.2 i (by simp)
   have hl := ht.kids
   have hs := hi
   simp only [stepOk, Bool.and_eq_true, decide_eq_true_eq] at hs
   rw [List.length_cons] at hq
   (repeat' (first | refine gT ?_ ?_ | refine gF ?_ ?_ | refine gC ?_ ?_ | ((refine c_ctrE (ih) ?_ ?_; (focus (simp -implicitDefEqProofs (disch := omega) only [Nat.add_sub_cancel, kidAt, avs, avb, avi, avo, sigCells, opCells, pairCells, elT, avt, termCells_eq, go_sem, ↓reduceIte, reduceAdd, reduceSub, reduceMul, reduceLeDiff, reduceLT, reduceEqDiff, reduceNeg, Nat.reduceBEq]; done))); simp -implicitDefEqProofs (disch := omega) only [Nat.add_sub_cancel, kidAt, go_sem, ↓reduceIte, reduceAdd, reduceSub, reduceMul, reduceLeDiff, reduceLT, reduceEqDiff, reduceNeg, Nat.reduceBEq]) | refine And.intro (by omega) ?_ | (intro hr; have hc := hr; (try simp only [zda, zdb, zdc, zdd] at hc); simp -implicitDefEqProofs (disch := omega) only [hr, Nat.add_sub_cancel, kidAt, go_sem, ↓reduceIte, reduceAdd, reduceSub, reduceMul, reduceLeDiff, reduceLT, reduceEqDiff, reduceNeg, Nat.reduceBEq]; (try clear hr))))
   · exfalso; omega
   · subst hR
     rw [withT]
     refine fin_t (t := .mk t.kind t.n t.text t.sort (t.kids.set i.toNat (withT (kidAt t i) p u)) t.rest) (rd_set (by omega) (b := 3) ?_) rd6_sl
     rw [termCells_eq]
     rfl
theorem ctr370 : ∀ (p : List Int) (t u : LTerm), OkT t → OkT u → PathOk p → atOk t p = true → CT 79 [elT t, avi p, elT u] (elT (withT t p u))
 | [], t, u, ht, hu, hp, h => ctr370_0 t u
 | i :: p, t, u, ht, hu, hp, h => by
   rw [atOk, Bool.and_eq_true] at h
   exact ctr370_1 t u i p ht hu hp h.1 (ctr370 p _ u (ht.kidAt h.1) hu ⟨by have := hp.1; rw [List.length_cons] at this; omega, fun j hj => hp.2 j (by simp [hj])⟩ h.2)

theorem mem_set {α : Type} {l : List α} {i : Nat} {x y : α} (h : y ∈ l.set i x) : y = x ∨ y ∈ l := by
 rcases List.mem_or_eq_of_mem_set h with h | h
 · exact .inr h
 · exact .inl h
theorem with_ok : ∀ {p : List Int} {t u : LTerm}, OkT t → OkT u → atOk t p = true → OkT (withT t p u)
 | [], t, u, ht, hu, h => hu
 | i :: p, t, u, ht, hu, h => by
   rw [atOk, Bool.and_eq_true] at h
   have hw := with_ok (p := p) (ht.kidAt h.1) hu h.2
   rw [withT]
   refine .mk ht.text ht.sort ht.nlo ht.nhi ?_ ht.rest ?_ ht.rst
   · simp only [LTerm.kids, List.length_set]; exact ht.kids
   · intro k hk
     rcases mem_set hk with rfl | hk
     · exact hw
     · exact ht.kid k hk
def withV (t : LTerm) (p : List Int) (u : LTerm) : Res :=
 if validT nodeB t && validT nodeB u then (if atOk t p then (if validT nodeB (withT t p u) then (withT t p u, 0) else (tZ, 3)) else (tZ, 4)) else (tZ, 2)
theorem ctr349 (t u : LTerm) (p : List Int) (ht : OkT t) (hu : OkT u) (hp : PathOk p): CT 41 [elT t, avi p, elT u] (resV (withV t p u)) := by
 refine sem_introA mixed Tryz.func41 g0 ?_
 · generalize hR : ((resV (withV t p u)) : AV) = R
   simp -implicitDefEqProofs (disch := omega) only [Tryz.f41, go_sem, List.replicate, ↓reduceIte, reduceAdd, reduceSub, reduceMul, reduceLeDiff, reduceLT, reduceEqDiff, reduceNeg, Nat.reduceBEq, avi]
   have c := ctr242 t ht
   have d := ctr242 u hu
   have c1 := ctr367 t p ht hp
   cases hv : validT nodeB t with
   | false =>
     rw [hv] at c
     (repeat' (first | refine gT ?_ ?_ | refine gF ?_ ?_ | refine gC ?_ ?_ | ((refine c_ctrE (c) ?_ ?_; (focus (simp -implicitDefEqProofs (disch := omega) only [avs, avb, avi, avo, sigCells, opCells, pairCells, elT, avt, termCells_eq, go_sem, ↓reduceIte, reduceAdd, reduceSub, reduceMul, reduceLeDiff, reduceLT, reduceEqDiff, reduceNeg, Nat.reduceBEq]; done))); simp -implicitDefEqProofs (disch := omega) only [go_sem, ↓reduceIte, reduceAdd, reduceSub, reduceMul, reduceLeDiff, reduceLT, reduceEqDiff, reduceNeg, Nat.reduceBEq]) | refine And.intro (by omega) ?_ | (intro hr; have hc := hr; (try simp only [zda, zdb, zdc, zdd] at hc); simp -implicitDefEqProofs (disch := omega) only [hr, go_sem, ↓reduceIte, reduceAdd, reduceSub, reduceMul, reduceLeDiff, reduceLT, reduceEqDiff, reduceNeg, Nat.reduceBEq]; (try clear hr))))
     subst hR
     exact fin_res (by rw [withV, hv]; rfl) rd6_e0 rd6_e0
   | true =>
     rw [hv] at c
     cases hv2 : validT nodeB u with
     | false =>
       rw [hv2] at d
       (repeat' (first | refine gT ?_ ?_ | refine gF ?_ ?_ | refine gC ?_ ?_ | ((first | (refine c_ctrE (c) ?_ ?_; (focus (simp -implicitDefEqProofs (disch := omega) only [avs, avb, avi, avo, sigCells, opCells, pairCells, elT, avt, termCells_eq, go_sem, ↓reduceIte, reduceAdd, reduceSub, reduceMul, reduceLeDiff, reduceLT, reduceEqDiff, reduceNeg, Nat.reduceBEq]; done))) | (refine c_ctrE (d) ?_ ?_; (focus (simp -implicitDefEqProofs (disch := omega) only [avs, avb, avi, avo, sigCells, opCells, pairCells, elT, avt, termCells_eq, go_sem, ↓reduceIte, reduceAdd, reduceSub, reduceMul, reduceLeDiff, reduceLT, reduceEqDiff, reduceNeg, Nat.reduceBEq]; done)))); simp -implicitDefEqProofs (disch := omega) only [go_sem, ↓reduceIte, reduceAdd, reduceSub, reduceMul, reduceLeDiff, reduceLT, reduceEqDiff, reduceNeg, Nat.reduceBEq]) | refine And.intro (by omega) ?_ | (intro hr; have hc := hr; (try simp only [zda, zdb, zdc, zdd] at hc); simp -implicitDefEqProofs (disch := omega) only [hr, go_sem, ↓reduceIte, reduceAdd, reduceSub, reduceMul, reduceLeDiff, reduceLT, reduceEqDiff, reduceNeg, Nat.reduceBEq]; (try clear hr))))
       subst hR
       exact fin_res (by rw [withV, hv, hv2]; rfl) rd6_e0 rd6_e0
     | true =>
       rw [hv2] at d
       cases ha : atOk t p with
       | false =>
         rw [ha] at c1
         skip
         (repeat' (first | refine gT ?_ ?_ | refine gF ?_ ?_ | refine gC ?_ ?_ | ((first | (refine c_ctrE (c) ?_ ?_; (focus (simp -implicitDefEqProofs (disch := omega) only [resB, avs, avb, avi, avo, sigCells, opCells, pairCells, elT, avt, termCells_eq, go_sem, ↓reduceIte, reduceAdd, reduceSub, reduceMul, reduceLeDiff, reduceLT, reduceEqDiff, reduceNeg, Nat.reduceBEq]; done))) | (refine c_ctrE (d) ?_ ?_; (focus (simp -implicitDefEqProofs (disch := omega) only [resB, avs, avb, avi, avo, sigCells, opCells, pairCells, elT, avt, termCells_eq, go_sem, ↓reduceIte, reduceAdd, reduceSub, reduceMul, reduceLeDiff, reduceLT, reduceEqDiff, reduceNeg, Nat.reduceBEq]; done))) | (refine c_ctrE (c1) ?_ ?_; (focus (simp -implicitDefEqProofs (disch := omega) only [resB, avs, avb, avi, avo, sigCells, opCells, pairCells, elT, avt, termCells_eq, go_sem, ↓reduceIte, reduceAdd, reduceSub, reduceMul, reduceLeDiff, reduceLT, reduceEqDiff, reduceNeg, Nat.reduceBEq]; done)))); simp -implicitDefEqProofs (disch := omega) only [resB, go_sem, ↓reduceIte, reduceAdd, reduceSub, reduceMul, reduceLeDiff, reduceLT, reduceEqDiff, reduceNeg, Nat.reduceBEq]) | refine And.intro (by omega) ?_ | (intro hr; have hc := hr; (try simp only [zda, zdb, zdc, zdd] at hc); simp -implicitDefEqProofs (disch := omega) only [hr, resB, go_sem, ↓reduceIte, reduceAdd, reduceSub, reduceMul, reduceLeDiff, reduceLT, reduceEqDiff, reduceNeg, Nat.reduceBEq]; (try clear hr))))
         subst hR
         exact fin_res (by rw [withV, hv, hv2, ha]; rfl) rd6_e0 rd6_e0
       | true =>
         rw [ha] at c1
         skip
         have ow := with_ok ht hu ha
         have c2 := ctr369 p t u ht hu hp ha
         have c3 := ctr233 _ ow
         have c4 := ctr242 _ ow
         cases hv3 : validT nodeB (withT t p u) with
         | false =>
           have he : withV t p u = (tZ, 3) := by rw [withV, hv, hv2, ha, hv3]; rfl
           rw [hv3] at c4
           generalize withT t p u = w at *
           (repeat' (first | refine gT ?_ ?_ | refine gF ?_ ?_ | refine gC ?_ ?_ | ((first | (refine c_ctrE (c) ?_ ?_; (focus (simp -implicitDefEqProofs (disch := omega) only [resB, avs, avb, avi, avo, sigCells, opCells, pairCells, elT, avt, termCells_eq, go_sem, ↓reduceIte, reduceAdd, reduceSub, reduceMul, reduceLeDiff, reduceLT, reduceEqDiff, reduceNeg, Nat.reduceBEq]; done))) | (refine c_ctrE (d) ?_ ?_; (focus (simp -implicitDefEqProofs (disch := omega) only [resB, avs, avb, avi, avo, sigCells, opCells, pairCells, elT, avt, termCells_eq, go_sem, ↓reduceIte, reduceAdd, reduceSub, reduceMul, reduceLeDiff, reduceLT, reduceEqDiff, reduceNeg, Nat.reduceBEq]; done))) | (refine c_ctrE (c1) ?_ ?_; (focus (simp -implicitDefEqProofs (disch := omega) only [resB, avs, avb, avi, avo, sigCells, opCells, pairCells, elT, avt, termCells_eq, go_sem, ↓reduceIte, reduceAdd, reduceSub, reduceMul, reduceLeDiff, reduceLT, reduceEqDiff, reduceNeg, Nat.reduceBEq]; done))) | (refine c_ctrE (c2) ?_ ?_; (focus (simp -implicitDefEqProofs (disch := omega) only [resB, avs, avb, avi, avo, sigCells, opCells, pairCells, elT, avt, termCells_eq, go_sem, ↓reduceIte, reduceAdd, reduceSub, reduceMul, reduceLeDiff, reduceLT, reduceEqDiff, reduceNeg, Nat.reduceBEq]; done))) | (refine c_ctrE (c3) ?_ ?_; (focus (simp -implicitDefEqProofs (disch := omega) only [resB, avs, avb, avi, avo, sigCells, opCells, pairCells, elT, avt, termCells_eq, go_sem, ↓reduceIte, reduceAdd, reduceSub, reduceMul, reduceLeDiff, reduceLT, reduceEqDiff, reduceNeg, Nat.reduceBEq]; done))) | (refine c_ctrE (c4) ?_ ?_; (focus (simp -implicitDefEqProofs (disch := omega) only [resB, avs, avb, avi, avo, sigCells, opCells, pairCells, elT, avt, termCells_eq, go_sem, ↓reduceIte, reduceAdd, reduceSub, reduceMul, reduceLeDiff, reduceLT, reduceEqDiff, reduceNeg, Nat.reduceBEq]; done)))); simp -implicitDefEqProofs (disch := omega) only [resB, go_sem, ↓reduceIte, reduceAdd, reduceSub, reduceMul, reduceLeDiff, reduceLT, reduceEqDiff, reduceNeg, Nat.reduceBEq]) | refine And.intro (by omega) ?_ | (intro hr; have hc := hr; (try simp only [zda, zdb, zdc, zdd] at hc); simp -implicitDefEqProofs (disch := omega) only [hr, resB, go_sem, ↓reduceIte, reduceAdd, reduceSub, reduceMul, reduceLeDiff, reduceLT, reduceEqDiff, reduceNeg, Nat.reduceBEq]; (try clear hr))))
           subst hR
           exact fin_res he rd6_e0 rd6_e0
         | true =>
           have he : withV t p u = (withT t p u, 0) := by rw [withV, hv, hv2, ha, hv3]; rfl
           rw [hv3] at c4
           generalize withT t p u = w at *
           (repeat' (first | refine gT ?_ ?_ | refine gF ?_ ?_ | refine gC ?_ ?_ | ((first | (refine c_ctrE (c) ?_ ?_; (focus (simp -implicitDefEqProofs (disch := omega) only [resB, avs, avb, avi, avo, sigCells, opCells, pairCells, elT, avt, termCells_eq, go_sem, ↓reduceIte, reduceAdd, reduceSub, reduceMul, reduceLeDiff, reduceLT, reduceEqDiff, reduceNeg, Nat.reduceBEq]; done))) | (refine c_ctrE (d) ?_ ?_; (focus (simp -implicitDefEqProofs (disch := omega) only [resB, avs, avb, avi, avo, sigCells, opCells, pairCells, elT, avt, termCells_eq, go_sem, ↓reduceIte, reduceAdd, reduceSub, reduceMul, reduceLeDiff, reduceLT, reduceEqDiff, reduceNeg, Nat.reduceBEq]; done))) | (refine c_ctrE (c1) ?_ ?_; (focus (simp -implicitDefEqProofs (disch := omega) only [resB, avs, avb, avi, avo, sigCells, opCells, pairCells, elT, avt, termCells_eq, go_sem, ↓reduceIte, reduceAdd, reduceSub, reduceMul, reduceLeDiff, reduceLT, reduceEqDiff, reduceNeg, Nat.reduceBEq]; done))) | (refine c_ctrE (c2) ?_ ?_; (focus (simp -implicitDefEqProofs (disch := omega) only [resB, avs, avb, avi, avo, sigCells, opCells, pairCells, elT, avt, termCells_eq, go_sem, ↓reduceIte, reduceAdd, reduceSub, reduceMul, reduceLeDiff, reduceLT, reduceEqDiff, reduceNeg, Nat.reduceBEq]; done))) | (refine c_ctrE (c3) ?_ ?_; (focus (simp -implicitDefEqProofs (disch := omega) only [resB, avs, avb, avi, avo, sigCells, opCells, pairCells, elT, avt, termCells_eq, go_sem, ↓reduceIte, reduceAdd, reduceSub, reduceMul, reduceLeDiff, reduceLT, reduceEqDiff, reduceNeg, Nat.reduceBEq]; done))) | (refine c_ctrE (c4) ?_ ?_; (focus (simp -implicitDefEqProofs (disch := omega) only [resB, avs, avb, avi, avo, sigCells, opCells, pairCells, elT, avt, termCells_eq, go_sem, ↓reduceIte, reduceAdd, reduceSub, reduceMul, reduceLeDiff, reduceLT, reduceEqDiff, reduceNeg, Nat.reduceBEq]; done)))); simp -implicitDefEqProofs (disch := omega) only [resB, go_sem, ↓reduceIte, reduceAdd, reduceSub, reduceMul, reduceLeDiff, reduceLT, reduceEqDiff, reduceNeg, Nat.reduceBEq]) | refine And.intro (by omega) ?_ | (intro hr; have hc := hr; (try simp only [zda, zdb, zdc, zdd] at hc); simp -implicitDefEqProofs (disch := omega) only [hr, resB, go_sem, ↓reduceIte, reduceAdd, reduceSub, reduceMul, reduceLeDiff, reduceLT, reduceEqDiff, reduceNeg, Nat.reduceBEq]; (try clear hr))))
           subst hR
           exact fin_resP he
theorem ctr350 (t u : LTerm) (p : List Int) (ht : OkT t) (hu : OkT u) (hp : PathOk p): CT 42 [elT t, avi p, elT u] (resV (withV t p u)) := by
 refine sem_introA mixed Tryz.func42 g0 ?_
 · generalize hR : ((resV (withV t p u)) : AV) = R
   simp -implicitDefEqProofs (disch := omega) only [Tryz.f42, go_sem, List.replicate, ↓reduceIte, reduceAdd, reduceSub, reduceMul, reduceLeDiff, reduceLT, reduceEqDiff, reduceNeg, Nat.reduceBEq, avi]
   have c := ctr252 t ht
   have d := ctr252 u hu
   have c1 := ctr368 t p ht hp
   cases hv : validT nodeB t with
   | false =>
     rw [hv] at c
     (repeat' (first | refine gT ?_ ?_ | refine gF ?_ ?_ | refine gC ?_ ?_ | ((refine c_ctrE (c) ?_ ?_; (focus (simp -implicitDefEqProofs (disch := omega) only [avs, avb, avi, avo, sigCells, opCells, pairCells, elT, avt, termCells_eq, go_sem, ↓reduceIte, reduceAdd, reduceSub, reduceMul, reduceLeDiff, reduceLT, reduceEqDiff, reduceNeg, Nat.reduceBEq]; done))); simp -implicitDefEqProofs (disch := omega) only [go_sem, ↓reduceIte, reduceAdd, reduceSub, reduceMul, reduceLeDiff, reduceLT, reduceEqDiff, reduceNeg, Nat.reduceBEq]) | refine And.intro (by omega) ?_ | (intro hr; have hc := hr; (try simp only [zda, zdb, zdc, zdd] at hc); simp -implicitDefEqProofs (disch := omega) only [hr, go_sem, ↓reduceIte, reduceAdd, reduceSub, reduceMul, reduceLeDiff, reduceLT, reduceEqDiff, reduceNeg, Nat.reduceBEq]; (try clear hr))))
     subst hR
     exact fin_res (by rw [withV, hv]; rfl) rd6_e0 rd6_e0
   | true =>
     rw [hv] at c
     cases hv2 : validT nodeB u with
     | false =>
       rw [hv2] at d
       (repeat' (first | refine gT ?_ ?_ | refine gF ?_ ?_ | refine gC ?_ ?_ | ((first | (refine c_ctrE (c) ?_ ?_; (focus (simp -implicitDefEqProofs (disch := omega) only [avs, avb, avi, avo, sigCells, opCells, pairCells, elT, avt, termCells_eq, go_sem, ↓reduceIte, reduceAdd, reduceSub, reduceMul, reduceLeDiff, reduceLT, reduceEqDiff, reduceNeg, Nat.reduceBEq]; done))) | (refine c_ctrE (d) ?_ ?_; (focus (simp -implicitDefEqProofs (disch := omega) only [avs, avb, avi, avo, sigCells, opCells, pairCells, elT, avt, termCells_eq, go_sem, ↓reduceIte, reduceAdd, reduceSub, reduceMul, reduceLeDiff, reduceLT, reduceEqDiff, reduceNeg, Nat.reduceBEq]; done)))); simp -implicitDefEqProofs (disch := omega) only [go_sem, ↓reduceIte, reduceAdd, reduceSub, reduceMul, reduceLeDiff, reduceLT, reduceEqDiff, reduceNeg, Nat.reduceBEq]) | refine And.intro (by omega) ?_ | (intro hr; have hc := hr; (try simp only [zda, zdb, zdc, zdd] at hc); simp -implicitDefEqProofs (disch := omega) only [hr, go_sem, ↓reduceIte, reduceAdd, reduceSub, reduceMul, reduceLeDiff, reduceLT, reduceEqDiff, reduceNeg, Nat.reduceBEq]; (try clear hr))))
       subst hR
       exact fin_res (by rw [withV, hv, hv2]; rfl) rd6_e0 rd6_e0
     | true =>
       rw [hv2] at d
       cases ha : atOk t p with
       | false =>
         rw [ha] at c1
         rw [if_neg (by simp)] at c1
         (repeat' (first | refine gT ?_ ?_ | refine gF ?_ ?_ | refine gC ?_ ?_ | ((first | (refine c_ctrE (c) ?_ ?_; (focus (simp -implicitDefEqProofs (disch := omega) only [resB, avs, avb, avi, avo, sigCells, opCells, pairCells, elT, avt, termCells_eq, go_sem, ↓reduceIte, reduceAdd, reduceSub, reduceMul, reduceLeDiff, reduceLT, reduceEqDiff, reduceNeg, Nat.reduceBEq]; done))) | (refine c_ctrE (d) ?_ ?_; (focus (simp -implicitDefEqProofs (disch := omega) only [resB, avs, avb, avi, avo, sigCells, opCells, pairCells, elT, avt, termCells_eq, go_sem, ↓reduceIte, reduceAdd, reduceSub, reduceMul, reduceLeDiff, reduceLT, reduceEqDiff, reduceNeg, Nat.reduceBEq]; done))) | (refine c_ctrE (c1) ?_ ?_; (focus (simp -implicitDefEqProofs (disch := omega) only [resB, avs, avb, avi, avo, sigCells, opCells, pairCells, elT, avt, termCells_eq, go_sem, ↓reduceIte, reduceAdd, reduceSub, reduceMul, reduceLeDiff, reduceLT, reduceEqDiff, reduceNeg, Nat.reduceBEq]; done)))); simp -implicitDefEqProofs (disch := omega) only [resB, go_sem, ↓reduceIte, reduceAdd, reduceSub, reduceMul, reduceLeDiff, reduceLT, reduceEqDiff, reduceNeg, Nat.reduceBEq]) | refine And.intro (by omega) ?_ | (intro hr; have hc := hr; (try simp only [zda, zdb, zdc, zdd] at hc); simp -implicitDefEqProofs (disch := omega) only [hr, resB, go_sem, ↓reduceIte, reduceAdd, reduceSub, reduceMul, reduceLeDiff, reduceLT, reduceEqDiff, reduceNeg, Nat.reduceBEq]; (try clear hr))))
         subst hR
         exact fin_res (by rw [withV, hv, hv2, ha]; rfl) rd6_e0 rd6_e0
       | true =>
         rw [ha] at c1
         rw [if_pos rfl] at c1
         have ow := with_ok ht hu ha
         have c2 := ctr370 p t u ht hu hp ha
         have c3 := ctr233 _ ow
         have c4 := ctr252 _ ow
         cases hv3 : validT nodeB (withT t p u) with
         | false =>
           have he : withV t p u = (tZ, 3) := by rw [withV, hv, hv2, ha, hv3]; rfl
           rw [hv3] at c4
           generalize withT t p u = w at *
           (repeat' (first | refine gT ?_ ?_ | refine gF ?_ ?_ | refine gC ?_ ?_ | ((first | (refine c_ctrE (c) ?_ ?_; (focus (simp -implicitDefEqProofs (disch := omega) only [resB, avs, avb, avi, avo, sigCells, opCells, pairCells, elT, avt, termCells_eq, go_sem, ↓reduceIte, reduceAdd, reduceSub, reduceMul, reduceLeDiff, reduceLT, reduceEqDiff, reduceNeg, Nat.reduceBEq]; done))) | (refine c_ctrE (d) ?_ ?_; (focus (simp -implicitDefEqProofs (disch := omega) only [resB, avs, avb, avi, avo, sigCells, opCells, pairCells, elT, avt, termCells_eq, go_sem, ↓reduceIte, reduceAdd, reduceSub, reduceMul, reduceLeDiff, reduceLT, reduceEqDiff, reduceNeg, Nat.reduceBEq]; done))) | (refine c_ctrE (c1) ?_ ?_; (focus (simp -implicitDefEqProofs (disch := omega) only [resB, avs, avb, avi, avo, sigCells, opCells, pairCells, elT, avt, termCells_eq, go_sem, ↓reduceIte, reduceAdd, reduceSub, reduceMul, reduceLeDiff, reduceLT, reduceEqDiff, reduceNeg, Nat.reduceBEq]; done))) | (refine c_ctrE (c2) ?_ ?_; (focus (simp -implicitDefEqProofs (disch := omega) only [resB, avs, avb, avi, avo, sigCells, opCells, pairCells, elT, avt, termCells_eq, go_sem, ↓reduceIte, reduceAdd, reduceSub, reduceMul, reduceLeDiff, reduceLT, reduceEqDiff, reduceNeg, Nat.reduceBEq]; done))) | (refine c_ctrE (c4) ?_ ?_; (focus (simp -implicitDefEqProofs (disch := omega) only [resB, avs, avb, avi, avo, sigCells, opCells, pairCells, elT, avt, termCells_eq, go_sem, ↓reduceIte, reduceAdd, reduceSub, reduceMul, reduceLeDiff, reduceLT, reduceEqDiff, reduceNeg, Nat.reduceBEq]; done)))); simp -implicitDefEqProofs (disch := omega) only [resB, go_sem, ↓reduceIte, reduceAdd, reduceSub, reduceMul, reduceLeDiff, reduceLT, reduceEqDiff, reduceNeg, Nat.reduceBEq]) | refine And.intro (by omega) ?_ | (intro hr; have hc := hr; (try simp only [zda, zdb, zdc, zdd] at hc); simp -implicitDefEqProofs (disch := omega) only [hr, resB, go_sem, ↓reduceIte, reduceAdd, reduceSub, reduceMul, reduceLeDiff, reduceLT, reduceEqDiff, reduceNeg, Nat.reduceBEq]; (try clear hr))))
           subst hR
           exact fin_res he rd6_e0 rd6_e0
         | true =>
           have he : withV t p u = (withT t p u, 0) := by rw [withV, hv, hv2, ha, hv3]; rfl
           rw [hv3] at c4
           generalize withT t p u = w at *
           (repeat' (first | refine gT ?_ ?_ | refine gF ?_ ?_ | refine gC ?_ ?_ | ((first | (refine c_ctrE (c) ?_ ?_; (focus (simp -implicitDefEqProofs (disch := omega) only [resB, avs, avb, avi, avo, sigCells, opCells, pairCells, elT, avt, termCells_eq, go_sem, ↓reduceIte, reduceAdd, reduceSub, reduceMul, reduceLeDiff, reduceLT, reduceEqDiff, reduceNeg, Nat.reduceBEq]; done))) | (refine c_ctrE (d) ?_ ?_; (focus (simp -implicitDefEqProofs (disch := omega) only [resB, avs, avb, avi, avo, sigCells, opCells, pairCells, elT, avt, termCells_eq, go_sem, ↓reduceIte, reduceAdd, reduceSub, reduceMul, reduceLeDiff, reduceLT, reduceEqDiff, reduceNeg, Nat.reduceBEq]; done))) | (refine c_ctrE (c1) ?_ ?_; (focus (simp -implicitDefEqProofs (disch := omega) only [resB, avs, avb, avi, avo, sigCells, opCells, pairCells, elT, avt, termCells_eq, go_sem, ↓reduceIte, reduceAdd, reduceSub, reduceMul, reduceLeDiff, reduceLT, reduceEqDiff, reduceNeg, Nat.reduceBEq]; done))) | (refine c_ctrE (c2) ?_ ?_; (focus (simp -implicitDefEqProofs (disch := omega) only [resB, avs, avb, avi, avo, sigCells, opCells, pairCells, elT, avt, termCells_eq, go_sem, ↓reduceIte, reduceAdd, reduceSub, reduceMul, reduceLeDiff, reduceLT, reduceEqDiff, reduceNeg, Nat.reduceBEq]; done))) | (refine c_ctrE (c4) ?_ ?_; (focus (simp -implicitDefEqProofs (disch := omega) only [resB, avs, avb, avi, avo, sigCells, opCells, pairCells, elT, avt, termCells_eq, go_sem, ↓reduceIte, reduceAdd, reduceSub, reduceMul, reduceLeDiff, reduceLT, reduceEqDiff, reduceNeg, Nat.reduceBEq]; done)))); simp -implicitDefEqProofs (disch := omega) only [resB, go_sem, ↓reduceIte, reduceAdd, reduceSub, reduceMul, reduceLeDiff, reduceLT, reduceEqDiff, reduceNeg, Nat.reduceBEq]) | refine And.intro (by omega) ?_ | (intro hr; have hc := hr; (try simp only [zda, zdb, zdc, zdd] at hc); simp -implicitDefEqProofs (disch := omega) only [hr, resB, go_sem, ↓reduceIte, reduceAdd, reduceSub, reduceMul, reduceLeDiff, reduceLT, reduceEqDiff, reduceNeg, Nat.reduceBEq]; (try clear hr))))
           subst hR
           exact fin_resP he

theorem withV_ok {t u : LTerm} {p : List Int} (hv : validT nodeB t = true) (hu : validT nodeB u = true) (h : atOk t p = true) (hw : validT nodeB (withT t p u) = true) : withV t p u = (withT t p u, 0) := by rw [withV, hv, hu, h, hw]; rfl

theorem copy1 (l : List LTerm) (hl : l.length ≤ 1466015503701) (ih : ∀ t ∈ l, CT 38 [avt t.kids] (avt t.kids) ∧ CT 38 [avt t.rest] (avt t.rest)): CT 38 [avt l] (avt l) := by
 refine sem_introA mixed Tryz.func38 g0 ?_
 · simp -implicitDefEqProofs (disch := omega) only [Tryz.f38, go_sem, List.replicate, ↓reduceIte, reduceAdd, reduceSub, reduceMul, reduceLeDiff, reduceLT, reduceEqDiff, reduceNeg, Nat.reduceBEq, avt]
   refine x_loopJ (fun (s : Nat × AV × List AObj) => [.k, .k, .k, .v (s.2.1), .k, .j, .k, .k, .v (.i .i64 (s.1 : Nat)), .j, .j, .j, .j, .j, .j, .j, .j, .j, .j, .j, .j, .j, .j, .j, .j, .j, .j, .j, .j, .j, .j, .k]) (fun s => s.2.2) (fun s => s.1 ≤ l.length ∧ OutIs 6 0 s.2.2 s.2.1 ((l.take s.1).flatMap termCells) s.1) (fun s => l.length - s.1) ((0, .e0, [])) ⟨Nat.zero_le _, outIs_e0⟩ rfl (by simp [Fits]) ?_
   rintro ⟨k, out, g⟩ j ⟨hk, ho⟩
   dsimp only at hk ho
   have o := fun h : k < l.length => ih _ (mem_getD (d := default) h)
   simp -implicitDefEqProofs (disch := omega) only [go_sem, ↓reduceIte, reduceAdd, reduceSub, reduceMul, reduceLeDiff, reduceLT, reduceEqDiff, reduceNeg, Nat.reduceBEq]
   (repeat' (first | refine gT ?_ ?_ | refine gF ?_ ?_ | refine gC ?_ ?_ | ((first | (refine c_ctrE ((o (by omega)).1) ?_ ?_; (focus (simp -implicitDefEqProofs (disch := omega) only [rep1t, avs, avb, avi, avo, sigCells, opCells, pairCells, elT, avt, termCells_eq, go_sem, ↓reduceIte, reduceAdd, reduceSub, reduceMul, reduceLeDiff, reduceLT, reduceEqDiff, reduceNeg, Nat.reduceBEq]; done))) | (refine c_ctrE ((o (by omega)).2) ?_ ?_; (focus (simp -implicitDefEqProofs (disch := omega) only [rep1t, avs, avb, avi, avo, sigCells, opCells, pairCells, elT, avt, termCells_eq, go_sem, ↓reduceIte, reduceAdd, reduceSub, reduceMul, reduceLeDiff, reduceLT, reduceEqDiff, reduceNeg, Nat.reduceBEq]; done)))); simp -implicitDefEqProofs (disch := omega) only [rep1t, go_sem, ↓reduceIte, reduceAdd, reduceSub, reduceMul, reduceLeDiff, reduceLT, reduceEqDiff, reduceNeg, Nat.reduceBEq]) | refine And.intro (by omega) ?_ | (intro hr; have hc := hr; (try simp only [zda, zdb, zdc, zdd] at hc); simp -implicitDefEqProofs (disch := omega) only [hr, rep1t, go_sem, ↓reduceIte, reduceAdd, reduceSub, reduceMul, reduceLeDiff, reduceLT, reduceEqDiff, reduceNeg, Nat.reduceBEq]; (try clear hr))))
   · refine app_intro' (pre := []) (g := g ++ [.box false [.i .i64 (l.getD k default).kind, .i .i64 (l.getD k default).n, .s (l.getD k default).text, .s (l.getD k default).sort, .sl ((l.getD k default).kids.flatMap termCells) (l.getD k default).kids.length, .sl ((l.getD k default).rest.flatMap termCells) (l.getD k default).rest.length]]) (more := [.arr false 6 ([.i .i64 (l.getD k default).kind, .i .i64 (l.getD k default).n, .s (l.getD k default).text, .s (l.getD k default).sort, .sl ((l.getD k default).kids.flatMap termCells) (l.getD k default).kids.length, .sl ((l.getD k default).rest.flatMap termCells) (l.getD k default).rest.length])]) (news := [.i .i64 (l.getD k default).kind, .i .i64 (l.getD k default).n, .s (l.getD k default).text, .s (l.getD k default).sort, .sl ((l.getD k default).kids.flatMap termCells) (l.getD k default).kids.length, .sl ((l.getD k default).rest.flatMap termCells) (l.getD k default).rest.length]) (m := 1) ((ho).more _) rfl (by simp -implicitDefEqProofs (disch := omega) only [go_sem, ↓reduceIte, reduceAdd, reduceSub, reduceMul, reduceLeDiff, reduceLT, reduceEqDiff, reduceNeg, Nat.reduceBEq]) el28 zo30 sz30 by30 rfl (by decide) (by simp -implicitDefEqProofs (disch := omega) only [go_sem, ↓reduceIte, reduceAdd, reduceSub, reduceMul, reduceLeDiff, reduceLT, reduceEqDiff, reduceNeg, Nat.reduceBEq]) (by simp -implicitDefEqProofs (disch := omega) only [go_sem, ↓reduceIte, reduceAdd, reduceSub, reduceMul, reduceLeDiff, reduceLT, reduceEqDiff, reduceNeg, Nat.reduceBEq]) ⟨by omega, by omega⟩ ?_
     intro out' g' ho' _
     simp -implicitDefEqProofs (disch := omega) only [go_sem, ↓reduceIte, reduceAdd, reduceSub, reduceMul, reduceLeDiff, reduceLT, reduceEqDiff, reduceNeg, Nat.reduceBEq]
     refine ⟨(k + 1, out', g'), ⟨by dsimp only; omega, ?_⟩, by dsimp only; omega, rfl, by simp⟩
     dsimp only
     rw [take_cells (by omega), termCells_eq]
     exact ho'
   · have h1 : k = l.length := by omega
     subst h1
     rw [List.take_length] at ho
     exact fin_rd (out_rd ho rfl)
theorem copy2 : ∀ (t : LTerm), OkT t → CT 38 [avt t.kids] (avt t.kids) ∧ CT 38 [avt t.rest] (avt t.rest) :=
 term_ind fun t hk hr ht => ⟨copy1 t.kids ht.kids fun x hx => hk x hx (ht.kid x hx), copy1 t.rest ht.rest fun x hx => hr x hx (ht.rst x hx)⟩
theorem ctr346 (l : List LTerm) (hl : l.length ≤ 1466015503701) (ho : ∀ t ∈ l, OkT t) : CT 38 [avt l] (avt l) :=
 copy1 l hl fun t ht => copy2 t (ho t ht)
def fixR : List LTerm → List LTerm → List LTerm
 | t :: _, u :: l => .mk u.kind u.n u.text t.sort u.kids u.rest :: l
 | _, l => l
mutual
def rfT (a b : Str) : LTerm → LTerm
 | .mk k n x s ks rs => .mk k n (if k = 5 then swapOp x a b else if k = 6 then swap x a b else x)
     (if k = 5 then swap s a b else if k = 6 then (if x = [95] then s else if x = [36] then s else swap s a b) else swap s a b) (rfL a b ks) (fixR rs (rfL a b rs))
def rfL (a b : Str) : List LTerm → List LTerm
 | [] => []
 | t :: l => rfT a b t :: rfL a b l
end
theorem rfL_eq {a b : Str} : ∀ {l : List LTerm}, rfL a b l = l.map (rfT a b)
 | [] => rfl
 | t :: l => by rw [rfL, rfL_eq, List.map_cons]
theorem fixR_len : ∀ {r l : List LTerm}, (fixR r l).length = l.length
 | [], l => by cases l <;> rfl
 | _ :: _, [] => rfl
 | _ :: _, _ :: _ => rfl
theorem rfT_eq {a b : Str} {t : LTerm} : rfT a b t = .mk t.kind t.n (if t.kind = 5 then swapOp t.text a b else if t.kind = 6 then swap t.text a b else t.text)
     (if t.kind = 5 then swap t.sort a b else if t.kind = 6 then (if t.text = [95] then t.sort else if t.text = [36] then t.sort else swap t.sort a b) else swap t.sort a b) (t.kids.map (rfT a b)) (fixR t.rest (t.rest.map (rfT a b))) := by
 cases t; rw [rfT, rfL_eq, rfL_eq]; rfl
theorem rf_rest_len {a b : Str} {t : LTerm} : (rfT a b t).rest.length = t.rest.length := by
 rw [rfT_eq]
 show (fixR t.rest (t.rest.map (rfT a b))).length = _
 rw [fixR_len, List.length_map]
theorem snap_tm {H : List AObj} {i p q la lb : Nat} {k n : Int} {x y : Str} {ca cb : List AV} (hi : H[i]? = some (.arr false 6 [.i .i64 k, .i .i64 n, .s x, .s y, .hs p 0 la false, .hs q 0 lb false]))
   (ha : H[p]? = some (.arr false 6 ca)) (hb : H[q]? = some (.arr false 6 cb)) (pa : persL ca = true) (pb : persL cb = true) (la' : ca.length = la * 6) (lb' : cb.length = lb * 6) :
   snap dep H (.hs i 0 1 false) = .sl [.i .i64 k, .i .i64 n, .s x, .s y, .sl ca la, .sl cb lb] 1 ∧ reach dep H (.hs i 0 1 false) = [i, p, q] ∧ winPers H (.hs i 0 1 false) = false := by
 have w1 : (ca.drop 0).take (la * 6) = ca := by rw [List.drop_zero, List.take_of_length_le (by omega)]
 have w2 : (cb.drop 0).take (lb * 6) = cb := by rw [List.drop_zero, List.take_of_length_le (by omega)]
 refine ⟨?_, ?_, ?_⟩
 · simp only [snap_dep, snapS, snap_8, snapK, hi, ha, hb, pa, pb, w1, w2, pers, persL]
   simp [snap_8, snapK, ha, hb, pa, pb, pers, persL, la', lb', List.take_of_length_le]
 · simp only [reach_dep, reachK, hi, pers, persL]
   simp [reach_8, reachK, ha, hb, pa, pb, pers, persL, la', lb', List.take_of_length_le]
 · simp [winPers, hi, persL, pers]
theorem app_tm {P : Program} {G : Glob} {dr : Option Nat} {d : Option Nat} {os : List AOper} {K : List AV → List AObj → Prop} {env : List AV} {g r : List AObj} {T e by_ : Nat} {z : List AV} {out : AV} {cells : List AV} {n : Nat} {o : LTerm} {i p q la lb : Nat}
   (ho : OutIs 6 0 g out cells n) (hi : (g ++ r)[i]? = some (.arr false 6 [.i .i64 o.kind, .i .i64 o.n, .s o.text, .s o.sort, .hs p 0 la false, .hs q 0 lb false]))
   (ha : (g ++ r)[p]? = some (.arr false 6 (o.kids.flatMap termCells))) (hb : (g ++ r)[q]? = some (.arr false 6 (o.rest.flatMap termCells)))
   (la' : o.kids.length = la) (lb' : o.rest.length = lb) (hge : g.length ≤ i ∧ g.length ≤ p ∧ g.length ≤ q) (hT : elemOf? P T = some e) (hz : zeroOf P e = some z) (hsz : szOf P e = some 6) (hby : byOf P e = some by_)
   (hzl : z.length = 6) (hbd : (n + 1) * by_ ≤ 140737488355328 ∧ n + 1 ≤ 140737488355328)
   (k : ∀ out' g', OutIs 6 0 g' out' (cells ++ termCells o) (n + 1) → (∀ (i : Nat) (o : AObj), g[i]? = some o → (∀ c : List AV, o ≠ .arr false 6 c) → g'[i]? = some o) → awops P G dr os K (aput env d out') g') : contVH P G dr (aappS P (g ++ r) T out (.hs i 0 1 false)) d os K env := by
 subst la' lb'
 obtain ⟨h1, h2, h3⟩ := snap_tm hi ha hb persTs persTs term_flat_len term_flat_len
 refine app_snap' (news := termCells o) (m := 1) ho ?_ hT hz hsz hby hzl (by decide) h3 (by rw [h1, termCells_eq]; rfl) (by rw [term_len]) (persT o) hbd k
 rw [h2]
 simp only [List.mem_cons, List.not_mem_nil, or_false]
 omega
theorem app_tm2 {P : Program} {G : Glob} {dr : Option Nat} {d : Option Nat} {os : List AOper} {K : List AV → List AObj → Prop} {env : List AV} {g : List AObj} {A B : AObj} {T e by_ : Nat} {z : List AV} {out : AV} {cells ca cb : List AV} {n : Nat} {o : LTerm} {la lb : Nat} {kk nn : Int} {x y : Str}
   (ho : OutIs 6 0 g out cells n) (h1 : o.kind = kk) (h2 : o.n = nn) (h3 : o.text = x) (h4 : o.sort = y) (h5 : o.kids.flatMap termCells = ca) (h6 : o.rest.flatMap termCells = cb) (h7 : o.kids.length = la) (h8 : o.rest.length = lb) (hT : elemOf? P T = some e) (hz : zeroOf P e = some z) (hsz : szOf P e = some 6) (hby : byOf P e = some by_)
   (hzl : z.length = 6) (hbd : (n + 1) * by_ ≤ 140737488355328 ∧ n + 1 ≤ 140737488355328)
   (k : ∀ out' g', OutIs 6 0 g' out' (cells ++ termCells o) (n + 1) → awops P G dr os K (aput env d out') g') :
   contVH P G dr (aappS P (g ++ [A, B, .arr false 6 ca, .arr false 6 cb, .arr false 6 [.i .i64 kk, .i .i64 nn, .s x, .s y, .hs (g.length + 2) 0 la false, .hs (g.length + 3) 0 lb false]]) T out (.hs (g.length + 4) 0 1 false)) d os K env := by
 subst h1 h2 h3 h4 h5 h6
 exact app_tm (i := g.length + 4) (p := g.length + 2) (q := g.length + 3) ho (by simp) (by simp) (by simp) h7 h8 ⟨by omega, by omega, by omega⟩ hT hz hsz hby hzl hbd (fun out' g' h _ => k out' g' h)
theorem ren1 (l : List LTerm) (a b : Str) (hl : l.length ≤ 1466015503701) (ha : a.length ≤ 1000) (hb : b.length ≤ 1000) (hx : ∀ t ∈ l, t.text.length ≤ 140737488355328) (ih : ∀ t ∈ l, CT 87 [avt t.kids, .s a, .s b] (.own 6 ((t.kids.map (rfT a b)).flatMap termCells) t.kids.length) ∧ CT 87 [avt t.rest, .s a, .s b] (.own 6 ((t.rest.map (rfT a b)).flatMap termCells) t.rest.length)): CT 87 [avt l, .s a, .s b] (.own 6 ((l.map (rfT a b)).flatMap termCells) l.length) := by
 refine sem_intro (rx := true) (th := fun _ => none) mixed Tryz.func87 rfl (by kernel_rfl) (by kernel_rfl) (ac := ?_) ?_ g0 ?_
 rotate_left
 · simp only [strip, splitQ, stripOps, stripOp, hoist, List.filter_cons, List.filter_nil, List.nil_append, List.cons_append, isFree, anyPre, Region.binds, Bool.not_true, Bool.not_false, Bool.false_eq_true, if_true, if_false, Option.isNone_none, Option.isNone_some, Bool.true_and, Bool.false_and, List.map_nil, List.map_cons, List.isEmpty_nil, List.isEmpty_cons, List.append_nil, ckOf, preIs, isMade, isApp, List.getElem?_toArray, List.getElem?_cons_zero, List.getElem?_cons_succ, Bool.or_false, Bool.or_true, Bool.true_or, Bool.false_or, beq_self_eq_true, Option.some_beq_some, Nat.reduceBEq, hasApp, lateOn, isStore, isRd, List.any_cons, List.any_nil, Bool.or_self, Bool.and_self, mode_gc, mode_text]
   rfl
 · simp -implicitDefEqProofs (disch := omega) only [Tryz.f87, go_sem, List.replicate, ↓reduceIte, reduceAdd, reduceSub, reduceMul, reduceLeDiff, reduceLT, reduceEqDiff, reduceNeg, Nat.reduceBEq, avt]
   refine x_loopJ (fun (s : Nat × AV × List AObj) => [.k, .k, .k, .k, .k, .k, .k, .v (s.2.1), .k, .j, .j, .k, .k, .v (.i .i64 (s.1 : Nat)), .j, .j, .j, .j, .j, .j, .j, .j, .j, .j, .j, .j, .j, .j, .j, .j, .j, .j, .j, .j, .j, .j, .j, .j, .j, .j, .j, .j, .j, .j, .j, .j, .j, .j, .j, .j, .j, .j, .j, .j, .j, .j, .j, .j, .j, .j, .j, .j, .j, .j, .j, .j, .j, .j, .j, .j, .j, .j, .j, .j, .j, .j, .j, .j, .j, .j, .j, .j, .j, .j, .j, .j, .j, .j, .k]) (fun s => s.2.2) (fun s => s.1 ≤ l.length ∧ OutIs 6 0 s.2.2 s.2.1 (((l.take s.1).map (rfT a b)).flatMap termCells) s.1) (fun s => l.length - s.1) ((0, .e0, [])) ⟨Nat.zero_le _, outIs_e0⟩ rfl (by simp [Fits]) ?_
   rintro ⟨k, out, g⟩ j ⟨hk, ho⟩
   dsimp only at hk ho
   by_cases hlt : k < l.length
   · have hki : (k : Int) < ((l.length : Nat) : Int) := by omega
     obtain ⟨o1, o2⟩ := ih _ (mem_getD (d := default) hlt)
     have ox := hx _ (mem_getD (d := default) hlt)
     have htk : (((l.take (k + 1)).map (rfT a b)).flatMap termCells) = (((l.take k).map (rfT a b)).flatMap termCells) ++ termCells (rfT a b (l.getD k default)) := by
       have hkl : k < (l.map (rfT a b)).length := by rw [List.length_map]; omega
       have e : (l.map (rfT a b)).getD k default = rfT a b (l.getD k default) := by simp [List.getD, hlt]
       rw [List.map_take, take_cells hkl, e, List.map_take]
     obtain ⟨u, hu⟩ : ∃ u, l.getD k default = u := ⟨_, rfl⟩
     rw [hu] at o1 o2 ox htk
     have cc1 := ctr125 u.sort a b
     have cc2 := ctr126 u.text a b ox ha hb
     have cc3 := ctr125 u.text a b
     cases hrs : u.rest with
     | nil =>
       rw [hrs] at o2
       simp -implicitDefEqProofs (disch := omega) only [zt hki, hu, hrs, go_sem, ↓reduceIte, reduceAdd, reduceSub, reduceMul, reduceLeDiff, reduceLT, reduceEqDiff, reduceNeg, Nat.reduceBEq]
       (repeat' (first | refine gT ?_ ?_ | refine gF ?_ ?_ | refine gC ?_ ?_ | ((first | (refine c_ctrE (cc1) ?_ ?_; (focus (simp -implicitDefEqProofs (disch := omega) only [zt hki, hu, hrs, rep1t, List.length_nil, List.map_nil, avs, avb, avi, avo, sigCells, opCells, pairCells, elT, avt, termCells_eq, go_sem, ↓reduceIte, reduceAdd, reduceSub, reduceMul, reduceLeDiff, reduceLT, reduceEqDiff, reduceNeg, Nat.reduceBEq]; done))) | (refine c_ctrE (cc2) ?_ ?_; (focus (simp -implicitDefEqProofs (disch := omega) only [zt hki, hu, hrs, rep1t, List.length_nil, List.map_nil, avs, avb, avi, avo, sigCells, opCells, pairCells, elT, avt, termCells_eq, go_sem, ↓reduceIte, reduceAdd, reduceSub, reduceMul, reduceLeDiff, reduceLT, reduceEqDiff, reduceNeg, Nat.reduceBEq]; done))) | (refine c_ctrE (cc3) ?_ ?_; (focus (simp -implicitDefEqProofs (disch := omega) only [zt hki, hu, hrs, rep1t, List.length_nil, List.map_nil, avs, avb, avi, avo, sigCells, opCells, pairCells, elT, avt, termCells_eq, go_sem, ↓reduceIte, reduceAdd, reduceSub, reduceMul, reduceLeDiff, reduceLT, reduceEqDiff, reduceNeg, Nat.reduceBEq]; done))) | (refine c_ctrE (o1) ?_ ?_; (focus (simp -implicitDefEqProofs (disch := omega) only [zt hki, hu, hrs, rep1t, List.length_nil, List.map_nil, avs, avb, avi, avo, sigCells, opCells, pairCells, elT, avt, termCells_eq, go_sem, ↓reduceIte, reduceAdd, reduceSub, reduceMul, reduceLeDiff, reduceLT, reduceEqDiff, reduceNeg, Nat.reduceBEq]; done))) | (refine c_ctrE (o2) ?_ ?_; (focus (simp -implicitDefEqProofs (disch := omega) only [zt hki, hu, hrs, rep1t, List.length_nil, List.map_nil, avs, avb, avi, avo, sigCells, opCells, pairCells, elT, avt, termCells_eq, go_sem, ↓reduceIte, reduceAdd, reduceSub, reduceMul, reduceLeDiff, reduceLT, reduceEqDiff, reduceNeg, Nat.reduceBEq]; done)))); simp -implicitDefEqProofs (disch := omega) only [zt hki, hu, hrs, rep1t, List.length_nil, List.map_nil, go_sem, ↓reduceIte, reduceAdd, reduceSub, reduceMul, reduceLeDiff, reduceLT, reduceEqDiff, reduceNeg, Nat.reduceBEq]) | refine And.intro (by omega) ?_ | (intro hr; have hc := hr; (try simp only [zda, zdb, zdc, zdd] at hc); simp -implicitDefEqProofs (disch := omega) only [hr, zt hki, hu, hrs, rep1t, List.length_nil, List.map_nil, go_sem, ↓reduceIte, reduceAdd, reduceSub, reduceMul, reduceLeDiff, reduceLT, reduceEqDiff, reduceNeg, Nat.reduceBEq]; (try clear hr))))
       all_goals first
         | (exfalso; simp at hc; done)
         | (refine app_tm2 (o := rfT a b u) ho (by rw [rfT_eq]; rfl) (by rw [rfT_eq]; rfl) (by rw [rfT_eq, mkText]; simp [*]) (by rw [rfT_eq, mkSort]; simp [*]) (by rw [rfT_eq]; rfl) (by rw [rfT_eq, hrs]; rfl) (by rw [rfT_eq]; exact List.length_map _) (by rw [rfT_eq, hrs]; rfl) el28 zo30 sz30 by30 rfl ⟨by omega, by omega⟩ ?_
            intro out' g' ho'
            simp -implicitDefEqProofs (disch := omega) only [go_sem, ↓reduceIte, reduceAdd, reduceSub, reduceMul, reduceLeDiff, reduceLT, reduceEqDiff, reduceNeg, Nat.reduceBEq]
            exact ⟨(k + 1, out', g'), ⟨by dsimp only; omega, by dsimp only; rw [htk]; exact ho'⟩, by dsimp only; omega, rfl, by simp⟩)
     | cons r rs =>
       rw [hrs, List.map_cons, List.flatMap_cons, termCells_eq, List.length_cons] at o2
       have hpos : (0 : Int) < ((rs.length + 1 : Nat) : Int) := by omega
       simp -implicitDefEqProofs (disch := omega) only [zt hki, hu, hrs, go_sem, ↓reduceIte, reduceAdd, reduceSub, reduceMul, reduceLeDiff, reduceLT, reduceEqDiff, reduceNeg, Nat.reduceBEq]
       (repeat' (first | refine gT ?_ ?_ | refine gF ?_ ?_ | refine gC ?_ ?_ | ((first | (refine c_ctrE (cc1) ?_ ?_; (focus (simp -implicitDefEqProofs (disch := omega) only [zt hki, zt hpos, hu, hrs, rep1t, List.length_cons, List.map_cons, List.flatMap_cons, termCells_eq, List.cons_append, List.nil_append, avs, avb, avi, avo, sigCells, opCells, pairCells, elT, avt, termCells_eq, go_sem, ↓reduceIte, reduceAdd, reduceSub, reduceMul, reduceLeDiff, reduceLT, reduceEqDiff, reduceNeg, Nat.reduceBEq]; done))) | (refine c_ctrE (cc2) ?_ ?_; (focus (simp -implicitDefEqProofs (disch := omega) only [zt hki, zt hpos, hu, hrs, rep1t, List.length_cons, List.map_cons, List.flatMap_cons, termCells_eq, List.cons_append, List.nil_append, avs, avb, avi, avo, sigCells, opCells, pairCells, elT, avt, termCells_eq, go_sem, ↓reduceIte, reduceAdd, reduceSub, reduceMul, reduceLeDiff, reduceLT, reduceEqDiff, reduceNeg, Nat.reduceBEq]; done))) | (refine c_ctrE (cc3) ?_ ?_; (focus (simp -implicitDefEqProofs (disch := omega) only [zt hki, zt hpos, hu, hrs, rep1t, List.length_cons, List.map_cons, List.flatMap_cons, termCells_eq, List.cons_append, List.nil_append, avs, avb, avi, avo, sigCells, opCells, pairCells, elT, avt, termCells_eq, go_sem, ↓reduceIte, reduceAdd, reduceSub, reduceMul, reduceLeDiff, reduceLT, reduceEqDiff, reduceNeg, Nat.reduceBEq]; done))) | (refine c_ctrE (o1) ?_ ?_; (focus (simp -implicitDefEqProofs (disch := omega) only [zt hki, zt hpos, hu, hrs, rep1t, List.length_cons, List.map_cons, List.flatMap_cons, termCells_eq, List.cons_append, List.nil_append, avs, avb, avi, avo, sigCells, opCells, pairCells, elT, avt, termCells_eq, go_sem, ↓reduceIte, reduceAdd, reduceSub, reduceMul, reduceLeDiff, reduceLT, reduceEqDiff, reduceNeg, Nat.reduceBEq]; done))) | (refine c_ctrE (o2) ?_ ?_; (focus (simp -implicitDefEqProofs (disch := omega) only [zt hki, zt hpos, hu, hrs, rep1t, List.length_cons, List.map_cons, List.flatMap_cons, termCells_eq, List.cons_append, List.nil_append, avs, avb, avi, avo, sigCells, opCells, pairCells, elT, avt, termCells_eq, go_sem, ↓reduceIte, reduceAdd, reduceSub, reduceMul, reduceLeDiff, reduceLT, reduceEqDiff, reduceNeg, Nat.reduceBEq]; done)))); simp -implicitDefEqProofs (disch := omega) only [zt hki, zt hpos, hu, hrs, rep1t, List.length_cons, List.map_cons, List.flatMap_cons, termCells_eq, List.cons_append, List.nil_append, go_sem, ↓reduceIte, reduceAdd, reduceSub, reduceMul, reduceLeDiff, reduceLT, reduceEqDiff, reduceNeg, Nat.reduceBEq]) | refine And.intro (by omega) ?_ | (intro hr; have hc := hr; (try simp only [zda, zdb, zdc, zdd] at hc); simp -implicitDefEqProofs (disch := omega) only [hr, zt hki, zt hpos, hu, hrs, rep1t, List.length_cons, List.map_cons, List.flatMap_cons, termCells_eq, List.cons_append, List.nil_append, go_sem, ↓reduceIte, reduceAdd, reduceSub, reduceMul, reduceLeDiff, reduceLT, reduceEqDiff, reduceNeg, Nat.reduceBEq]; (try clear hr))))
       all_goals first
         | (exfalso; omega; done)
         | (refine app_tm2 (o := rfT a b u) ho (by rw [rfT_eq]; rfl) (by rw [rfT_eq]; rfl) (by rw [rfT_eq, mkText]; simp [*]) (by rw [rfT_eq, mkSort]; simp [*]) (by rw [rfT_eq]; rfl) (by rw [rfT_eq, hrs, List.map_cons]; show List.flatMap termCells (fixR (r :: rs) (rfT a b r :: rs.map (rfT a b))) = _; rw [fixR, List.flatMap_cons, termCells_eq]; rfl) (by rw [rfT_eq]; exact List.length_map _) (by rw [rf_rest_len, hrs]; rfl) el28 zo30 sz30 by30 rfl ⟨by omega, by omega⟩ ?_
            intro out' g' ho'
            simp -implicitDefEqProofs (disch := omega) only [go_sem, ↓reduceIte, reduceAdd, reduceSub, reduceMul, reduceLeDiff, reduceLT, reduceEqDiff, reduceNeg, Nat.reduceBEq]
            exact ⟨(k + 1, out', g'), ⟨by dsimp only; omega, by dsimp only; rw [htk]; exact ho'⟩, by dsimp only; omega, rfl, by simp⟩)
   · have hki : ¬ (k : Int) < ((l.length : Nat) : Int) := by omega
     simp -implicitDefEqProofs (disch := omega) only [zf hki, go_sem, ↓reduceIte, reduceAdd, reduceSub, reduceMul, reduceLeDiff, reduceLT, reduceEqDiff, reduceNeg, Nat.reduceBEq]
     (repeat' (first | refine gT ?_ ?_ | refine gF ?_ ?_ | refine gC ?_ ?_ | refine And.intro (by omega) ?_ | (intro hr; have hc := hr; (try simp only [zda, zdb, zdc, zdd] at hc); simp -implicitDefEqProofs (disch := omega) only [hr, zf hki, go_sem, ↓reduceIte, reduceAdd, reduceSub, reduceMul, reduceLeDiff, reduceLT, reduceEqDiff, reduceNeg, Nat.reduceBEq]; (try clear hr))))
     have h1 : k = l.length := by omega
     subst h1
     rw [List.take_length] at ho
     rcases ho with ⟨rfl, e1, e2⟩ | ⟨i, rfl, e1, e2⟩
     · exact fin_out (pre := []) (g := g) (.inl ⟨rfl, e1, e2⟩) persTs
     · exact fin_out (pre := []) (g := g) (.inr ⟨i, rfl, e1, e2⟩) persTs
theorem ren2 {a b : Str} (ha : a.length ≤ 1000) (hb : b.length ≤ 1000) : ∀ (t : LTerm), OkT t → CT 87 [avt t.kids, .s a, .s b] (.own 6 ((t.kids.map (rfT a b)).flatMap termCells) t.kids.length) ∧ CT 87 [avt t.rest, .s a, .s b] (.own 6 ((t.rest.map (rfT a b)).flatMap termCells) t.rest.length) :=
 term_ind fun t hk hr ht => ⟨ren1 t.kids a b ht.kids ha hb (fun x hx => (ht.kid x hx).text) fun x hx => hk x hx (ht.kid x hx), ren1 t.rest a b ht.rest ha hb (fun x hx => (ht.rst x hx).text) fun x hx => hr x hx (ht.rst x hx)⟩
theorem ctr374 (l : List LTerm) (a b : Str) (hl : l.length ≤ 1466015503701) (ha : a.length ≤ 1000) (hb : b.length ≤ 1000) (ho : ∀ t ∈ l, OkT t) : CT 87 [avt l, .s a, .s b] (.own 6 ((l.map (rfT a b)).flatMap termCells) l.length) :=
 ren1 l a b hl ha hb (fun x hx => (ho x hx).text) fun t ht => ren2 ha hb t (ho t ht)
theorem swap_nil {a b : Str} (ha : isName a = true) (hb : isName b = true) : swap [] a b = [] := by
 have h1 : ¬ ([] : Str) = a := by rintro rfl; simp [isName] at ha
 have h2 : ¬ ([] : Str) = b := by rintro rfl; simp [isName] at hb
 rw [swap, if_neg h1, if_neg h2]
theorem one_ne {s a b : Str} (h : openS s = true) (ha : isName a = true) (hb : isName b = true) : swap s a b = s := by
 have h1 : ¬ s = a := by rintro rfl; rw [name_closed ha] at h; cases h
 have h2 : ¬ s = b := by rintro rfl; rw [name_closed hb] at h; cases h
 rw [swap, if_neg h1, if_neg h2]
theorem oneR_rf {r : LTerm} {so a b : Str} (h : OneR r so) : (rfT a b r).kind = r.kind ∧ (rfT a b r).n = r.n ∧ (rfT a b r).text = swap r.text a b ∧ (rfT a b r).kids = [] ∧ (rfT a b r).rest = [] := by
 have n5 : ¬ r.kind = 5 := by rw [h.k]; decide
 rw [rfT_eq, mkText, if_neg n5, if_pos h.k]
 refine ⟨rfl, rfl, rfl, ?_, ?_⟩
 · show r.kids.map _ = []; rw [h.kids]; rfl
 · show fixR r.rest (r.rest.map _) = []; rw [h.rest]; rfl
theorem rest_same {t : LTerm} {so a b : Str} (h : restB t so = true) : fixR t.rest (t.rest.map (rfT a b)) = t.rest.map (chT a b false) := by
 rcases rest_one h with e | ⟨r, e, o⟩
 · rw [e]; rfl
 · rw [e]
   obtain ⟨q1, q2, q3, q4, q5⟩ := oneR_rf (a := a) (b := b) o
   obtain ⟨e1, e2⟩ := ch_var (a := a) (b := b) (q := false) o.k (name_closed o.name)
   obtain ⟨p1, p2, p3, p4⟩ := ch_parts (a := a) (b := b) (q := false) (t := r)
   rw [List.map_cons, List.map_nil, fixR, List.map_cons, List.map_nil, List.cons.injEq]
   refine ⟨?_, rfl⟩
   rw [LTerm.ext_iff]
   exact ⟨by rw [p3]; exact q1, by rw [p4]; exact q2, by rw [e1]; exact q3, by rw [e2, if_neg (by simp)]; rfl, by rw [p1, o.kids]; exact q4, by rw [p2, o.rest]; exact q5⟩
theorem ren_same {a b : Str} (ha : isName a = true) (hb : isName b = true) : ∀ t : LTerm, wfT nodeB t = true → rfT a b t = chT a b true t :=
 term_ind (Q := fun t => wfT nodeB t = true → rfT a b t = chT a b true t) fun t hk _ hw => by
   rw [wfT_eq] at hw
   have hn := hw.1
   have hk8 := nodeB_k hn
   have ek : t.kids.map (rfT a b) = t.kids.map (chT a b true) := List.map_congr_left fun x hx => hk x hx (hw.2 x hx)
   have Z : ∀ {p a1 a2 a3 a4 a5}, (p && zeroB t a1 a2 a3 a4 a5) = true → (a3 = false → t.sort = []) ∧ (a5 = false → t.rest = []) := by
     intro p a1 a2 a3 a4 a5 h
     simp only [zeroB, Bool.and_eq_true, Bool.or_eq_true, decide_eq_true_eq] at h
     obtain ⟨_, ⟨⟨⟨q1, q2⟩, q3⟩, q4⟩, q5⟩ := h
     exact ⟨fun e => q3.resolve_left (by rw [e]; simp), fun e => q5.resolve_left (by rw [e]; simp)⟩
   have er : fixR t.rest (t.rest.map (rfT a b)) = t.rest.map (chT a b false) := by
     have none : t.rest = [] → fixR t.rest (t.rest.map (rfT a b)) = t.rest.map (chT a b false) := fun h => by rw [h]; rfl
     by_cases h7 : t.kind = 7
     · rw [nodeB_7 h7, Bool.and_eq_true] at hn; exact rest_same hn.1
     by_cases h8 : t.kind = 8
     · rw [nodeB_8 h8, Bool.and_eq_true, Bool.and_eq_true] at hn; exact rest_same hn.1.1
     refine none ?_
     by_cases h1 : t.kind = 1
     · rw [nodeB_1 h1] at hn; exact (Z hn).2 rfl
     by_cases h2 : t.kind = 2
     · rw [nodeB_2 h2] at hn; exact (Z hn).2 rfl
     by_cases h3 : t.kind = 3
     · rw [nodeB_3 h3] at hn; exact (Z hn).2 rfl
     by_cases h4 : t.kind = 4
     · rw [nodeB_4 h4] at hn; exact (Z hn).2 rfl
     by_cases h5 : t.kind = 5
     · rw [nodeB_5 h5] at hn; exact (Z hn).2 rfl
     have h6 : t.kind = 6 := by omega
     rw [nodeB_6 h6] at hn
     split at hn <;> exact (Z hn).2 rfl
   have es : t.kind ≠ 6 → t.sort = [] := fun h6 => by
     by_cases h1 : t.kind = 1
     · rw [nodeB_1 h1] at hn; exact (Z hn).1 rfl
     by_cases h2 : t.kind = 2
     · rw [nodeB_2 h2] at hn; exact (Z hn).1 rfl
     by_cases h3 : t.kind = 3
     · rw [nodeB_3 h3] at hn; exact (Z hn).1 rfl
     by_cases h4 : t.kind = 4
     · rw [nodeB_4 h4] at hn; exact (Z hn).1 rfl
     by_cases h5 : t.kind = 5
     · rw [nodeB_5 h5] at hn; exact (Z hn).1 rfl
     by_cases h7 : t.kind = 7
     · rw [nodeB_7 h7] at hn; exact (Z hn).1 rfl
     have h8 : t.kind = 8 := by omega
     rw [nodeB_8 h8] at hn; exact (Z hn).1 rfl
   rw [rfT_eq, ek, er, chT_eq]
   by_cases h6 : t.kind = 6
   · have n5 : ¬ t.kind = 5 := by omega
     rw [if_neg n5, if_neg n5, if_neg n5, if_neg n5, if_pos h6, if_pos h6, if_pos h6, if_pos h6]
     by_cases o1 : t.text = [95]
     · rw [if_pos o1, if_pos o1, if_pos o1, one_ne (by rw [o1]; rfl) ha hb]
     by_cases o2 : t.text = [36]
     · rw [if_neg o1, if_neg o1, if_neg o1, if_pos o2, if_pos o2, if_pos o2, one_ne (by rw [o2]; rfl) ha hb]
     rw [if_neg o1, if_neg o1, if_neg o1, if_neg o2, if_neg o2, if_neg o2, if_pos rfl]
   · rw [es h6, swap_nil ha hb]
     by_cases h5 : t.kind = 5
     · rw [if_pos h5, if_pos h5, if_pos h5, if_pos h5]
     · rw [if_neg h5, if_neg h5, if_neg h5, if_neg h5, if_neg h6, if_neg h6, if_neg h6, if_neg h6]
theorem ite_arr3 {c : Bool} {a b : AObj} {n : Nat} {x : List AV} : (if c = true then [a, b, .arr false n x] else [a, b, .arr true n x]) = [a, b, .arr (!c) n x] := by cases c <;> rfl
theorem ctr352 (t : LTerm) (a b : Str) (ht : OkT t) (ha : a.length ≤ 140737488355328) (hb : b.length ≤ 140737488355328): CT 44 [elT t, .s a, .s b] (resV (renameV t a b)) := by
 refine sem_introA mixed Tryz.func44 g0 ?_
 · generalize hR : ((resV (renameV t a b)) : AV) = R
   simp -implicitDefEqProofs (disch := omega) only [Tryz.f44, go_sem, List.replicate, ↓reduceIte, reduceAdd, reduceSub, reduceMul, reduceLeDiff, reduceLT, reduceEqDiff, reduceNeg, Nat.reduceBEq]
   have c := ctr252 t ht
   have c1 := ctr42 a ha
   have c2 := ctr42 b hb
   cases hv : validT nodeB t with
   | false =>
     rw [hv] at c
     (repeat' (first | refine gT ?_ ?_ | refine gF ?_ ?_ | refine gC ?_ ?_ | ((first | (refine c_ctrE (c) ?_ ?_; (focus (simp -implicitDefEqProofs (disch := omega) only [avs, avb, avi, avo, sigCells, opCells, pairCells, elT, avt, termCells_eq, go_sem, ↓reduceIte, reduceAdd, reduceSub, reduceMul, reduceLeDiff, reduceLT, reduceEqDiff, reduceNeg, Nat.reduceBEq]; done))) | (refine c_ctrE (c1) ?_ ?_; (focus (simp -implicitDefEqProofs (disch := omega) only [avs, avb, avi, avo, sigCells, opCells, pairCells, elT, avt, termCells_eq, go_sem, ↓reduceIte, reduceAdd, reduceSub, reduceMul, reduceLeDiff, reduceLT, reduceEqDiff, reduceNeg, Nat.reduceBEq]; done))) | (refine c_ctrE (c2) ?_ ?_; (focus (simp -implicitDefEqProofs (disch := omega) only [avs, avb, avi, avo, sigCells, opCells, pairCells, elT, avt, termCells_eq, go_sem, ↓reduceIte, reduceAdd, reduceSub, reduceMul, reduceLeDiff, reduceLT, reduceEqDiff, reduceNeg, Nat.reduceBEq]; done)))); simp -implicitDefEqProofs (disch := omega) only [go_sem, ↓reduceIte, reduceAdd, reduceSub, reduceMul, reduceLeDiff, reduceLT, reduceEqDiff, reduceNeg, Nat.reduceBEq]) | refine And.intro (by omega) ?_ | (intro hr; have hc := hr; (try simp only [zda, zdb, zdc, zdd] at hc); simp -implicitDefEqProofs (disch := omega) only [hr, go_sem, ↓reduceIte, reduceAdd, reduceSub, reduceMul, reduceLeDiff, reduceLT, reduceEqDiff, reduceNeg, Nat.reduceBEq]; (try clear hr))))
     all_goals (subst hR; exact fin_res (by rw [renameV, hv]; rfl) rd6_e0 rd6_e0)
   | true =>
     rw [hv] at c
     cases h1 : isName a with
     | false =>
       rw [h1] at c1
       (repeat' (first | refine gT ?_ ?_ | refine gF ?_ ?_ | refine gC ?_ ?_ | ((first | (refine c_ctrE (c) ?_ ?_; (focus (simp -implicitDefEqProofs (disch := omega) only [avs, avb, avi, avo, sigCells, opCells, pairCells, elT, avt, termCells_eq, go_sem, ↓reduceIte, reduceAdd, reduceSub, reduceMul, reduceLeDiff, reduceLT, reduceEqDiff, reduceNeg, Nat.reduceBEq]; done))) | (refine c_ctrE (c1) ?_ ?_; (focus (simp -implicitDefEqProofs (disch := omega) only [avs, avb, avi, avo, sigCells, opCells, pairCells, elT, avt, termCells_eq, go_sem, ↓reduceIte, reduceAdd, reduceSub, reduceMul, reduceLeDiff, reduceLT, reduceEqDiff, reduceNeg, Nat.reduceBEq]; done))) | (refine c_ctrE (c2) ?_ ?_; (focus (simp -implicitDefEqProofs (disch := omega) only [avs, avb, avi, avo, sigCells, opCells, pairCells, elT, avt, termCells_eq, go_sem, ↓reduceIte, reduceAdd, reduceSub, reduceMul, reduceLeDiff, reduceLT, reduceEqDiff, reduceNeg, Nat.reduceBEq]; done)))); simp -implicitDefEqProofs (disch := omega) only [go_sem, ↓reduceIte, reduceAdd, reduceSub, reduceMul, reduceLeDiff, reduceLT, reduceEqDiff, reduceNeg, Nat.reduceBEq]) | refine And.intro (by omega) ?_ | (intro hr; have hc := hr; (try simp only [zda, zdb, zdc, zdd] at hc); simp -implicitDefEqProofs (disch := omega) only [hr, go_sem, ↓reduceIte, reduceAdd, reduceSub, reduceMul, reduceLeDiff, reduceLT, reduceEqDiff, reduceNeg, Nat.reduceBEq]; (try clear hr))))
       all_goals (subst hR; exact fin_res (by rw [renameV, hv, h1]; rfl) rd6_e0 rd6_e0)
     | true =>
       rw [h1] at c1
       cases h2 : isName b with
       | false =>
         rw [h2] at c2
         (repeat' (first | refine gT ?_ ?_ | refine gF ?_ ?_ | refine gC ?_ ?_ | ((first | (refine c_ctrE (c) ?_ ?_; (focus (simp -implicitDefEqProofs (disch := omega) only [avs, avb, avi, avo, sigCells, opCells, pairCells, elT, avt, termCells_eq, go_sem, ↓reduceIte, reduceAdd, reduceSub, reduceMul, reduceLeDiff, reduceLT, reduceEqDiff, reduceNeg, Nat.reduceBEq]; done))) | (refine c_ctrE (c1) ?_ ?_; (focus (simp -implicitDefEqProofs (disch := omega) only [avs, avb, avi, avo, sigCells, opCells, pairCells, elT, avt, termCells_eq, go_sem, ↓reduceIte, reduceAdd, reduceSub, reduceMul, reduceLeDiff, reduceLT, reduceEqDiff, reduceNeg, Nat.reduceBEq]; done))) | (refine c_ctrE (c2) ?_ ?_; (focus (simp -implicitDefEqProofs (disch := omega) only [avs, avb, avi, avo, sigCells, opCells, pairCells, elT, avt, termCells_eq, go_sem, ↓reduceIte, reduceAdd, reduceSub, reduceMul, reduceLeDiff, reduceLT, reduceEqDiff, reduceNeg, Nat.reduceBEq]; done)))); simp -implicitDefEqProofs (disch := omega) only [go_sem, ↓reduceIte, reduceAdd, reduceSub, reduceMul, reduceLeDiff, reduceLT, reduceEqDiff, reduceNeg, Nat.reduceBEq]) | refine And.intro (by omega) ?_ | (intro hr; have hc := hr; (try simp only [zda, zdb, zdc, zdd] at hc); simp -implicitDefEqProofs (disch := omega) only [hr, go_sem, ↓reduceIte, reduceAdd, reduceSub, reduceMul, reduceLeDiff, reduceLT, reduceEqDiff, reduceNeg, Nat.reduceBEq]; (try clear hr))))
         all_goals (subst hR; exact fin_res (by rw [renameV, hv, h1, h2]; rfl) rd6_e0 rd6_e0)
       | true =>
         rw [h2] at c2
         have l1 := nameW_len h1
         have l2 := nameW_len h2
         have c3 := ctr374 [t] a b (by simp) (by omega) (by omega) (okl1 ht)
         have he : renameV t a b = (chT a b true t, 0) := by rw [renameV, hv, h1, h2]; rfl
         rw [List.map_cons, List.map_nil, ren_same h1 h2 t (valid_wf hv), List.flatMap_cons, List.flatMap_nil, List.append_nil] at c3
         (repeat' (first | refine gT ?_ ?_ | refine gF ?_ ?_ | refine gC ?_ ?_ | ((first | (refine c_ctrE (c) ?_ ?_; (focus (simp -implicitDefEqProofs (disch := omega) only [List.flatMap_cons, List.flatMap_nil, List.append_nil, List.length_cons, List.length_nil, rep1t, List.flatten_cons, List.flatten_nil, ite_arr3, avs, avb, avi, avo, sigCells, opCells, pairCells, elT, avt, termCells_eq, go_sem, ↓reduceIte, reduceAdd, reduceSub, reduceMul, reduceLeDiff, reduceLT, reduceEqDiff, reduceNeg, Nat.reduceBEq]; done))) | (refine c_ctrE (c1) ?_ ?_; (focus (simp -implicitDefEqProofs (disch := omega) only [List.flatMap_cons, List.flatMap_nil, List.append_nil, List.length_cons, List.length_nil, rep1t, List.flatten_cons, List.flatten_nil, ite_arr3, avs, avb, avi, avo, sigCells, opCells, pairCells, elT, avt, termCells_eq, go_sem, ↓reduceIte, reduceAdd, reduceSub, reduceMul, reduceLeDiff, reduceLT, reduceEqDiff, reduceNeg, Nat.reduceBEq]; done))) | (refine c_ctrE (c2) ?_ ?_; (focus (simp -implicitDefEqProofs (disch := omega) only [List.flatMap_cons, List.flatMap_nil, List.append_nil, List.length_cons, List.length_nil, rep1t, List.flatten_cons, List.flatten_nil, ite_arr3, avs, avb, avi, avo, sigCells, opCells, pairCells, elT, avt, termCells_eq, go_sem, ↓reduceIte, reduceAdd, reduceSub, reduceMul, reduceLeDiff, reduceLT, reduceEqDiff, reduceNeg, Nat.reduceBEq]; done))) | (refine c_ctrE (c3) ?_ ?_; (focus (simp -implicitDefEqProofs (disch := omega) only [List.flatMap_cons, List.flatMap_nil, List.append_nil, List.length_cons, List.length_nil, rep1t, List.flatten_cons, List.flatten_nil, ite_arr3, avs, avb, avi, avo, sigCells, opCells, pairCells, elT, avt, termCells_eq, go_sem, ↓reduceIte, reduceAdd, reduceSub, reduceMul, reduceLeDiff, reduceLT, reduceEqDiff, reduceNeg, Nat.reduceBEq]; done)))); simp -implicitDefEqProofs (disch := omega) only [List.flatMap_cons, List.flatMap_nil, List.append_nil, List.length_cons, List.length_nil, rep1t, List.flatten_cons, List.flatten_nil, ite_arr3, go_sem, ↓reduceIte, reduceAdd, reduceSub, reduceMul, reduceLeDiff, reduceLT, reduceEqDiff, reduceNeg, Nat.reduceBEq]) | refine And.intro (by omega) ?_ | (intro hr; have hc := hr; (try simp only [zda, zdb, zdc, zdd] at hc); simp -implicitDefEqProofs (disch := omega) only [hr, List.flatMap_cons, List.flatMap_nil, List.append_nil, List.length_cons, List.length_nil, rep1t, List.flatten_cons, List.flatten_nil, ite_arr3, go_sem, ↓reduceIte, reduceAdd, reduceSub, reduceMul, reduceLeDiff, reduceLT, reduceEqDiff, reduceNeg, Nat.reduceBEq]; (try clear hr))))
         subst hR
         exact fin_resP he
theorem okZ : OkT tZ := okT_of tZ (by decide +kernel)
theorem atV_okT {t : LTerm} {p : List Int} (h : OkT t) : OkT (atV t p).1 := by
 unfold atV
 split
 · split
   · exact stop_ok h
   · exact okZ
 · exact okZ
theorem withV_okT {t u : LTerm} {p : List Int} (h : OkT t) (hu : OkT u) : OkT (withV t p u).1 := by
 cases h1 : (validT nodeB t && validT nodeB u && atOk t p && validT nodeB (withT t p u)) with
 | true =>
   simp only [Bool.and_eq_true] at h1
   rw [withV_ok h1.1.1.1 h1.1.1.2 h1.1.2 h1.2]
   exact with_ok h hu h1.1.2
 | false =>
   unfold withV
   cases q1 : validT nodeB t <;> cases q2 : validT nodeB u <;> cases q3 : atOk t p <;> cases q4 : validT nodeB (withT t p u) <;> rw [q1, q2, q3, q4] at h1 <;> first | (simp at h1; done) | exact okZ
theorem renameV_okT {t : LTerm} {a b : Str} (h : OkT t) : OkT (renameV t a b).1 := by
 unfold renameV
 split
 · rename_i hw
   simp only [Bool.and_eq_true] at hw
   exact ch_ok (by have := nameW_len hw.1.2; omega) (by have := nameW_len hw.2; omega) t h true
 · exact okZ
theorem ctr320 (t u : LTerm) (p : List Int) (a b : Str) (ht : OkT t) (hu : OkT u) (hp : PathOk p) (ha : a.length ≤ 140737488355328) (hb : b.length ≤ 140737488355328): CT 6 [.agg (termCells t ++ termCells u), avi p, .agg [.s a, .s b]] (.b true) := by
 refine sem_intro (rx := true) (th := fun _ => none) mixed Tryz.func6 rfl (by kernel_rfl) (by kernel_rfl) (ac := ?_) ?_ g0 ?_
 rotate_left
 · simp only [strip, splitQ, stripOps, stripOp, hoist, List.filter_cons, List.filter_nil, List.nil_append, List.cons_append, isFree, anyPre, Region.binds, Bool.not_true, Bool.not_false, Bool.false_eq_true, if_true, if_false, Option.isNone_none, Option.isNone_some, Bool.true_and, Bool.false_and, List.map_nil, List.map_cons, List.isEmpty_nil, List.isEmpty_cons, List.append_nil, ckOf, preIs, isMade, isApp, List.getElem?_toArray, List.getElem?_cons_zero, List.getElem?_cons_succ, Bool.or_false, Bool.or_true, Bool.true_or, Bool.false_or, beq_self_eq_true, Option.some_beq_some, Nat.reduceBEq, hasApp, lateOn, isStore, isRd, List.any_cons, List.any_nil, Bool.or_self, Bool.and_self, mode_gc, mode_text]
   rfl
 · simp -implicitDefEqProofs (disch := omega) only [Tryz.f6, go_sem, List.replicate, ↓reduceIte, reduceAdd, reduceSub, reduceMul, reduceLeDiff, reduceLT, reduceEqDiff, reduceNeg, Nat.reduceBEq, avi, termCells_eq, List.cons_append, List.nil_append, List.flatten_cons, List.flatten_nil, List.append_nil]
   have ft := few1 t ht
   have fu := few1 u hu
   have hq := hp.1
   rcases bool_em (fewP 2600 [t]) with h1 | h1
   · rw [h1] at ft
     rcases bool_em (fewP 2600 [u]) with h2 | h2
     · rw [h2] at fu
       by_cases hl : 100 < p.length
       · have e2 : (100 < (p.length : Int)) = True := eq_true (by omega)
         (repeat' (first | refine gT ?_ ?_ | refine gF ?_ ?_ | refine gC ?_ ?_ | ((first | (refine c_ctrE (ft) ?_ ?_; (focus (simp -implicitDefEqProofs (disch := omega) only [List.flatMap_cons, List.flatMap_nil, List.append_nil, List.length_cons, List.length_nil, rep1t, List.flatten_cons, List.flatten_nil, e2, decide_true, avs, avb, avi, avo, sigCells, opCells, pairCells, elT, avt, termCells_eq, go_sem, ↓reduceIte, reduceAdd, reduceSub, reduceMul, reduceLeDiff, reduceLT, reduceEqDiff, reduceNeg, Nat.reduceBEq]; done))) | (refine c_ctrE (fu) ?_ ?_; (focus (simp -implicitDefEqProofs (disch := omega) only [List.flatMap_cons, List.flatMap_nil, List.append_nil, List.length_cons, List.length_nil, rep1t, List.flatten_cons, List.flatten_nil, e2, decide_true, avs, avb, avi, avo, sigCells, opCells, pairCells, elT, avt, termCells_eq, go_sem, ↓reduceIte, reduceAdd, reduceSub, reduceMul, reduceLeDiff, reduceLT, reduceEqDiff, reduceNeg, Nat.reduceBEq]; done))) | (refine c_ctrE (ctr328) ?_ ?_; (focus (simp -implicitDefEqProofs (disch := omega) only [List.flatMap_cons, List.flatMap_nil, List.append_nil, List.length_cons, List.length_nil, rep1t, List.flatten_cons, List.flatten_nil, e2, decide_true, avs, avb, avi, avo, sigCells, opCells, pairCells, elT, avt, termCells_eq, go_sem, ↓reduceIte, reduceAdd, reduceSub, reduceMul, reduceLeDiff, reduceLT, reduceEqDiff, reduceNeg, Nat.reduceBEq]; done)))); simp -implicitDefEqProofs (disch := omega) only [List.flatMap_cons, List.flatMap_nil, List.append_nil, List.length_cons, List.length_nil, rep1t, List.flatten_cons, List.flatten_nil, e2, decide_true, go_sem, ↓reduceIte, reduceAdd, reduceSub, reduceMul, reduceLeDiff, reduceLT, reduceEqDiff, reduceNeg, Nat.reduceBEq]) | refine And.intro (by omega) ?_ | (intro hr; have hc := hr; (try simp only [zda, zdb, zdc, zdd] at hc); simp -implicitDefEqProofs (disch := omega) only [hr, List.flatMap_cons, List.flatMap_nil, List.append_nil, List.length_cons, List.length_nil, rep1t, List.flatten_cons, List.flatten_nil, e2, decide_true, go_sem, ↓reduceIte, reduceAdd, reduceSub, reduceMul, reduceLeDiff, reduceLT, reduceEqDiff, reduceNeg, Nat.reduceBEq]; (try clear hr))))
         all_goals exact fin_eq rfl rfl
       · have e2 : (100 < (p.length : Int)) = False := eq_false (by omega)
         have c0 := ctr346 [t] (by simp) (okl1 ht)
         have c1 := ctr347 t p ht hp
         have c2 := ctr348 t p ht hp
         have c3 := ctr349 t u p ht hu hp
         have c4 := ctr350 t u p ht hu hp
         have c5 := ctr351 t a b ht ha hb
         have c6 := ctr352 t a b ht ha hb
         have o1 := atV_okT (p := p) ht
         have o2 := withV_okT (p := p) ht hu
         have o3 := renameV_okT (a := a) (b := b) ht
         generalize atV t p = q1 at c1 c2 o1
         generalize withV t p u = q2 at c3 c4 o2
         generalize renameV t a b = q3 at c5 c6 o3
         obtain ⟨x, e⟩ := q1
         obtain ⟨y, f⟩ := q2
         obtain ⟨z, g⟩ := q3
         have d1 := ctr211 x x o1 o1
         have d2 := ctr211 y y o2 o2
         have d3 := ctr211 z z o3 o3
         have d4 := ctr211 t t ht ht
         rw [zt rfl] at d1 d2 d3 d4
         (repeat' (first | refine gT ?_ ?_ | refine gF ?_ ?_ | refine gC ?_ ?_ | ((first | (refine c_ctrE (ft) ?_ ?_; (focus (simp -implicitDefEqProofs (disch := omega) only [List.flatMap_cons, List.flatMap_nil, List.append_nil, List.length_cons, List.length_nil, rep1t, List.flatten_cons, List.flatten_nil, resV, e2, decide_false, eq_self, decide_true, avs, avb, avi, avo, sigCells, opCells, pairCells, elT, avt, termCells_eq, go_sem, ↓reduceIte, reduceAdd, reduceSub, reduceMul, reduceLeDiff, reduceLT, reduceEqDiff, reduceNeg, Nat.reduceBEq]; done))) | (refine c_ctrE (fu) ?_ ?_; (focus (simp -implicitDefEqProofs (disch := omega) only [List.flatMap_cons, List.flatMap_nil, List.append_nil, List.length_cons, List.length_nil, rep1t, List.flatten_cons, List.flatten_nil, resV, e2, decide_false, eq_self, decide_true, avs, avb, avi, avo, sigCells, opCells, pairCells, elT, avt, termCells_eq, go_sem, ↓reduceIte, reduceAdd, reduceSub, reduceMul, reduceLeDiff, reduceLT, reduceEqDiff, reduceNeg, Nat.reduceBEq]; done))) | (refine c_ctrE (c0) ?_ ?_; (focus (simp -implicitDefEqProofs (disch := omega) only [List.flatMap_cons, List.flatMap_nil, List.append_nil, List.length_cons, List.length_nil, rep1t, List.flatten_cons, List.flatten_nil, resV, e2, decide_false, eq_self, decide_true, avs, avb, avi, avo, sigCells, opCells, pairCells, elT, avt, termCells_eq, go_sem, ↓reduceIte, reduceAdd, reduceSub, reduceMul, reduceLeDiff, reduceLT, reduceEqDiff, reduceNeg, Nat.reduceBEq]; done))) | (refine c_ctrE (c1) ?_ ?_; (focus (simp -implicitDefEqProofs (disch := omega) only [List.flatMap_cons, List.flatMap_nil, List.append_nil, List.length_cons, List.length_nil, rep1t, List.flatten_cons, List.flatten_nil, resV, e2, decide_false, eq_self, decide_true, avs, avb, avi, avo, sigCells, opCells, pairCells, elT, avt, termCells_eq, go_sem, ↓reduceIte, reduceAdd, reduceSub, reduceMul, reduceLeDiff, reduceLT, reduceEqDiff, reduceNeg, Nat.reduceBEq]; done))) | (refine c_ctrE (c2) ?_ ?_; (focus (simp -implicitDefEqProofs (disch := omega) only [List.flatMap_cons, List.flatMap_nil, List.append_nil, List.length_cons, List.length_nil, rep1t, List.flatten_cons, List.flatten_nil, resV, e2, decide_false, eq_self, decide_true, avs, avb, avi, avo, sigCells, opCells, pairCells, elT, avt, termCells_eq, go_sem, ↓reduceIte, reduceAdd, reduceSub, reduceMul, reduceLeDiff, reduceLT, reduceEqDiff, reduceNeg, Nat.reduceBEq]; done))) | (refine c_ctrE (c3) ?_ ?_; (focus (simp -implicitDefEqProofs (disch := omega) only [List.flatMap_cons, List.flatMap_nil, List.append_nil, List.length_cons, List.length_nil, rep1t, List.flatten_cons, List.flatten_nil, resV, e2, decide_false, eq_self, decide_true, avs, avb, avi, avo, sigCells, opCells, pairCells, elT, avt, termCells_eq, go_sem, ↓reduceIte, reduceAdd, reduceSub, reduceMul, reduceLeDiff, reduceLT, reduceEqDiff, reduceNeg, Nat.reduceBEq]; done))) | (refine c_ctrE (c4) ?_ ?_; (focus (simp -implicitDefEqProofs (disch := omega) only [List.flatMap_cons, List.flatMap_nil, List.append_nil, List.length_cons, List.length_nil, rep1t, List.flatten_cons, List.flatten_nil, resV, e2, decide_false, eq_self, decide_true, avs, avb, avi, avo, sigCells, opCells, pairCells, elT, avt, termCells_eq, go_sem, ↓reduceIte, reduceAdd, reduceSub, reduceMul, reduceLeDiff, reduceLT, reduceEqDiff, reduceNeg, Nat.reduceBEq]; done))) | (refine c_ctrE (c5) ?_ ?_; (focus (simp -implicitDefEqProofs (disch := omega) only [List.flatMap_cons, List.flatMap_nil, List.append_nil, List.length_cons, List.length_nil, rep1t, List.flatten_cons, List.flatten_nil, resV, e2, decide_false, eq_self, decide_true, avs, avb, avi, avo, sigCells, opCells, pairCells, elT, avt, termCells_eq, go_sem, ↓reduceIte, reduceAdd, reduceSub, reduceMul, reduceLeDiff, reduceLT, reduceEqDiff, reduceNeg, Nat.reduceBEq]; done))) | (refine c_ctrE (c6) ?_ ?_; (focus (simp -implicitDefEqProofs (disch := omega) only [List.flatMap_cons, List.flatMap_nil, List.append_nil, List.length_cons, List.length_nil, rep1t, List.flatten_cons, List.flatten_nil, resV, e2, decide_false, eq_self, decide_true, avs, avb, avi, avo, sigCells, opCells, pairCells, elT, avt, termCells_eq, go_sem, ↓reduceIte, reduceAdd, reduceSub, reduceMul, reduceLeDiff, reduceLT, reduceEqDiff, reduceNeg, Nat.reduceBEq]; done))) | (refine c_ctrE (d1) ?_ ?_; (focus (simp -implicitDefEqProofs (disch := omega) only [List.flatMap_cons, List.flatMap_nil, List.append_nil, List.length_cons, List.length_nil, rep1t, List.flatten_cons, List.flatten_nil, resV, e2, decide_false, eq_self, decide_true, avs, avb, avi, avo, sigCells, opCells, pairCells, elT, avt, termCells_eq, go_sem, ↓reduceIte, reduceAdd, reduceSub, reduceMul, reduceLeDiff, reduceLT, reduceEqDiff, reduceNeg, Nat.reduceBEq]; done))) | (refine c_ctrE (d2) ?_ ?_; (focus (simp -implicitDefEqProofs (disch := omega) only [List.flatMap_cons, List.flatMap_nil, List.append_nil, List.length_cons, List.length_nil, rep1t, List.flatten_cons, List.flatten_nil, resV, e2, decide_false, eq_self, decide_true, avs, avb, avi, avo, sigCells, opCells, pairCells, elT, avt, termCells_eq, go_sem, ↓reduceIte, reduceAdd, reduceSub, reduceMul, reduceLeDiff, reduceLT, reduceEqDiff, reduceNeg, Nat.reduceBEq]; done))) | (refine c_ctrE (d3) ?_ ?_; (focus (simp -implicitDefEqProofs (disch := omega) only [List.flatMap_cons, List.flatMap_nil, List.append_nil, List.length_cons, List.length_nil, rep1t, List.flatten_cons, List.flatten_nil, resV, e2, decide_false, eq_self, decide_true, avs, avb, avi, avo, sigCells, opCells, pairCells, elT, avt, termCells_eq, go_sem, ↓reduceIte, reduceAdd, reduceSub, reduceMul, reduceLeDiff, reduceLT, reduceEqDiff, reduceNeg, Nat.reduceBEq]; done))) | (refine c_ctrE (d4) ?_ ?_; (focus (simp -implicitDefEqProofs (disch := omega) only [List.flatMap_cons, List.flatMap_nil, List.append_nil, List.length_cons, List.length_nil, rep1t, List.flatten_cons, List.flatten_nil, resV, e2, decide_false, eq_self, decide_true, avs, avb, avi, avo, sigCells, opCells, pairCells, elT, avt, termCells_eq, go_sem, ↓reduceIte, reduceAdd, reduceSub, reduceMul, reduceLeDiff, reduceLT, reduceEqDiff, reduceNeg, Nat.reduceBEq]; done))) | (refine c_ctrE (ctr328) ?_ ?_; (focus (simp -implicitDefEqProofs (disch := omega) only [List.flatMap_cons, List.flatMap_nil, List.append_nil, List.length_cons, List.length_nil, rep1t, List.flatten_cons, List.flatten_nil, resV, e2, decide_false, eq_self, decide_true, avs, avb, avi, avo, sigCells, opCells, pairCells, elT, avt, termCells_eq, go_sem, ↓reduceIte, reduceAdd, reduceSub, reduceMul, reduceLeDiff, reduceLT, reduceEqDiff, reduceNeg, Nat.reduceBEq]; done)))); simp -implicitDefEqProofs (disch := omega) only [List.flatMap_cons, List.flatMap_nil, List.append_nil, List.length_cons, List.length_nil, rep1t, List.flatten_cons, List.flatten_nil, resV, e2, decide_false, eq_self, decide_true, go_sem, ↓reduceIte, reduceAdd, reduceSub, reduceMul, reduceLeDiff, reduceLT, reduceEqDiff, reduceNeg, Nat.reduceBEq]) | refine And.intro (by omega) ?_ | (intro hr; have hc := hr; (try simp only [zda, zdb, zdc, zdd] at hc); simp -implicitDefEqProofs (disch := omega) only [hr, List.flatMap_cons, List.flatMap_nil, List.append_nil, List.length_cons, List.length_nil, rep1t, List.flatten_cons, List.flatten_nil, resV, e2, decide_false, eq_self, decide_true, go_sem, ↓reduceIte, reduceAdd, reduceSub, reduceMul, reduceLeDiff, reduceLT, reduceEqDiff, reduceNeg, Nat.reduceBEq]; (try clear hr))))
         all_goals exact fin_eq rfl rfl
     · rw [h2] at fu
       (repeat' (first | refine gT ?_ ?_ | refine gF ?_ ?_ | refine gC ?_ ?_ | ((first | (refine c_ctrE (ft) ?_ ?_; (focus (simp -implicitDefEqProofs (disch := omega) only [List.flatMap_cons, List.flatMap_nil, List.append_nil, List.length_cons, List.length_nil, rep1t, List.flatten_cons, List.flatten_nil, avs, avb, avi, avo, sigCells, opCells, pairCells, elT, avt, termCells_eq, go_sem, ↓reduceIte, reduceAdd, reduceSub, reduceMul, reduceLeDiff, reduceLT, reduceEqDiff, reduceNeg, Nat.reduceBEq]; done))) | (refine c_ctrE (fu) ?_ ?_; (focus (simp -implicitDefEqProofs (disch := omega) only [List.flatMap_cons, List.flatMap_nil, List.append_nil, List.length_cons, List.length_nil, rep1t, List.flatten_cons, List.flatten_nil, avs, avb, avi, avo, sigCells, opCells, pairCells, elT, avt, termCells_eq, go_sem, ↓reduceIte, reduceAdd, reduceSub, reduceMul, reduceLeDiff, reduceLT, reduceEqDiff, reduceNeg, Nat.reduceBEq]; done))) | (refine c_ctrE (ctr328) ?_ ?_; (focus (simp -implicitDefEqProofs (disch := omega) only [List.flatMap_cons, List.flatMap_nil, List.append_nil, List.length_cons, List.length_nil, rep1t, List.flatten_cons, List.flatten_nil, avs, avb, avi, avo, sigCells, opCells, pairCells, elT, avt, termCells_eq, go_sem, ↓reduceIte, reduceAdd, reduceSub, reduceMul, reduceLeDiff, reduceLT, reduceEqDiff, reduceNeg, Nat.reduceBEq]; done)))); simp -implicitDefEqProofs (disch := omega) only [List.flatMap_cons, List.flatMap_nil, List.append_nil, List.length_cons, List.length_nil, rep1t, List.flatten_cons, List.flatten_nil, go_sem, ↓reduceIte, reduceAdd, reduceSub, reduceMul, reduceLeDiff, reduceLT, reduceEqDiff, reduceNeg, Nat.reduceBEq]) | refine And.intro (by omega) ?_ | (intro hr; have hc := hr; (try simp only [zda, zdb, zdc, zdd] at hc); simp -implicitDefEqProofs (disch := omega) only [hr, List.flatMap_cons, List.flatMap_nil, List.append_nil, List.length_cons, List.length_nil, rep1t, List.flatten_cons, List.flatten_nil, go_sem, ↓reduceIte, reduceAdd, reduceSub, reduceMul, reduceLeDiff, reduceLT, reduceEqDiff, reduceNeg, Nat.reduceBEq]; (try clear hr))))
       all_goals exact fin_eq rfl rfl
   · rw [h1] at ft
     (repeat' (first | refine gT ?_ ?_ | refine gF ?_ ?_ | refine gC ?_ ?_ | ((first | (refine c_ctrE (ft) ?_ ?_; (focus (simp -implicitDefEqProofs (disch := omega) only [List.flatMap_cons, List.flatMap_nil, List.append_nil, List.length_cons, List.length_nil, rep1t, List.flatten_cons, List.flatten_nil, avs, avb, avi, avo, sigCells, opCells, pairCells, elT, avt, termCells_eq, go_sem, ↓reduceIte, reduceAdd, reduceSub, reduceMul, reduceLeDiff, reduceLT, reduceEqDiff, reduceNeg, Nat.reduceBEq]; done))) | (refine c_ctrE (ctr328) ?_ ?_; (focus (simp -implicitDefEqProofs (disch := omega) only [List.flatMap_cons, List.flatMap_nil, List.append_nil, List.length_cons, List.length_nil, rep1t, List.flatten_cons, List.flatten_nil, avs, avb, avi, avo, sigCells, opCells, pairCells, elT, avt, termCells_eq, go_sem, ↓reduceIte, reduceAdd, reduceSub, reduceMul, reduceLeDiff, reduceLT, reduceEqDiff, reduceNeg, Nat.reduceBEq]; done)))); simp -implicitDefEqProofs (disch := omega) only [List.flatMap_cons, List.flatMap_nil, List.append_nil, List.length_cons, List.length_nil, rep1t, List.flatten_cons, List.flatten_nil, go_sem, ↓reduceIte, reduceAdd, reduceSub, reduceMul, reduceLeDiff, reduceLT, reduceEqDiff, reduceNeg, Nat.reduceBEq]) | refine And.intro (by omega) ?_ | (intro hr; have hc := hr; (try simp only [zda, zdb, zdc, zdd] at hc); simp -implicitDefEqProofs (disch := omega) only [hr, List.flatMap_cons, List.flatMap_nil, List.append_nil, List.length_cons, List.length_nil, rep1t, List.flatten_cons, List.flatten_nil, go_sem, ↓reduceIte, reduceAdd, reduceSub, reduceMul, reduceLeDiff, reduceLT, reduceEqDiff, reduceNeg, Nat.reduceBEq]; (try clear hr))))
     all_goals exact fin_eq rfl rfl
end Go.Proofs.YtnjnjdebgkjfhaaGreatDoor

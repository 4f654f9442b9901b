/-
  What functions of the chapter return, as plain functions of what they are given; no condition beyond those that each theorem names.
-/
import Derived.Test.YtnjnjdebgkjfhaaGreatDoorTeP54
import Derived.Test.YtnjnjdebgkjfhaaGreatDoorSoP54
set_option maxRecDepth 100000
set_option linter.unusedSimpArgs false
set_option linter.unusedVariables false
set_option maxHeartbeats 4000000
namespace Go.Proofs.YtnjnjdebgkjfhaaGreatDoor
open Go Go.Vo
open Nat (reduceAdd reduceSub reduceMul reduceLeDiff reduceLT reduceEqDiff)
open Int (reduceNeg)

mutual
def partsT : LTerm → Int → Int → Int
 | .mk k n t s ks rs, left, deep =>
   if left - (1 + Int.tdiv (t.length + s.length) 50) < 0 then -1 else
   (if deep + 1 > 80 then -1 else partsL rs (if deep + 1 > 80 then -1 else partsL ks (left - (1 + Int.tdiv (t.length + s.length) 50)) (deep + 1)) (deep + 1))
def partsL : List LTerm → Int → Int → Int
 | [], left, deep => left
 | t :: l, left, deep => if partsT t left deep < 0 then -1 else partsL l (partsT t left deep) deep
end
def partsB (l : List LTerm) (left deep : Int) : Int := if deep > 80 then -1 else partsL l left deep
theorem partsT_eq (t : LTerm) (left deep : Int) : partsT t left deep = if left - (1 + Int.tdiv (t.text.length + t.sort.length) 50) < 0 then -1 else partsB t.rest (partsB t.kids (left - (1 + Int.tdiv (t.text.length + t.sort.length) 50)) (deep + 1)) (deep + 1) := by
 cases t; rw [partsT]; rfl
theorem partsL_at {l : List LTerm} {k : Nat} {d m : Int} (h : k < l.length) : partsL (l.drop k) m d = if partsT (l.getD k default) m d < 0 then -1 else partsL (l.drop (k + 1)) (partsT (l.getD k default) m d) d := by
 rw [List.drop_eq_getElem_cons h, partsL]; simp [List.getD, h]
theorem i50 : ((50 : Int) = 0) = False := by decide
theorem tdiv50 (a : Nat) : 0 ≤ Int.tdiv (a : Int) 50 ∧ Int.tdiv (a : Int) 50 ≤ a := by
 rw [Int.tdiv_eq_ediv_of_nonneg (by omega)]; omega
mutual
theorem partsT_le : ∀ (t : LTerm) (m d : Int), -1 ≤ m → -1 ≤ partsT t m d ∧ partsT t m d ≤ m
 | .mk k n t s ks rs, m, d, hm => by
   have h := tdiv50 (t.length + s.length)
   rw [Int.natCast_add] at h
   rw [partsT]
   split
   · omega
   · split
     · omega
     · have h1 := partsL_le ks (m - (1 + Int.tdiv (t.length + s.length) 50)) (d + 1) (by omega)
       have h2 := partsL_le rs (partsL ks (m - (1 + Int.tdiv (t.length + s.length) 50)) (d + 1)) (d + 1) h1.1
       omega
theorem partsL_le : ∀ (l : List LTerm) (m d : Int), -1 ≤ m → -1 ≤ partsL l m d ∧ partsL l m d ≤ m
 | [], m, d, hm => by rw [partsL]; omega
 | t :: l, m, d, hm => by
   have h1 := partsT_le t m d hm
   have h2 := partsL_le l (partsT t m d) d h1.1
   rw [partsL]
   split <;> omega
end
theorem partsB_le (l : List LTerm) {m d : Int} (hm : -1 ≤ m) : -1 ≤ partsB l m d ∧ partsB l m d ≤ m := by
 rw [partsB]; split
 · omega
 · exact partsL_le l m d hm
theorem ctr240_1 (l : List LTerm) (m d : Int) (hl : l.length ≤ 1466015503701) (ho : ∀ t ∈ l, OkT t) (hm0 : -1 ≤ m) (hm : m ≤ 1000000) (hd0 : 0 ≤ d) (hd : d ≤ 100) (ihk : ∀ t ∈ l, ∀ (m d : Int), -1 ≤ m → m ≤ 1000000 → 0 ≤ d → d ≤ 100 → CT 88 [avt t.kids, .i .i64 m, .i .i64 d] (.i .i64 (partsB t.kids m d))) (ihr : ∀ t ∈ l, ∀ (m d : Int), -1 ≤ m → m ≤ 1000000 → 0 ≤ d → d ≤ 100 → CT 88 [avt t.rest, .i .i64 m, .i .i64 d] (.i .i64 (partsB t.rest m d))): CT 88 [avt l, .i .i64 m, .i .i64 d] (.i .i64 (partsB l m d)) := by
 refine sem_intro (rx := false) (th := fun _ => none) mixed Tryz.func88 rfl (by kernel_rfl) (by kernel_rfl) (ac := ?_) ?_ g0 ?_
 rotate_left
 · simp only [strip, splitQ, stripOps, stripOp, hoist, List.filter_cons, List.filter_nil, List.nil_append, List.cons_append, isFree, anyPre, Region.binds, Bool.not_true, Bool.not_false, Bool.false_eq_true, if_true, if_false, Option.isNone_none, Option.isNone_some, Bool.true_and, Bool.false_and, List.map_nil, List.map_cons, List.isEmpty_nil, List.isEmpty_cons, List.append_nil]
   rfl
 · simp -implicitDefEqProofs (disch := omega) only [Tryz.f88, go_sem, List.replicate, ↓reduceIte, reduceAdd, reduceSub, reduceMul, reduceLeDiff, reduceLT, reduceEqDiff, reduceNeg, Nat.reduceBEq, avt]
   (repeat' (first | refine gT ?_ ?_ | refine gF ?_ ?_ | refine gC ?_ ?_ | refine And.intro (by omega) ?_ | (intro hr; have hc := hr; (try simp only [zda, zdb, zdc, zdd] at hc); simp -implicitDefEqProofs (disch := omega) only [hr, go_sem, ↓reduceIte, reduceAdd, reduceSub, reduceMul, reduceLeDiff, reduceLT, reduceEqDiff, reduceNeg, Nat.reduceBEq]; (try clear hr))))
   · exact fin_eq (by rw [partsB, if_pos (by omega)]) rfl
   rw [partsB, if_neg (by omega)]
   refine x_loopG (fun (s : Nat × Int) => [.k, .v (.i .i64 s.2), .k, .k, .k, .k, .j, .k, .j, .k, .k, .k, .k, .v (.i .i64 (s.1 : Nat)), .j, .j, .j, .j, .j, .j, .j, .j, .j, .j, .j, .j, .j, .j, .j, .j, .j, .j, .j, .j, .j, .j, .j, .j, .j, .j, .j, .j, .j, .j, .j, .k]) (fun s => []) (fun s => s.1 ≤ l.length ∧ -1 ≤ s.2 ∧ s.2 ≤ 1000000 ∧ partsL l m d = partsL (l.drop s.1) s.2 d) (fun s => l.length - s.1) ((0, m)) _ ⟨Nat.zero_le _, hm0, hm, rfl⟩ rfl (by simp [Fits]) ?_
   rintro ⟨k, m2⟩ g j ⟨hk, h20, h2, he⟩
   dsimp only at hk h20 h2 he
   simp -implicitDefEqProofs (disch := omega) only [go_sem, ↓reduceIte, reduceAdd, reduceSub, reduceMul, reduceLeDiff, reduceLT, reduceEqDiff, reduceNeg, Nat.reduceBEq]
   (repeat' (first | refine gT ?_ ?_ | refine gF ?_ ?_ | refine gC ?_ ?_ | refine And.intro (by omega) ?_ | (intro hr; have hc := hr; (try simp only [zda, zdb, zdc, zdd] at hc); simp -implicitDefEqProofs (disch := omega) only [hr, go_sem, ↓reduceIte, reduceAdd, reduceSub, reduceMul, reduceLeDiff, reduceLT, reduceEqDiff, reduceNeg, Nat.reduceBEq]; (try clear hr))))
   · have hlt : k < l.length := by omega
     have ot := ho _ (mem_getD (d := default) hlt)
     have b1 := ot.text
     have b2 := ot.sort
     have b3 := tdiv50 ((l.getD k default).text.length + (l.getD k default).sort.length)
     rw [Int.natCast_add] at b3
     rw [partsL_at hlt, partsT_eq] at he
     obtain ⟨q, hq⟩ : ∃ q, q = m2 - (1 + Int.tdiv ((l.getD k default).text.length + (l.getD k default).sort.length) 50) := ⟨_, rfl⟩
     rw [← hq] at he
     simp -implicitDefEqProofs (disch := omega) only [i50, ← hq, go_sem, ↓reduceIte, reduceAdd, reduceSub, reduceMul, reduceLeDiff, reduceLT, reduceEqDiff, reduceNeg, Nat.reduceBEq]
     (repeat' (first | refine gT ?_ ?_ | refine gF ?_ ?_ | refine gC ?_ ?_ | refine And.intro (by omega) ?_ | (intro hr; have hc := hr; (try simp only [zda, zdb, zdc, zdd] at hc); simp -implicitDefEqProofs (disch := omega) only [hr, go_sem, ↓reduceIte, reduceAdd, reduceSub, reduceMul, reduceLeDiff, reduceLT, reduceEqDiff, reduceNeg, Nat.reduceBEq]; (try clear hr))))
     · exact fin_eq (by rw [he, if_pos hc]; rfl) rfl
     have b4 := partsB_le (l.getD k default).kids (m := q) (d := d + 1) (by omega)
     have b5 := partsB_le (l.getD k default).rest (m := partsB (l.getD k default).kids q (d + 1)) (d := d + 1) b4.1
     have c1 := ihk _ (mem_getD (d := default) hlt) q (d + 1) (by omega) (by omega) (by omega) (by omega)
     have c2 := ihr _ (mem_getD (d := default) hlt) (partsB (l.getD k default).kids q (d + 1)) (d + 1) (by omega) (by omega) (by omega) (by omega)
     rw [if_neg (by omega : ¬ q < 0)] at he
     (repeat' (first | refine gT ?_ ?_ | refine gF ?_ ?_ | refine gC ?_ ?_ | ((first | (refine c_ctrE (c1) ?_ ?_; (focus (simp -implicitDefEqProofs (disch := omega) only [avs, avb, avi, avo, sigCells, opCells, pairCells, elT, avt, termCells_eq, go_sem, ↓reduceIte, reduceAdd, reduceSub, reduceMul, reduceLeDiff, reduceLT, reduceEqDiff, reduceNeg, Nat.reduceBEq]; done))) | (refine c_ctrE (c2) ?_ ?_; (focus (simp -implicitDefEqProofs (disch := omega) only [avs, avb, avi, avo, sigCells, opCells, pairCells, elT, avt, termCells_eq, go_sem, ↓reduceIte, reduceAdd, reduceSub, reduceMul, reduceLeDiff, reduceLT, reduceEqDiff, reduceNeg, Nat.reduceBEq]; done)))); simp -implicitDefEqProofs (disch := omega) only [go_sem, ↓reduceIte, reduceAdd, reduceSub, reduceMul, reduceLeDiff, reduceLT, reduceEqDiff, reduceNeg, Nat.reduceBEq]) | refine And.intro (by omega) ?_ | (intro hr; have hc := hr; (try simp only [zda, zdb, zdc, zdd] at hc); simp -implicitDefEqProofs (disch := omega) only [hr, go_sem, ↓reduceIte, reduceAdd, reduceSub, reduceMul, reduceLeDiff, reduceLT, reduceEqDiff, reduceNeg, Nat.reduceBEq]; (try clear hr))))
     · exact fin_eq (by rw [he, if_pos hc]) rfl
     · rw [if_neg hc] at he
       exact ⟨(k + 1, partsB (l.getD k default).rest (partsB (l.getD k default).kids q (d + 1)) (d + 1)), _, ⟨by dsimp only; omega, b5.1, by dsimp only; omega, he⟩, by dsimp only; omega, rfl, rfl, by simp⟩
   · rw [List.drop_of_length_le (by omega), partsL] at he
     exact fin_eq (by rw [he]) rfl
theorem ctr240_t : ∀ (t : LTerm), OkT t → (∀ (m d : Int), -1 ≤ m → m ≤ 1000000 → 0 ≤ d → d ≤ 100 → CT 88 [avt t.kids, .i .i64 m, .i .i64 d] (.i .i64 (partsB t.kids m d))) ∧ (∀ (m d : Int), -1 ≤ m → m ≤ 1000000 → 0 ≤ d → d ≤ 100 → CT 88 [avt t.rest, .i .i64 m, .i .i64 d] (.i .i64 (partsB t.rest m d))) :=
 term_ind fun t hk hr ht => ⟨fun m d h1 h2 h3 h4 => ctr240_1 t.kids m d ht.kids ht.kid h1 h2 h3 h4 (fun u hu => (hk u hu (ht.kid u hu)).1) (fun u hu => (hk u hu (ht.kid u hu)).2), fun m d h1 h2 h3 h4 => ctr240_1 t.rest m d ht.rest ht.rst h1 h2 h3 h4 (fun u hu => (hr u hu (ht.rst u hu)).1) (fun u hu => (hr u hu (ht.rst u hu)).2)⟩
theorem ctr240 (l : List LTerm) (m d : Int) (hl : l.length ≤ 1466015503701) (ho : ∀ t ∈ l, OkT t) (h1 : -1 ≤ m) (h2 : m ≤ 1000000) (h3 : 0 ≤ d) (h4 : d ≤ 100) : CT 88 [avt l, .i .i64 m, .i .i64 d] (.i .i64 (partsB l m d)) :=
 ctr240_1 l m d hl ho h1 h2 h3 h4 (fun u hu => (ctr240_t u (ho u hu)).1) (fun u hu => (ctr240_t u (ho u hu)).2)
def fewP (most : Int) (l : List LTerm) : Bool := decide (0 ≤ partsB l most 0)
theorem ctr227 (m : Int) (l : List LTerm) (hl : l.length ≤ 1466015503701) (ho : ∀ t ∈ l, OkT t) (h1 : 0 ≤ m) (h2 : m ≤ 1000000): CT 48 [.i .i64 m, avt l] (.b (fewP m l)) := by
 refine sem_intro (rx := false) (th := fun _ => none) mixed Tryz.func48 rfl (by kernel_rfl) (by kernel_rfl) (ac := ?_) ?_ g0 ?_
 rotate_left
 · simp only [strip, splitQ, stripOps, stripOp, hoist, List.filter_cons, List.filter_nil, List.nil_append, List.cons_append, isFree, anyPre, Region.binds, Bool.not_true, Bool.not_false, Bool.false_eq_true, if_true, if_false, Option.isNone_none, Option.isNone_some, Bool.true_and, Bool.false_and, List.map_nil, List.map_cons, List.isEmpty_nil, List.isEmpty_cons, List.append_nil]
   rfl
 · simp -implicitDefEqProofs (disch := omega) only [Tryz.f48, go_sem, List.replicate, ↓reduceIte, reduceAdd, reduceSub, reduceMul, reduceLeDiff, reduceLT, reduceEqDiff, reduceNeg, Nat.reduceBEq, avt]
   (repeat' (first | refine gT ?_ ?_ | refine gF ?_ ?_ | refine gC ?_ ?_ | ((refine c_ctrE (ctr240 l m 0 hl ho (by omega) h2 (by decide) (by decide)) ?_ ?_; (focus (simp -implicitDefEqProofs (disch := omega) only [avs, avb, avi, avo, sigCells, opCells, pairCells, elT, avt, termCells_eq, go_sem, ↓reduceIte, reduceAdd, reduceSub, reduceMul, reduceLeDiff, reduceLT, reduceEqDiff, reduceNeg, Nat.reduceBEq]; done))); simp -implicitDefEqProofs (disch := omega) only [go_sem, ↓reduceIte, reduceAdd, reduceSub, reduceMul, reduceLeDiff, reduceLT, reduceEqDiff, reduceNeg, Nat.reduceBEq]) | refine And.intro (by omega) ?_ | (intro hr; have hc := hr; (try simp only [zda, zdb, zdc, zdd] at hc); simp -implicitDefEqProofs (disch := omega) only [hr, go_sem, ↓reduceIte, reduceAdd, reduceSub, reduceMul, reduceLeDiff, reduceLT, reduceEqDiff, reduceNeg, Nat.reduceBEq]; (try clear hr))))
   all_goals exact fin_eq rfl rfl
end Go.Proofs.YtnjnjdebgkjfhaaGreatDoor

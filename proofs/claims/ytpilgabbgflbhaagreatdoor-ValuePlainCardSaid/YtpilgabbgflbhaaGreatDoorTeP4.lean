/-
  What functions of the chapter return, as plain functions of what they are given; no condition beyond those that each theorem names.
-/
import Derived.Test.YtpilgabbgflbhaaGreatDoorTeP3
import Derived.Test.YtpilgabbgflbhaaGreatDoorTeP2
set_option maxRecDepth 100000
set_option linter.unusedSimpArgs false
set_option linter.unusedVariables false
set_option maxHeartbeats 4000000
namespace Go.Proofs.YtpilgabbgflbhaaGreatDoor
open Go Go.Vo
open Nat (reduceAdd reduceSub reduceMul reduceLeDiff reduceLT reduceEqDiff)
open Int (reduceNeg)

theorem cmpN_zero {a b : Int} : cmpN a b = 0 ↔ a = b := by
 rw [cmpN]; split
 · omega
 · split <;> omega
theorem cmpT_zero {a b : Str} : cmpT a b = 0 ↔ a = b := by
 constructor
 · intro h
   by_cases h1 : a < b
   · rw [cmpT_lt h1] at h; cases h
   · by_cases h2 : a = b
     · exact h2
     · rw [cmpT_gt h1 h2] at h; cases h
 · exact cmpT_eq
structure ZN (t : LTerm) : Prop where
 a : t.kind = 1 ∨ t.kind = 2 → t.text = [] ∧ t.sort = [] ∧ t.kids = [] ∧ t.rest = []
 b : t.kind = 3 ∨ t.kind = 4 → t.n = 0 ∧ t.sort = [] ∧ t.kids = [] ∧ t.rest = []
 c : t.kind = 5 → t.n = 0 ∧ t.sort = [] ∧ t.rest = []
 d : t.kind = 6 → t.n = 0 ∧ t.kids = [] ∧ t.rest = []
 e : t.kind = 7 ∨ t.kind = 8 → t.n = 0 ∧ t.text = [] ∧ t.sort = []
 f : 1 ≤ t.kind ∧ t.kind ≤ 8
theorem zeroB_n {t : LTerm} {a b c d e : Bool} (h : zeroB t a b c d e = true) : (a = false → t.n = 0) ∧ (b = false → t.text = []) ∧ (c = false → t.sort = []) ∧ (d = false → t.kids = []) ∧ (e = false → t.rest = []) := by
 simp only [zeroB, Bool.and_eq_true, Bool.or_eq_true, decide_eq_true_eq] at h
 obtain ⟨⟨⟨⟨h1, h2⟩, h3⟩, h4⟩, h5⟩ := h
 exact ⟨fun h => h1.resolve_left (by simp [h]), fun h => h2.resolve_left (by simp [h]), fun h => h3.resolve_left (by simp [h]), fun h => h4.resolve_left (by simp [h]), fun h => h5.resolve_left (by simp [h])⟩
theorem node_zn {t : LTerm} (h : nodeB t = true) : ZN t := by
 have two : ∀ {x y : Bool}, (x && y) = true → x = true ∧ y = true := by simp
 unfold nodeB at h
 split at h
 · have z := zeroB_n (two h).2
   exact ⟨fun _ => ⟨z.2.1 rfl, z.2.2.1 rfl, z.2.2.2.1 rfl, z.2.2.2.2 rfl⟩, fun _ => by omega, fun _ => by omega, fun _ => by omega, fun _ => by omega, by omega⟩
 split at h
 · have z := zeroB_n (two h).2
   exact ⟨fun _ => ⟨z.2.1 rfl, z.2.2.1 rfl, z.2.2.2.1 rfl, z.2.2.2.2 rfl⟩, fun _ => by omega, fun _ => by omega, fun _ => by omega, fun _ => by omega, by omega⟩
 split at h
 · have z := zeroB_n (two h).2
   exact ⟨fun _ => by omega, fun _ => ⟨z.1 rfl, z.2.2.1 rfl, z.2.2.2.1 rfl, z.2.2.2.2 rfl⟩, fun _ => by omega, fun _ => by omega, fun _ => by omega, by omega⟩
 split at h
 · have z := zeroB_n (two h).2
   exact ⟨fun _ => by omega, fun _ => ⟨z.1 rfl, z.2.2.1 rfl, z.2.2.2.1 rfl, z.2.2.2.2 rfl⟩, fun _ => by omega, fun _ => by omega, fun _ => by omega, by omega⟩
 split at h
 · have z := zeroB_n (two h).2
   exact ⟨fun _ => by omega, fun _ => by omega, fun _ => ⟨z.1 rfl, z.2.2.1 rfl, z.2.2.2.2 rfl⟩, fun _ => by omega, fun _ => by omega, by omega⟩
 split at h
 · have z : zeroB t false true true false false = true := by
     split at h
     · exact (two h).2
     · exact (two h).2
   have z := zeroB_n z
   exact ⟨fun _ => by omega, fun _ => by omega, fun _ => by omega, fun _ => ⟨z.1 rfl, z.2.2.2.1 rfl, z.2.2.2.2 rfl⟩, fun _ => by omega, by omega⟩
 split at h
 · have z := zeroB_n (two h).2
   exact ⟨fun _ => by omega, fun _ => by omega, fun _ => by omega, fun _ => by omega, fun _ => ⟨z.1 rfl, z.2.1 rfl, z.2.2.1 rfl⟩, by omega⟩
 split at h
 · have z := zeroB_n (two h).2
   exact ⟨fun _ => by omega, fun _ => by omega, fun _ => by omega, fun _ => by omega, fun _ => ⟨z.1 rfl, z.2.1 rfl, z.2.2.1 rfl⟩, by omega⟩
 · cases h
theorem rest_zn {t : LTerm} {so : Str} (h : restB t so = true) : ∀ r ∈ t.rest, ZN r ∧ r.kids = [] ∧ r.rest = [] := by
 intro r hr
 simp only [restB, Bool.or_eq_true, Bool.and_eq_true, decide_eq_true_eq] at h
 rcases h with h | ⟨⟨⟨⟨h1, h2⟩, h3⟩, h4⟩, h5⟩
 · rw [List.length_eq_zero_iff] at h; rw [h] at hr; cases hr
 · obtain ⟨x, hx⟩ := List.length_eq_one_iff.1 h1
   rw [hx] at hr h2 h5
   simp only [List.mem_singleton] at hr
   subst hr
   simp only [List.getD_cons_zero] at h2 h5
   have z := zeroB_n h5
   exact ⟨⟨fun _ => by omega, fun _ => by omega, fun _ => by omega, fun _ => ⟨z.1 rfl, z.2.2.2.1 rfl, z.2.2.2.2 rfl⟩, fun _ => by omega, by omega⟩, z.2.2.2.1 rfl, z.2.2.2.2 rfl⟩
theorem node_rest {t : LTerm} (h : nodeB t = true) : ∀ r ∈ t.rest, ZN r ∧ r.kids = [] ∧ r.rest = [] := by
 have two : ∀ {x y : Bool}, (x && y) = true → x = true ∧ y = true := by simp
 have z := node_zn h
 intro r hr
 have hne : t.rest ≠ [] := fun e => by rw [e] at hr; cases hr
 have h7 : t.kind = 7 ∨ t.kind = 8 := by
   rcases z.f with ⟨f1, f2⟩
   by_cases h1 : t.kind = 1 ∨ t.kind = 2
   · exact absurd (z.a h1).2.2.2 hne
   by_cases h3 : t.kind = 3 ∨ t.kind = 4
   · exact absurd (z.b h3).2.2.2 hne
   by_cases h5 : t.kind = 5
   · exact absurd (z.c h5).2.2 hne
   by_cases h6 : t.kind = 6
   · exact absurd (z.d h6).2.2 hne
   omega
 unfold nodeB at h
 rw [if_neg (by omega), if_neg (by omega), if_neg (by omega), if_neg (by omega), if_neg (by omega), if_neg (by omega)] at h
 split at h
 · exact rest_zn (two h).1 r hr
 · split at h
   · exact rest_zn (two (two h).1).1 r hr
   · cases h
inductive ZT : LTerm → Prop
 | mk {t : LTerm} : ZN t → (∀ k ∈ t.kids, ZT k) → (∀ k ∈ t.rest, ZT k) → ZT t
theorem wfT_eq {p : LTerm → Bool} {t : LTerm} : wfT p t = true ↔ p t = true ∧ ∀ k ∈ t.kids, wfT p k = true := by
 have hl : ∀ l : List LTerm, wfL p l = true ↔ ∀ k ∈ l, wfT p k = true := by
   intro l
   induction l with
   | nil => simp [wfL]
   | cons a l ih => simp [wfL, ih]
 cases t
 rw [wfT, Bool.and_eq_true, hl]; rfl
theorem wf_zt : ∀ t : LTerm, wfT nodeB t = true → ZT t :=
 term_ind fun t hk _ h => by
   rw [wfT_eq] at h
   refine .mk (node_zn h.1) (fun k hm => hk k hm (h.2 k hm)) (fun r hr => ?_)
   have z := node_rest h.1 r hr
   exact .mk z.1 (fun k hm => by rw [z.2.1] at hm; cases hm) (fun k hm => by rw [z.2.2] at hm; cases hm)
theorem cmpN_refl (a : Int) : cmpN a a = 0 := cmpN_eq rfl
theorem cmpT_refl (a : Str) : cmpT a a = 0 := cmpT_eq rfl
theorem ordPL_nil : ordPL [] [] = 0 := by rw [ordPL]
theorem ordL_eq : ∀ (l m : List LTerm), (∀ a ∈ l, ∀ b ∈ m, ordR a b = ordP a b) → ordRL l m = ordPL l m
 | [], [], _ => by rw [ordRL, ordPL]
 | [], _ :: _, _ => by rw [ordRL, ordPL]
 | _ :: _, [], _ => by rw [ordRL, ordPL]
 | a :: l, b :: m, h => by
   rw [ordRL, ordPL, h a (by simp) b (by simp), ordL_eq l m (fun x hx y hy => h x (by simp [hx]) y (by simp [hy]))]
theorem ord_eq : ∀ (a : LTerm), ZT a → ∀ b, ZT b → ordR a b = ordP a b :=
 term_ind (Q := fun a => ZT a → ∀ b, ZT b → ordR a b = ordP a b) fun a hk hr ha b hb => by
   obtain ⟨za, ka, ra⟩ := ha
   obtain ⟨zb, kb, rb⟩ := hb
   have e1 : ordRL a.kids b.kids = ordPL a.kids b.kids := ordL_eq _ _ (fun x hx y hy => hk x hx (ka x hx) y (kb y hy))
   have e2 : ordRL a.rest b.rest = ordPL a.rest b.rest := ordL_eq _ _ (fun x hx y hy => hr x hx (ra x hx) y (rb y hy))
   rw [ordR_eq, ordP_eq, e1, e2]
   by_cases h0 : cmpN a.kind b.kind = 0
   · rw [if_pos h0, if_pos h0]
     have h0 := cmpN_zero.1 h0
     by_cases h1 : a.kind = 1 ∨ a.kind = 2
     · obtain ⟨x1, x2, x3, x4⟩ := za.a h1
       obtain ⟨y1, y2, y3, y4⟩ := zb.a (by omega)
       rw [if_pos h1, x1, x2, x3, x4, y1, y2, y3, y4, cmpT_refl, ordPL_nil]
       simp only [if_true]
       split
       · assumption
       · rfl
     rw [if_neg h1]
     by_cases h3 : a.kind = 3 ∨ a.kind = 4
     · obtain ⟨x1, x2, x3, x4⟩ := za.b h3
       obtain ⟨y1, y2, y3, y4⟩ := zb.b (by omega)
       rw [if_pos h3, x1, x2, x3, x4, y1, y2, y3, y4, cmpT_refl, cmpN_refl, ordPL_nil]
       simp only [if_true]
       split
       · assumption
       · rfl
     rw [if_neg h3]
     by_cases h6 : a.kind = 6
     · obtain ⟨x1, x3, x4⟩ := za.d h6
       obtain ⟨y1, y3, y4⟩ := zb.d (by omega)
       rw [if_pos h6, x1, x3, x4, y1, y3, y4, cmpN_refl, ordPL_nil]
       simp only [if_true]
       split
       · split
         · assumption
         · rfl
       · rfl
     rw [if_neg h6]
     by_cases h5 : a.kind = 5
     · obtain ⟨x1, x3, x4⟩ := za.c h5
       obtain ⟨y1, y3, y4⟩ := zb.c (by omega)
       rw [if_pos h5, x1, x3, x4, y1, y3, y4, cmpN_refl, cmpT_refl, ordPL_nil]
       simp only [if_true]
       split
       · split
         · assumption
         · rfl
       · rfl
     rw [if_neg h5]
     have f := za.f
     obtain ⟨x1, x3, x4⟩ := za.e (by omega)
     obtain ⟨y1, y3, y4⟩ := zb.e (by omega)
     rw [x1, x3, x4, y1, y3, y4, cmpN_refl, cmpT_refl]
     simp only [if_true]
   · rw [if_neg h0, if_neg h0]
def lex (a b : Int) : Int := if a = 0 then b else a
theorem ordP_lex (a b : LTerm) : ordP a b = lex (cmpN a.kind b.kind) (lex (cmpN a.n b.n) (lex (cmpT a.text b.text) (lex (cmpT a.sort b.sort) (lex (ordPL a.kids b.kids) (ordPL a.rest b.rest))))) := ordP_eq a b
theorem lex_zero {a b : Int} : lex a b = 0 ↔ a = 0 ∧ b = 0 := by rw [lex]; split <;> simp [*]
theorem lex_neg {a b : Int} : lex (-a) (-b) = - lex a b := by simp only [lex]; split <;> split <;> omega
theorem cmpN_anti (a b : Int) : cmpN b a = - cmpN a b := by simp only [cmpN]; split <;> split <;> (try split) <;> omega
theorem cmpT_anti (a b : Str) : cmpT b a = - cmpT a b := by
 by_cases h1 : a < b
 · rw [cmpT_lt h1, cmpT_gt (fun h => List.lt_irrefl _ (List.lt_trans h1 h)) (fun h => by subst h; exact List.lt_irrefl _ h1)]; rfl
 · by_cases h2 : a = b
   · subst h2; rw [cmpT_refl]; rfl
   · rw [cmpT_gt h1 h2, cmpT_lt (gt_of_not h1 h2)]
theorem ordL_zero : ∀ (l m : List LTerm), (∀ a ∈ l, ∀ b, ordP a b = 0 ↔ a = b) → (ordPL l m = 0 ↔ l = m)
 | [], [], _ => by simp [ordPL]
 | [], _ :: _, _ => by simp [ordPL]
 | _ :: _, [], _ => by simp [ordPL]
 | a :: l, b :: m, h => by
   have e := lex_zero (a := ordP a b) (b := ordPL l m)
   rw [ordPL, List.cons.injEq, ← h a (by simp) b, ← ordL_zero l m (fun x hx y => h x (by simp [hx]) y)]
   exact e
theorem ord_zero : ∀ (a b : LTerm), ordP a b = 0 ↔ a = b :=
 term_ind (Q := fun a => ∀ b, ordP a b = 0 ↔ a = b) fun a hk hr b => by
   rw [ordP_lex, lex_zero, lex_zero, lex_zero, lex_zero, lex_zero, cmpN_zero, cmpN_zero, cmpT_zero, cmpT_zero, ordL_zero _ _ hk, ordL_zero _ _ hr, LTerm.ext_iff]
theorem ordL_anti : ∀ (l m : List LTerm), (∀ a ∈ l, ∀ b, ordP b a = - ordP a b) → ordPL m l = - ordPL l m
 | [], [], _ => by simp [ordPL]
 | [], _ :: _, _ => by simp [ordPL]
 | _ :: _, [], _ => by simp [ordPL]
 | a :: l, b :: m, h => by
   have e := lex_neg (a := ordP a b) (b := ordPL l m)
   rw [ordPL, ordPL, h a (by simp) b, ordL_anti l m (fun x hx y => h x (by simp [hx]) y)]
   exact e
theorem ord_anti : ∀ (a b : LTerm), ordP b a = - ordP a b :=
 term_ind (Q := fun a => ∀ b, ordP b a = - ordP a b) fun a hk hr b => by
   rw [ordP_lex, ordP_lex, cmpN_anti a.kind, cmpN_anti a.n, cmpT_anti a.text, cmpT_anti a.sort, ordL_anti _ _ hk, ordL_anti _ _ hr]
   simp only [lex_neg]
def Tri (x y z : Int) : Prop := (x < 0 → y ≤ 0 → z < 0) ∧ (x ≤ 0 → y < 0 → z < 0) ∧ (x = 0 → y = 0 → z = 0)
theorem tri_lex {x y z x' y' z' : Int} (h : Tri x y z) (h' : Tri x' y' z') : Tri (lex x x') (lex y y') (lex z z') := by
 obtain ⟨a, b, c⟩ := h
 obtain ⟨a', b', c'⟩ := h'
 simp only [lex, Tri]
 refine ⟨fun h1 h2 => ?_, fun h1 h2 => ?_, fun h1 h2 => ?_⟩ <;> split at h1 <;> split at h2 <;> split <;> omega
theorem tri_N (a b c : Int) : Tri (cmpN a b) (cmpN b c) (cmpN a c) := by
 simp only [Tri, cmpN]
 refine ⟨fun h1 h2 => ?_, fun h1 h2 => ?_, fun h1 h2 => ?_⟩ <;> split at h1 <;> split at h2 <;> (try split at h1) <;> (try split at h2) <;> (try split) <;> (try split) <;> omega
theorem cmpT_neg {a b : Str} : cmpT a b < 0 ↔ a < b := by
 by_cases h1 : a < b
 · rw [cmpT_lt h1]; simp [h1]
 · by_cases h2 : a = b
   · subst h2; rw [cmpT_refl]; simp [h1]
   · rw [cmpT_gt h1 h2]; simp [h1]
theorem tri_T (a b c : Str) : Tri (cmpT a b) (cmpT b c) (cmpT a c) := by
 have le : ∀ {x y : Str}, cmpT x y ≤ 0 → x < y ∨ x = y := fun {x y} h => by
   rcases Int.lt_or_eq_of_le h with h | h
   · exact .inl (cmpT_neg.1 h)
   · exact .inr (cmpT_zero.1 h)
 refine ⟨fun h1 h2 => ?_, fun h1 h2 => ?_, fun h1 h2 => ?_⟩
 · rw [cmpT_neg] at h1 ⊢
   rcases le h2 with h | h
   · exact List.lt_trans h1 h
   · exact h ▸ h1
 · rw [cmpT_neg] at h2 ⊢
   rcases le h1 with h | h
   · exact List.lt_trans h h2
   · exact h ▸ h2
 · rw [cmpT_zero] at *; rw [h1, h2]
theorem ordL_tri : ∀ (l m r : List LTerm), (∀ a ∈ l, ∀ b c, Tri (ordP a b) (ordP b c) (ordP a c)) → Tri (ordPL l m) (ordPL m r) (ordPL l r)
 | [], [], [], _ => by simp [ordPL, Tri]
 | [], [], _ :: _, _ => by simp [ordPL, Tri]
 | [], _ :: _, [], _ => by simp [ordPL, Tri]
 | [], _ :: _, _ :: _, _ => by simp [ordPL, Tri]
 | _ :: _, [], [], _ => by simp [ordPL, Tri]
 | _ :: _, [], _ :: _, _ => by simp [ordPL, Tri]
 | a :: l, b :: m, [], _ => by rw [ordPL, ordPL, ordPL]; refine ⟨fun _ h => ?_, fun _ h => ?_, fun _ h => ?_⟩ <;> revert h <;> decide
 | a :: l, b :: m, c :: r, h => by
   have e := tri_lex (h a (by simp) b c) (ordL_tri l m r (fun x hx => h x (by simp [hx])))
   rw [ordPL, ordPL, ordPL]
   exact e
theorem ord_tri : ∀ (a b c : LTerm), Tri (ordP a b) (ordP b c) (ordP a c) :=
 term_ind (Q := fun a => ∀ b c, Tri (ordP a b) (ordP b c) (ordP a c)) fun a hk hr b c => by
   rw [ordP_lex, ordP_lex, ordP_lex]
   exact tri_lex (tri_N _ _ _) (tri_lex (tri_N _ _ _) (tri_lex (tri_T _ _ _) (tri_lex (tri_T _ _ _) (tri_lex (ordL_tri _ _ _ hk) (ordL_tri _ _ _ hr)))))
theorem ord_trans {a b c : LTerm} (h1 : ordP a b < 0) (h2 : ordP b c < 0) : ordP a c < 0 := (ord_tri a b c).1 h1 (by omega)

def plainV (s : LSig) (t : LTerm) : Bool := validT nodeB t && plainP s t
theorem ctr231 (s : LSig) (t : LTerm) (hs : Small s) (ht : OkT t): CT 37 [bookAV s, elT t] (.b (plainV s t)) := by
 refine sem_introB mixed Tryz.func37 g0 ?_
 · skip
   (repeat' (first | refine gT ?_ ?_ | refine gF ?_ ?_ | refine gC ?_ ?_ | ((first | (refine c_ctrE (ctr242 t ht) ?_ ?_; (focus (simp -implicitDefEqProofs (disch := omega) only [avs, avb, avi, avo, sigCells, opCells, pairCells, elT, avt, termCells_eq, go_sem, ↓reduceIte, reduceAdd, reduceSub, reduceMul, reduceLeDiff, reduceLT, reduceEqDiff, reduceNeg, Nat.reduceBEq]; done))) | (refine c_ctrE (ctr243 s hs t ht) ?_ ?_; (focus (simp -implicitDefEqProofs (disch := omega) only [avs, avb, avi, avo, sigCells, opCells, pairCells, elT, avt, termCells_eq, go_sem, ↓reduceIte, reduceAdd, reduceSub, reduceMul, reduceLeDiff, reduceLT, reduceEqDiff, reduceNeg, Nat.reduceBEq]; done)))); simp -implicitDefEqProofs (disch := omega) only [go_sem, ↓reduceIte, reduceAdd, reduceSub, reduceMul, reduceLeDiff, reduceLT, reduceEqDiff, reduceNeg, Nat.reduceBEq]) | refine And.intro (by omega) ?_ | (intro hr; have hc := hr; (try simp only [zda, zdb, zdc, zdd] at hc); simp -implicitDefEqProofs (disch := omega) only [hr, go_sem, ↓reduceIte, reduceAdd, reduceSub, reduceMul, reduceLeDiff, reduceLT, reduceEqDiff, reduceNeg, Nat.reduceBEq]; (try clear hr))))
   all_goals refine fin_eq ?_ rfl
   all_goals simp only [plainV, *, Bool.true_and, Bool.false_and]
theorem valid_ops {s : LSig} (h : validB s = true) : ∀ o ∈ s.ops, isOp s o = true := by
 simp only [validB, validHead, validMid, validTail, Bool.and_eq_true, List.all_eq_true, decide_eq_true_eq] at h
 exact h.2.1.2
theorem op_sort {s : LSig} {o : LOp} (h : isOp s o = true) : existsA s o.sort = true := by
 simp only [isOp, opHead, Bool.and_eq_true, List.contains_iff_mem] at h
 simp [existsA, keysOf, h.1.1.1.1.1.2]
theorem opAt_mem {s : LSig} {x : Str} {o : LOp} (h : opAt s x = some o) : o ∈ s.ops := List.mem_of_find?_eq_some h
theorem ex_built {s : LSig} {x : Str} (h : x ∈ alwaysA) : existsA s x = true := by simp [existsA, keysOf, h]
theorem sort_plain {s : LSig} {t : LTerm} (hv : validB s = true) (hz : 1 ≤ t.kind ∧ t.kind ≤ 8) (hp : plainP s t = true) : ofR s t = (sortP s t, true) ∧ existsA s (sortP s t) = true := by
 rw [plainP_eq] at hp
 simp only [Bool.and_eq_true, Bool.not_eq_true', decide_eq_false_iff_not] at hp
 obtain ⟨⟨⟨h6, _⟩, _⟩, ha⟩ := hp
 by_cases h5 : t.kind = 5
 · rw [if_pos h5, opFitP] at ha
   cases ho : opAt s t.text with
   | none => rw [ho] at ha; cases ha
   | some o =>
     have e1 : (called s t.text).1 = o := by rw [called, ho]
     have e2 : (argsR2 s t.text).2 = (o.sort, true) := by rw [argsR2, ho]
     simp only [sortP, ofR, h5, Int.reduceEq, if_true, if_false, e1, e2, true_and]
     exact op_sort (valid_ops hv o (opAt_mem ho))
 · simp only [sortP, ofR]
   split
   · exact ⟨rfl, ex_built (by decide)⟩
   split
   · exact ⟨rfl, ex_built (by decide)⟩
   split
   · exact ⟨rfl, ex_built (by decide)⟩
   split
   · exact ⟨rfl, ex_built (by decide)⟩
   split
   · exact ⟨rfl, ex_built (by decide)⟩
   split
   · exact ⟨rfl, ex_built (by decide)⟩
   · omega
theorem all_congr {l : List LTerm} {f g : LTerm → Bool} (h : ∀ x ∈ l, f x = g x) : l.all f = l.all g := by
 induction l with
 | nil => rfl
 | cons a l ih => rw [List.all_cons, List.all_cons, h a (by simp), ih (fun x hx => h x (by simp [hx]))]
theorem allN_congr {n : Nat} {f g : Nat → Bool} (h : ∀ j, j < n → f j = g j) : allN n f = allN n g := by
 rw [Bool.eq_iff_iff, allN_iff, allN_iff]
 exact ⟨fun a j hj => h j hj ▸ a j hj, fun a j hj => (h j hj).symm ▸ a j hj⟩
theorem keyFit_eq {t : LTerm} (h : ∀ k ∈ t.kids, ZT k) : keyFit ordR t = keyFit ordP t := by
 refine allN_congr fun j hj => ?_
 have e : ordR (t.kids.getD (2 * j - 2) default) (t.kids.getD (2 * j) default) = ordP (t.kids.getD (2 * j - 2) default) (t.kids.getD (2 * j) default) := ord_eq _ (h _ (mem_getD (by omega))) _ (h _ (mem_getD (by omega)))
 rw [keyAt, keyAt, e]
theorem plain_eq {s : LSig} (hv : validB s = true) : ∀ t : LTerm, wfT nodeB t = true → plainR s t = plainP s t :=
 term_ind (Q := fun t => wfT nodeB t = true → plainR s t = plainP s t) fun t hk _ hw => by
   have hw' := wfT_eq.1 hw
   have z := wf_zt t hw
   have e : t.kids.all (plainR s) = t.kids.all (plainP s) := all_congr fun x hx => hk x hx (hw'.2 x hx)
   rw [plainR_eq, plainP_eq, e]
   rcases bool_em (t.kids.all (plainP s)) with ha | ha
   · rw [ha, Bool.true_and, Bool.and_true]
     by_cases h6 : t.kind = 6
     · rw [if_pos h6, decide_eq_true h6]; rfl
     rw [if_neg h6, decide_eq_false h6, Bool.not_false, Bool.true_and]
     by_cases h5 : t.kind = 5
     · rw [if_pos h5, if_pos h5]
       have e5 : opFitR s t = opFitP s t := by
         rw [opFitR, opFitP]
         cases ho : opAt s t.text with
         | none => rfl
         | some o =>
           dsimp only
           congr 1
           refine allN_congr fun j hj => ?_
           have hm : t.kids.getD j default ∈ t.kids := mem_getD hj
           have zk := wf_zt _ (hw'.2 _ hm)
           obtain ⟨q1, q2⟩ := sort_plain hv (by cases zk with | mk a _ _ => exact a.f) (List.all_eq_true.1 ha _ hm)
           rw [q1, Bool.true_and]
           exact under_eq q2
       rw [e5, Bool.and_comm]
     rw [if_neg h5, if_neg h5]
     by_cases h8 : t.kind = 8
     · rw [if_pos h8, if_pos h8, keyFit_eq (by cases z with | mk _ b _ => exact b), Bool.and_comm]
     · rw [if_neg h8, if_neg h8, Bool.and_comm]
   · rw [ha]; simp
theorem valid_wf {t : LTerm} (h : validT nodeB t = true) : wfT nodeB t = true := by
 simp only [validT, Bool.and_eq_true] at h; exact h.1.1
theorem ctr234 (s : LSig) (t : LTerm) (hm : Small s) (hs : OkS s) (hv : validB s = true) (ht : OkT t): CT 41 [.agg (sigCells s), elT t] (.b (plainV s t)) := by
 refine sem_introB mixed Tryz.func41 g0 ?_
 · skip
   (repeat' (first | refine gT ?_ ?_ | refine gF ?_ ?_ | refine gC ?_ ?_ | ((first | (refine c_ctrE (ctr252 t ht) ?_ ?_; (focus (simp -implicitDefEqProofs (disch := omega) only [avs, avb, avi, avo, sigCells, opCells, pairCells, elT, avt, termCells_eq, go_sem, ↓reduceIte, reduceAdd, reduceSub, reduceMul, reduceLeDiff, reduceLT, reduceEqDiff, reduceNeg, Nat.reduceBEq]; done))) | (refine c_ctrE (ctr253 s hm hs t ht) ?_ ?_; (focus (simp -implicitDefEqProofs (disch := omega) only [avs, avb, avi, avo, sigCells, opCells, pairCells, elT, avt, termCells_eq, go_sem, ↓reduceIte, reduceAdd, reduceSub, reduceMul, reduceLeDiff, reduceLT, reduceEqDiff, reduceNeg, Nat.reduceBEq]; done)))); simp -implicitDefEqProofs (disch := omega) only [go_sem, ↓reduceIte, reduceAdd, reduceSub, reduceMul, reduceLeDiff, reduceLT, reduceEqDiff, reduceNeg, Nat.reduceBEq]) | refine And.intro (by omega) ?_ | (intro hr; have hc := hr; (try simp only [zda, zdb, zdc, zdd] at hc); simp -implicitDefEqProofs (disch := omega) only [hr, go_sem, ↓reduceIte, reduceAdd, reduceSub, reduceMul, reduceLeDiff, reduceLT, reduceEqDiff, reduceNeg, Nat.reduceBEq]; (try clear hr))))
   all_goals refine fin_eq ?_ rfl
   · rw [plainV, hc, plain_eq hv t (valid_wf hc), Bool.true_and]
   · rw [plainV, hc, Bool.false_and]
theorem ctr224 (s : LSig) (t : LTerm) (hm : Small s) (hs : OkS s) (ht : OkT t): CT 27 [.agg (sigCells s), elT t] (.b (validB s && plainV s t)) := by
 refine sem_introB mixed Tryz.func27 g0 ?_
 · skip
   (repeat' (first | refine gT ?_ ?_ | refine gF ?_ ?_ | refine gC ?_ ?_ | ((first | (refine c_ctrE (ctr13 s hm hs) ?_ ?_; (focus (simp -implicitDefEqProofs (disch := omega) only [avs, avb, avi, avo, sigCells, opCells, pairCells, elT, avt, termCells_eq, go_sem, ↓reduceIte, reduceAdd, reduceSub, reduceMul, reduceLeDiff, reduceLT, reduceEqDiff, reduceNeg, Nat.reduceBEq]; done))) | (refine c_ctrE (ctr234 s t hm hs hc ht) ?_ ?_; (focus (simp -implicitDefEqProofs (disch := omega) only [avs, avb, avi, avo, sigCells, opCells, pairCells, elT, avt, termCells_eq, go_sem, ↓reduceIte, reduceAdd, reduceSub, reduceMul, reduceLeDiff, reduceLT, reduceEqDiff, reduceNeg, Nat.reduceBEq]; done)))); simp -implicitDefEqProofs (disch := omega) only [go_sem, ↓reduceIte, reduceAdd, reduceSub, reduceMul, reduceLeDiff, reduceLT, reduceEqDiff, reduceNeg, Nat.reduceBEq]) | refine And.intro (by omega) ?_ | (intro hr; have hc := hr; (try simp only [zda, zdb, zdc, zdd] at hc); simp -implicitDefEqProofs (disch := omega) only [hr, go_sem, ↓reduceIte, reduceAdd, reduceSub, reduceMul, reduceLeDiff, reduceLT, reduceEqDiff, reduceNeg, Nat.reduceBEq]; (try clear hr))))
   all_goals exact fin_eq rfl rfl
theorem plain_kind {s : LSig} {t : LTerm} (h : plainV s t = true) : 1 ≤ t.kind ∧ t.kind ≤ 8 := by
 rw [plainV, Bool.and_eq_true] at h
 have z := wf_zt t (valid_wf h.1)
 cases z with | mk a _ _ => exact a.f
theorem ctr226 (s : LSig) (t : LTerm) (x : Str) (hm : Small s) (hs : OkS s) (hv : validB s = true) (hp : plainV s t = true): CT 29 [.agg (sigCells s), elT t, .s x] (.b (atMost s (sortP s t) x)) := by
 refine sem_introB mixed Tryz.func29 g0 ?_
 · skip
   obtain ⟨q1, q2⟩ := sort_plain hv (plain_kind hp) (by rw [plainV, Bool.and_eq_true] at hp; exact hp.2)
   (repeat' (first | refine gT ?_ ?_ | refine gF ?_ ?_ | refine gC ?_ ?_ | ((first | (refine c_ctrE (ctr239 s t hs) ?_ ?_; (focus (simp -implicitDefEqProofs (disch := omega) only [q1, avs, avb, avi, avo, sigCells, opCells, pairCells, elT, avt, termCells_eq, go_sem, ↓reduceIte, reduceAdd, reduceSub, reduceMul, reduceLeDiff, reduceLT, reduceEqDiff, reduceNeg, Nat.reduceBEq]; done))) | (refine c_ctrE (ctr74 s (sortP s t) x hm) ?_ ?_; (focus (simp -implicitDefEqProofs (disch := omega) only [q1, avs, avb, avi, avo, sigCells, opCells, pairCells, elT, avt, termCells_eq, go_sem, ↓reduceIte, reduceAdd, reduceSub, reduceMul, reduceLeDiff, reduceLT, reduceEqDiff, reduceNeg, Nat.reduceBEq]; done)))); simp -implicitDefEqProofs (disch := omega) only [q1, go_sem, ↓reduceIte, reduceAdd, reduceSub, reduceMul, reduceLeDiff, reduceLT, reduceEqDiff, reduceNeg, Nat.reduceBEq]) | refine And.intro (by omega) ?_ | (intro hr; have hc := hr; (try simp only [zda, zdb, zdc, zdd] at hc); simp -implicitDefEqProofs (disch := omega) only [hr, q1, go_sem, ↓reduceIte, reduceAdd, reduceSub, reduceMul, reduceLeDiff, reduceLT, reduceEqDiff, reduceNeg, Nat.reduceBEq]; (try clear hr))))
   all_goals exact fin_eq (by rw [under_eq q2]) rfl

theorem out_rd {H g : List AObj} {out : AV} {l : List LTerm} (h : OutIs 6 0 g out (l.flatMap termCells) l.length) (hH : H = g) : Rd6 H out l := by
 subst hH
 rcases h with ⟨rfl, hn, h0⟩ | ⟨i, rfl, hi, hl⟩
 · exact .inl ⟨rfl, List.length_eq_zero_iff.1 (by omega)⟩
 · refine .inr (.inr ⟨i + 0, 0, _, _, _, rfl, (by simpa using hi), by omega, ?_⟩)
   rw [List.drop_zero, List.take_of_length_le (by omega)]
theorem fin_rd {H : List AObj} {v : AV} {l : List LTerm} (r : Rd6 H v l) : Fin H v (.sl (l.flatMap termCells) l.length) := by
 have e := rd6_fin r
 have e1 : finOK H v (.sl (l.flatMap termCells) l.length) := e.1
 have e2 : finIds v (.sl (l.flatMap termCells) l.length) = [] := e.2
 exact .inr ⟨e1, by rw [e2]; exact List.nodup_nil, by rw [e2]; simp⟩
theorem take_cells {l : List LTerm} {k : Nat} (h : k < l.length) : (l.take (k + 1)).flatMap termCells = (l.take k).flatMap termCells ++ termCells (l.getD k default) := by
 rw [take_getD (d := default) h, List.flatMap_append]; simp
theorem rep1t {α : Type} {l : List α} : (List.replicate 1 l).flatten = l := by simp
theorem ctr251_1 (l : List LTerm) (hl : l.length ≤ 1466015503701) (ih : ∀ t ∈ l, CT 39 [elT t] (elT t)): CT 79 [avt l] (avt l) := by
 refine sem_introA mixed Tryz.func79 g0 ?_
 · simp -implicitDefEqProofs (disch := omega) only [Tryz.f79, go_sem, List.replicate, ↓reduceIte, reduceAdd, reduceSub, reduceMul, reduceLeDiff, reduceLT, reduceEqDiff, reduceNeg, Nat.reduceBEq, avt]
   refine x_loopJ (fun (s : Nat × AV × List AObj) => [.k, .k, .k, .v (s.2.1), .k, .j, .k, .k, .v (.i .i64 (s.1 : Nat)), .j, .j, .j, .j, .j, .j, .j, .j, .j, .k]) (fun s => s.2.2) (fun s => s.1 ≤ l.length ∧ OutIs 6 0 s.2.2 s.2.1 ((l.take s.1).flatMap termCells) s.1) (fun s => l.length - s.1) ((0, .e0, [])) ⟨Nat.zero_le _, outIs_e0⟩ rfl (by simp [Fits]) ?_
   rintro ⟨k, out, g⟩ j ⟨hk, ho⟩
   dsimp only at hk ho
   have o : k < l.length → CT 39 [elT (l.getD k default)] (elT (l.getD k default)) := fun h => ih _ (mem_getD h)
   simp -implicitDefEqProofs (disch := omega) only [go_sem, ↓reduceIte, reduceAdd, reduceSub, reduceMul, reduceLeDiff, reduceLT, reduceEqDiff, reduceNeg, Nat.reduceBEq]
   (repeat' (first | refine gT ?_ ?_ | refine gF ?_ ?_ | refine gC ?_ ?_ | ((refine c_ctrE ((o (by omega))) ?_ ?_; (focus (simp -implicitDefEqProofs (disch := omega) only [rep1t, avs, avb, avi, avo, sigCells, opCells, pairCells, elT, avt, termCells_eq, go_sem, ↓reduceIte, reduceAdd, reduceSub, reduceMul, reduceLeDiff, reduceLT, reduceEqDiff, reduceNeg, Nat.reduceBEq]; done))); simp -implicitDefEqProofs (disch := omega) only [rep1t, go_sem, ↓reduceIte, reduceAdd, reduceSub, reduceMul, reduceLeDiff, reduceLT, reduceEqDiff, reduceNeg, Nat.reduceBEq]) | refine And.intro (by omega) ?_ | (intro hr; have hc := hr; (try simp only [zda, zdb, zdc, zdd] at hc); simp -implicitDefEqProofs (disch := omega) only [hr, rep1t, go_sem, ↓reduceIte, reduceAdd, reduceSub, reduceMul, reduceLeDiff, reduceLT, reduceEqDiff, reduceNeg, Nat.reduceBEq]; (try clear hr))))
   · refine app_intro' (pre := []) (g := g ++ [.box false [.i .i64 (l.getD k default).kind, .i .i64 (l.getD k default).n, .s (l.getD k default).text, .s (l.getD k default).sort, .sl ((l.getD k default).kids.flatMap termCells) (l.getD k default).kids.length, .sl ((l.getD k default).rest.flatMap termCells) (l.getD k default).rest.length]]) (more := [.arr false 6 ([.i .i64 (l.getD k default).kind, .i .i64 (l.getD k default).n, .s (l.getD k default).text, .s (l.getD k default).sort, .sl ((l.getD k default).kids.flatMap termCells) (l.getD k default).kids.length, .sl ((l.getD k default).rest.flatMap termCells) (l.getD k default).rest.length])]) (news := [.i .i64 (l.getD k default).kind, .i .i64 (l.getD k default).n, .s (l.getD k default).text, .s (l.getD k default).sort, .sl ((l.getD k default).kids.flatMap termCells) (l.getD k default).kids.length, .sl ((l.getD k default).rest.flatMap termCells) (l.getD k default).rest.length]) (m := 1) ((ho).more _) rfl (by simp -implicitDefEqProofs (disch := omega) only [go_sem, ↓reduceIte, reduceAdd, reduceSub, reduceMul, reduceLeDiff, reduceLT, reduceEqDiff, reduceNeg, Nat.reduceBEq]) el27 zo32 sz32 by32 rfl (by decide) (by simp -implicitDefEqProofs (disch := omega) only [go_sem, ↓reduceIte, reduceAdd, reduceSub, reduceMul, reduceLeDiff, reduceLT, reduceEqDiff, reduceNeg, Nat.reduceBEq]) (by simp -implicitDefEqProofs (disch := omega) only [go_sem, ↓reduceIte, reduceAdd, reduceSub, reduceMul, reduceLeDiff, reduceLT, reduceEqDiff, reduceNeg, Nat.reduceBEq]) ⟨by omega, by omega⟩ ?_
     intro out' g' ho' _
     simp -implicitDefEqProofs (disch := omega) only [go_sem, ↓reduceIte, reduceAdd, reduceSub, reduceMul, reduceLeDiff, reduceLT, reduceEqDiff, reduceNeg, Nat.reduceBEq]
     refine ⟨(k + 1, out', g'), ⟨by dsimp only; omega, ?_⟩, by dsimp only; omega, rfl, by simp⟩
     dsimp only
     rw [take_cells (by omega), termCells_eq]
     exact ho'
   · have h1 : k = l.length := by omega
     subst h1
     rw [List.take_length] at ho
     exact fin_rd (out_rd ho rfl)
theorem ctr233_1 (t : LTerm) (ihk : CT 79 [avt t.kids] (avt t.kids)) (ihr : CT 79 [avt t.rest] (avt t.rest)): CT 39 [elT t] (elT t) := by
 refine sem_introB mixed Tryz.func39 g0 ?_
 · skip
   (repeat' (first | refine gT ?_ ?_ | refine gF ?_ ?_ | refine gC ?_ ?_ | ((first | (refine c_ctrE (ihk) ?_ ?_; (focus (simp -implicitDefEqProofs (disch := omega) only [avs, avb, avi, avo, sigCells, opCells, pairCells, elT, avt, termCells_eq, go_sem, ↓reduceIte, reduceAdd, reduceSub, reduceMul, reduceLeDiff, reduceLT, reduceEqDiff, reduceNeg, Nat.reduceBEq]; done))) | (refine c_ctrE (ihr) ?_ ?_; (focus (simp -implicitDefEqProofs (disch := omega) only [avs, avb, avi, avo, sigCells, opCells, pairCells, elT, avt, termCells_eq, go_sem, ↓reduceIte, reduceAdd, reduceSub, reduceMul, reduceLeDiff, reduceLT, reduceEqDiff, reduceNeg, Nat.reduceBEq]; done)))); simp -implicitDefEqProofs (disch := omega) only [go_sem, ↓reduceIte, reduceAdd, reduceSub, reduceMul, reduceLeDiff, reduceLT, reduceEqDiff, reduceNeg, Nat.reduceBEq]) | refine And.intro (by omega) ?_ | (intro hr; have hc := hr; (try simp only [zda, zdb, zdc, zdd] at hc); simp -implicitDefEqProofs (disch := omega) only [hr, go_sem, ↓reduceIte, reduceAdd, reduceSub, reduceMul, reduceLeDiff, reduceLT, reduceEqDiff, reduceNeg, Nat.reduceBEq]; (try clear hr))))
   all_goals exact fin_eq rfl (by simp only [pers, persL, persTs, Bool.and_self])
theorem ctr233 : ∀ (t : LTerm), OkT t → CT 39 [elT t] (elT t) :=
 term_ind fun t hk hr ht => ctr233_1 t (ctr251_1 t.kids ht.kids fun x hx => hk x hx (ht.kid x hx)) (ctr251_1 t.rest ht.rest fun x hx => hr x hx (ht.rst x hx))
end Go.Proofs.YtpilgabbgflbhaaGreatDoor

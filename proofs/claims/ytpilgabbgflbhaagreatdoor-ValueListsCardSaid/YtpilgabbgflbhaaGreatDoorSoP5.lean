/-
  What functions of the chapter return, as plain functions of what they are given; no condition beyond those that each theorem names.
-/
import Derived.Test.YtpilgabbgflbhaaGreatDoorSoP3
set_option maxRecDepth 100000
set_option linter.unusedSimpArgs false
set_option linter.unusedVariables false
set_option maxHeartbeats 4000000
namespace Go.Proofs.YtpilgabbgflbhaaGreatDoor
open Go Go.Vo
open Nat (reduceAdd reduceSub reduceMul reduceLeDiff reduceLT reduceEqDiff)
open Int (reduceNeg)

inductive Up (l : List (Str × Str)) : Str → Str → Prop
 | refl (a : Str) : Up l a a
 | step {a b c : Str} : Up l a b → (b, c) ∈ l → Up l a c
theorem Up.trans {l : List (Str × Str)} {a b c : Str} (h : Up l a b) (k : Up l b c) : Up l a c := by
 induction k with
 | refl => exact h
 | step _ hm ih => exact .step ih hm
theorem Up.head {l : List (Str × Str)} {a b : Str} (h : Up l a b) : a = b ∨ ∃ m, (a, m) ∈ l ∧ Up l m b := by
 induction h with
 | refl => exact .inl rfl
 | step hu hm ih =>
   rename_i b c
   rcases ih with rfl | ⟨m, h1, h2⟩
   · exact .inr ⟨c, hm, .refl _⟩
   · exact .inr ⟨m, h1, .step h2 hm⟩
theorem stepsUp_mono {x : Str} : ∀ {l : List (Str × Str)} {L : List Str} {y : Str}, y ∈ L → y ∈ stepsUp l x L
 | [], L, y, h => h
 | b :: l, L, y, h => by
   show y ∈ stepsUp l x (stepUp x L b)
   refine stepsUp_mono ?_
   rcases stepUp_cases x L b with e | ⟨_, _, e⟩ <;> rw [e] <;> simp [h]
theorem stepsUp_get {x : Str} : ∀ {l : List (Str × Str)} {L : List Str} {i : Nat}, i < L.length → (stepsUp l x L).getD i [] = L.getD i []
 | [], L, i, h => rfl
 | b :: l, L, i, h => by
   show (stepsUp l x (stepUp x L b)).getD i [] = _
   have h2 := stepUp_prefix (x := x) (b := b) h
   rw [stepsUp_get h2.2, h2.1]
theorem stepsUp_len {x : Str} : ∀ {l : List (Str × Str)} {L : List Str}, L.length ≤ (stepsUp l x L).length
 | [], L => Nat.le_refl _
 | b :: l, L => by
   show _ ≤ (stepsUp l x (stepUp x L b)).length
   refine Nat.le_trans ?_ stepsUp_len
   rcases stepUp_cases x L b with e | ⟨_, _, e⟩ <;> rw [e] <;> simp
theorem stepsUp_all {x : Str} : ∀ {l : List (Str × Str)} {L : List Str} {c : Str}, (x, c) ∈ l → c ∈ stepsUp l x L
 | b :: l, L, c, h => by
   show c ∈ stepsUp l x (stepUp x L b)
   rcases List.mem_cons.1 h with h | h
   · subst h
     refine stepsUp_mono ?_
     unfold stepUp
     by_cases hc : L.contains c = false
     · rw [if_pos ⟨rfl, hc⟩]; simp
     · rw [if_neg (fun h => hc h.2)]
       simpa using hc
   · exact stepsUp_all h
theorem stepsUp_sub {x : Str} : ∀ {l : List (Str × Str)} {L : List Str} {y : Str}, y ∈ stepsUp l x L → y ∈ L ∨ (x, y) ∈ l
 | [], L, y, h => .inl h
 | b :: l, L, y, h => by
   have h : y ∈ stepsUp l x (stepUp x L b) := h
   rcases stepsUp_sub h with h | h
   · rcases stepUp_cases x L b with e | ⟨h1, _, e⟩
     · rw [e] at h; exact .inl h
     · rw [e] at h
       rcases List.mem_append.1 h with h | h
       · exact .inl h
       · simp only [List.mem_singleton] at h
         subst h h1
         exact .inr (by simp)
   · exact .inr (List.mem_cons_of_mem _ h)
theorem climbG_up {l : List (Str × Str)} {a : Str} : ∀ (f i : Nat) (L : List Str), (∀ y ∈ L, Up l a y) → ∀ y ∈ climbG l f i L, Up l a y
 | 0, i, L, h => h
 | f + 1, i, L, h => by
   unfold climbG
   split
   · rename_i hi
     refine climbG_up f (i + 1) _ (fun y hy => ?_)
     rcases stepsUp_sub hy with hy | hy
     · exact h y hy
     · exact .step (h _ (by simp [List.getD, hi])) hy
   · exact h
theorem climbG_closed {l : List (Str × Str)} {a : Str} : ∀ (f i : Nat) (L : List Str), Climbs l a L → i ≤ L.length → l.length + 1 ≤ i + f → (∀ j c, j < i → (L.getD j [], c) ∈ l → c ∈ L) → (∀ y ∈ L, y ∈ climbG l f i L) ∧ ∀ x c, x ∈ climbG l f i L → (x, c) ∈ l → c ∈ climbG l f i L
 | 0, i, L, hC, hi, hf, h => by
   have := hC.len
   refine ⟨fun y hy => hy, fun x c hx hc => ?_⟩
   have hx : x ∈ L := hx
   obtain ⟨j, hj, rfl⟩ := List.mem_iff_getElem.1 hx
   exact h j c (by omega) (by rw [getD_el hj]; exact hc)
 | f + 1, i, L, hC, hi, hf, h => by
   unfold climbG
   split
   · rename_i hlt
     have hl := stepsUp_len (x := L.getD i []) (l := l) (L := L)
     have ih := climbG_closed (a := a) f (i + 1) (stepsUp l (L.getD i []) L) (stepsUp_climbs l _ (fun b hb => hb) hC) (by omega) (by omega) (fun j c hj hc => by
       rw [stepsUp_get (by omega)] at hc
       rcases Nat.lt_succ_iff_lt_or_eq.1 hj with h1 | rfl
       · exact stepsUp_mono (h j c h1 hc)
       · exact stepsUp_all hc)
     exact ⟨fun y hy => ih.1 y (stepsUp_mono hy), ih.2⟩
   · rename_i hge
     refine ⟨fun y hy => hy, fun x c hx hc => ?_⟩
     obtain ⟨j, hj, rfl⟩ := List.mem_iff_getElem.1 hx
     exact h j c (by omega) (by rw [getD_el hj]; exact hc)
theorem mem_climb {l : List (Str × Str)} {a y : Str} : y ∈ climb l a ↔ Up l a y := by
 constructor
 · exact climbG_up _ _ _ (fun y hy => by simp only [List.mem_singleton] at hy; subst hy; exact .refl _) y
 · intro h
   have hcl := climbG_closed (l := l) (a := a) (l.length + 1) 0 [a] ⟨by simp, by simp, by simp⟩ (by simp) (by omega) (fun j c hj => by omega)
   induction h with
   | refl => exact hcl.1 a (by simp)
   | step _ hm ih => exact hcl.2 _ _ ih hm
structure Val (s : LSig) : Prop where
 low : ∀ b ∈ s.below, b.1 ≠ anyS ∧ existsA s b.1 = true ∧ b.2 ∈ s.sorts ∧ ¬ Up s.below b.2 b.1
 fresh : ∀ x ∈ s.sorts, isName x = true ∧ x ∉ alwaysA
 values : ∀ x ∈ s.values, existsA s x = true
 nd : s.sorts.Nodup
 ops : ∀ o ∈ s.ops, isOp s o = true
 funs : ∀ o ∈ s.funs, isFun s o = true
theorem exists_sort {s : LSig} {x : Str} (h : x ∈ s.sorts) : existsA s x = true := by simp [existsA, keysOf, h]
theorem valid_val {s : LSig} (h : validB s = true) : Val s := by
 simp only [validB, validHead, validMid, validTail, Bool.and_eq_true, List.all_eq_true, decide_eq_true_eq] at h
 obtain ⟨⟨_, ⟨hnd, hf⟩, _⟩, ⟨⟨hb, hv⟩, ho⟩, hfu⟩ := h
 refine ⟨fun b hb' => ?_, fun x hx => ?_, hv, hnd, ho, hfu⟩
 · have := hb b hb'
   simp only [isBelow, Bool.and_eq_true, decide_eq_true_eq, Bool.not_eq_true', List.contains_iff_mem] at this
   obtain ⟨⟨⟨h1, h2⟩, h3⟩, h4⟩ := this
   refine ⟨h1, h2, h3, fun hu => ?_⟩
   rw [above, if_pos (exists_sort h3)] at h4
   have h5 := mem_climb.2 hu
   rw [← List.contains_iff_mem, h4] at h5
   cases h5
 · have := hf x hx
   simp only [freshA, Bool.and_eq_true, Bool.not_eq_true'] at this
   refine ⟨this.1, fun hm => ?_⟩
   rw [← List.contains_iff_mem, this.2] at hm
   cases hm
theorem atMost_iff {s : LSig} {x y : Str} (hx : existsA s x = true) : atMost s x y = true ↔ y = anyS ∨ Up s.below x y := by
 simp only [atMost, above, hx, if_true, Bool.or_eq_true, decide_eq_true_eq, List.contains_iff_mem, mem_climb]
end Go.Proofs.YtpilgabbgflbhaaGreatDoor

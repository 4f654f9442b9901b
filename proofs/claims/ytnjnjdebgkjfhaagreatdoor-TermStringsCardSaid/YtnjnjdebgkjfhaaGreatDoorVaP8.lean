/-
  What functions of the chapter return, as plain functions of what they are given; no condition beyond those that each theorem names.
-/
import Derived.Test.YtnjnjdebgkjfhaaGreatDoorVaP4
import Derived.Test.YtnjnjdebgkjfhaaGreatDoorVaP6
set_option maxRecDepth 100000
set_option linter.unusedSimpArgs false
set_option linter.unusedVariables false
set_option maxHeartbeats 4000000
namespace Go.Proofs.YtnjnjdebgkjfhaaGreatDoor
open Go Go.Vo
open Nat (reduceAdd reduceSub reduceMul reduceLeDiff reduceLT reduceEqDiff)
open Int (reduceNeg)

theorem dd_eq (u : Nat) : Lib.decDigits u = if u < 10 then [UInt8.ofNat (48 + u)] else Lib.decDigits (u / 10) ++ [UInt8.ofNat (48 + u % 10)] := by
 rw [Lib.decDigits]; split <;> rfl
theorem dig_inj {a b : Nat} (ha : a < 10) (hb : b < 10) (h : UInt8.ofNat (48 + a) = UInt8.ofNat (48 + b)) : a = b := by
 have := congrArg UInt8.toNat h
 simp only [UInt8.toNat_ofNat'] at this
 omega
theorem dd_ne (u : Nat) : Lib.decDigits u ≠ [] := by
 rw [dd_eq]; split <;> simp
theorem dd_inj : ∀ (n : Nat) (u v : Nat), u ≤ n → Lib.decDigits u = Lib.decDigits v → u = v := by
 intro n
 induction n with
 | zero =>
   intro u v hu h
   have hu0 : u = 0 := by omega
   subst hu0
   rw [dd_eq 0, if_pos (by omega), dd_eq v] at h
   split at h
   · rename_i hv
     exact dig_inj (by omega) hv (List.cons.inj h).1
   · have := congrArg List.length h
     have h2 := dd_ne (v / 10)
     have h3 : 0 < (Lib.decDigits (v / 10)).length := List.length_pos_iff.2 h2
     simp only [List.length_append, List.length_cons, List.length_nil] at this; omega
 | succ n ih =>
   intro u v hu h
   rw [dd_eq u, dd_eq v] at h
   split at h <;> split at h
   · exact dig_inj (by assumption) (by assumption) (List.cons.inj h).1
   · have := congrArg List.length h
     have h3 : 0 < (Lib.decDigits (v / 10)).length := List.length_pos_iff.2 (dd_ne _)
     simp only [List.length_append, List.length_cons, List.length_nil] at this; omega
   · have := congrArg List.length h
     have h3 : 0 < (Lib.decDigits (u / 10)).length := List.length_pos_iff.2 (dd_ne _)
     simp only [List.length_append, List.length_cons, List.length_nil] at this; omega
   · obtain ⟨e1, e2⟩ := List.append_inj' h rfl
     have i1 := ih (u / 10) (v / 10) (by omega) e1
     have i2 := dig_inj (Nat.mod_lt _ (by decide)) (Nat.mod_lt _ (by decide)) (List.cons.inj e2).1
     omega
theorem dd_digit : ∀ (n u : Nat), u ≤ n → ∀ c ∈ Lib.decDigits u, 48 ≤ c.toNat ∧ c.toNat ≤ 57 := by
 have one : ∀ a, a < 10 → 48 ≤ (UInt8.ofNat (48 + a)).toNat ∧ (UInt8.ofNat (48 + a)).toNat ≤ 57 := fun a h => by
   simp only [UInt8.toNat_ofNat']; omega
 intro n
 induction n with
 | zero =>
   intro u hu c hc
   rw [dd_eq, if_pos (by omega)] at hc
   rw [List.mem_singleton.1 hc]; exact one _ (by omega)
 | succ n ih =>
   intro u hu c hc
   rw [dd_eq] at hc
   split at hc
   · rw [List.mem_singleton.1 hc]; exact one _ (by assumption)
   · rcases List.mem_append.1 hc with hc | hc
     · exact ih (u / 10) (by omega) c hc
     · rw [List.mem_singleton.1 hc]; exact one _ (Nat.mod_lt _ (by decide))
theorem itoa_char {n : Int} {c : UInt8} (h : c ∈ Lib.itoa n) : c.toNat = 45 ∨ (48 ≤ c.toNat ∧ c.toNat ≤ 57) := by
 unfold Lib.itoa at h
 split at h
 · rcases List.mem_cons.1 h with rfl | h
   · exact .inl rfl
   · exact .inr (dd_digit _ _ (Nat.le_refl _) c h)
 · exact .inr (dd_digit _ _ (Nat.le_refl _) c h)
theorem itoa_ne (n : Int) : Lib.itoa n ≠ [] := by
 unfold Lib.itoa
 split
 · simp
 · exact dd_ne _
theorem itoa_inj {n m : Int} (h : Lib.itoa n = Lib.itoa m) : n = m := by
 unfold Lib.itoa at h
 have no : ∀ u : Nat, ∀ l, Lib.decDigits u = 45 :: l → False := fun u l e => by
   have := dd_digit u u (Nat.le_refl _) 45 (by rw [e]; simp)
   exact absurd this.1 (by decide)
 split at h <;> split at h
 · have := dd_inj _ _ _ (Nat.le_refl _) (List.cons.inj h).2
   omega
 · exact (no _ _ h.symm).elim
 · exact (no _ _ h).elim
 · have := dd_inj _ _ _ (Nat.le_refl _) h
   omega
def tokc (c : UInt8) : Bool := !([32, 34, 40, 41, 44, 58, 91, 93, 123, 124, 125] : List UInt8).contains c
def Ends (u : Str) : Prop := ∀ c v, u = c :: v → tokc c = false
theorem tok_split : ∀ {x y u v : Str}, x.all tokc = true → y.all tokc = true → Ends u → Ends v → x ++ u = y ++ v → x = y ∧ u = v
 | [], [], u, v, _, _, _, _, h => ⟨rfl, h⟩
 | [], d :: y, u, v, _, hy, hu, _, h => by
   have := hu d (y ++ v) h
   rw [List.all_cons, Bool.and_eq_true] at hy
   rw [hy.1] at this; cases this
 | c :: x, [], u, v, hx, _, _, hv, h => by
   have := hv c (x ++ u) h.symm
   rw [List.all_cons, Bool.and_eq_true] at hx
   rw [hx.1] at this; cases this
 | c :: x, d :: y, u, v, hx, hy, hu, hv, h => by
   rw [List.all_cons, Bool.and_eq_true] at hx hy
   rw [List.cons_append, List.cons_append, List.cons.injEq] at h
   have := tok_split hx.2 hy.2 hu hv h.2
   exact ⟨by rw [h.1, this.1], this.2⟩
def Sep (u : Str) : Prop := ∀ c v, u = c :: v → c = 32 ∨ c = 41 ∨ c = 44 ∨ c = 93 ∨ c = 125
theorem Sep.ends {u : Str} (h : Sep u) : Ends u := fun c v e => by
 rcases h c v e with rfl | rfl | rfl | rfl | rfl <;> decide
theorem sep_nil : Sep [] := fun c v e => by cases e
theorem sep_cons {c : UInt8} {v : Str} (h : c = 32 ∨ c = 41 ∨ c = 44 ∨ c = 93 ∨ c = 125) : Sep (c :: v) := fun d w e => by cases e; exact h
theorem ends_cons {c : UInt8} {v : Str} (h : tokc c = false) : Ends (c :: v) := fun d w e => by cases e; exact h
theorem tok_part {c : UInt8} (h : part c.toNat = true) : tokc c = true := by
 have key : ∀ c : Fin 256, part (c.val : Int) = true → tokc (UInt8.ofNat c.val) = true := by decide +kernel
 have := key ⟨c.toNat, c.toNat_lt⟩ h
 simpa using this
theorem tok_num {c : UInt8} (h : c.toNat = 45 ∨ (48 ≤ c.toNat ∧ c.toNat ≤ 57)) : tokc c = true := by
 have key : ∀ c : Fin 256, (c.val = 45 ∨ (48 ≤ c.val ∧ c.val ≤ 57)) → tokc (UInt8.ofNat c.val) = true := by decide +kernel
 have := key ⟨c.toNat, c.toNat_lt⟩ h
 simpa using this
theorem name_tok {s : Str} (h : isName s = true) : s.all tokc = true := by
 simp only [isName, Bool.and_eq_true, List.all_eq_true] at h
 exact List.all_eq_true.2 fun c hc => tok_part (h.2 c hc)
theorem name_first {s : Str} (h : isName s = true) : ∃ c v, s = c :: v ∧ letter c.toNat = true := by
 simp only [isName, Bool.and_eq_true] at h
 cases s with
 | nil => simp at h
 | cons c v => exact ⟨c, v, rfl, by simpa [at_] using h.1.2⟩
theorem frame_tok {s : Str} : (frame s).all tokc = true := by
 unfold frame
 split
 · rename_i h
   simp only [isFrame, Bool.and_eq_true, decide_eq_true_eq] at h
   obtain ⟨⟨⟨h1, h2⟩, h3⟩, h4⟩ := h
   have e : s.drop (s.length - 2) = [s.getD (s.length - 2) 0, s.getD (s.length - 1) 0] := by
     rw [List.drop_eq_getElem_cons (by omega), List.drop_eq_getElem_cons (by omega), List.drop_of_length_le (by omega)]
     simp [List.getD, show s.length - 2 < s.length by omega, show s.length - 1 < s.length by omega, show s.length - 2 + 1 = s.length - 1 by omega]
   rw [e]
   unfold at_ at h2 h3 h4
   generalize s.getD (s.length - 2) 0 = a at *
   generalize s.getD (s.length - 1) 0 = b at *
   have k1 : ∀ c : Fin 256, (c.val : Int) = 39 → tokc (UInt8.ofNat c.val) = true := by decide +kernel
   have k2 : ∀ c : Fin 256, 49 ≤ (c.val : Int) → (c.val : Int) ≤ 56 → tokc (UInt8.ofNat c.val) = true := by decide +kernel
   have r1 := k1 ⟨a.toNat, a.toNat_lt⟩ h2
   have r2 := k2 ⟨b.toNat, b.toNat_lt⟩ h3 h4
   simp only [UInt8.ofNat_toNat] at r1 r2
   simp [r1, r2]
 · rfl
theorem op_tok {s : Str} (h : opName s = true) : s.all tokc = true := by
 have e := base_frame s
 rw [← e, List.all_append, name_tok (by exact h), frame_tok]; rfl
theorem op_first {s : Str} (h : opName s = true) : ∃ c v, s = c :: v ∧ letter c.toNat = true := by
 obtain ⟨c, v, e, hc⟩ := name_first (s := base s) h
 have e2 := base_frame s
 rw [e, List.cons_append] at e2
 exact ⟨c, _, e2.symm, hc⟩
def word (s : Str) : Str := s.takeWhile tokc
def after (s : Str) : Str := s.dropWhile tokc
theorem word_of : ∀ {x u : Str}, x.all tokc = true → Ends u → word (x ++ u) = x ∧ after (x ++ u) = u
 | [], u, _, hu => by
   cases u with
   | nil => exact ⟨rfl, rfl⟩
   | cons c v => have := hu c v rfl; simp [word, after, this]
 | c :: x, u, hx, hu => by
   rw [List.all_cons, Bool.and_eq_true] at hx
   have := word_of hx.2 hu
   simp only [word, after] at this ⊢
   rw [List.cons_append, List.takeWhile_cons, List.dropWhile_cons, if_pos hx.1, if_pos hx.1, this.1, this.2]
   exact ⟨rfl, rfl⟩
def kindOf (s : Str) : Int :=
 if word s = [] then (if s.headD 0 = 34 then 3 else if s.headD 0 = 91 then 7 else 8)
 else if (after s).headD 0 = 40 then 5
 else if (after s).headD 0 = 58 then 6
 else if openS (word s) = true then 6
 else if s.headD 0 = 39 then 4
 else if (word s = [116, 114, 117, 101] ∨ word s = [102, 97, 108, 115, 101]) then 2
 else 1
theorem sep_head {u : Str} (h : Sep u) : u.headD 0 ≠ 40 ∧ u.headD 0 ≠ 58 := by
 cases u with
 | nil => decide
 | cons c v => rcases h c v rfl with rfl | rfl | rfl | rfl | rfl <;> exact ⟨by simp, by simp⟩
theorem word_nil {c : UInt8} {u : Str} (h : tokc c = false) : word (c :: u) = [] := by simp [word, h]
theorem letter_ne {c : UInt8} (h : letter c.toNat = true) : c ≠ 39 ∧ c ≠ 95 ∧ c ≠ 36 := by
 refine ⟨?_, ?_, ?_⟩ <;> rintro rfl <;> revert h <;> decide
theorem kind_of (t : LTerm) (u : Str) (hn : nodeB t = true) (hu : Sep u) : kindOf (writeT t ++ u) = t.kind := by
 have hr := nodeB_k hn
 have hs := sep_head hu
 rw [write_eq]
 by_cases h1 : t.kind = 1
 · rw [if_pos h1]
   have ht : (Lib.itoa t.n).all tokc = true := List.all_eq_true.2 fun c hc => tok_num (itoa_char hc)
   have w := word_of ht hu.ends
   have hne := itoa_ne t.n
   have hch : ∀ c ∈ Lib.itoa t.n, c.toNat = 45 ∨ (48 ≤ c.toNat ∧ c.toNat ≤ 57) := fun c hc => itoa_char hc
   generalize Lib.itoa t.n = x at *
   cases x with
   | nil => exact absurd rfl hne
   | cons c x =>
     have hc := hch c (by simp)
     have q1 : openS (c :: x) ≠ true := fun h => by
       simp only [openS, Bool.or_eq_true, decide_eq_true_eq, List.cons.injEq] at h
       rcases h with ⟨rfl, _⟩ | ⟨rfl, _⟩ <;> revert hc <;> decide
     have q2 : c ≠ 39 := by rintro rfl; revert hc; decide
     have q3 : ¬ (c :: x = [116, 114, 117, 101] ∨ c :: x = [102, 97, 108, 115, 101]) := by
       simp only [List.cons.injEq]
       rintro (⟨rfl, _⟩ | ⟨rfl, _⟩) <;> revert hc <;> decide
     rw [kindOf, w.1, w.2, if_neg hne, if_neg hs.1, if_neg hs.2, if_neg q1, if_neg (by simpa using q2), if_neg q3, h1]
 by_cases h2 : t.kind = 2
 · rw [if_neg h1, if_pos h2, h2]
   have w := fun (x : Str) (h : x.all tokc = true) => word_of h hu.ends
   cases hb : decide (t.n = 1) with
   | true =>
     have w := w (boolW true) (by decide)
     rw [kindOf, w.1, w.2, if_neg (by decide), if_neg hs.1, if_neg hs.2, if_neg (by decide), if_neg (by simp [boolW]), if_pos (by decide)]
   | false =>
     have w := w (boolW false) (by decide)
     rw [kindOf, w.1, w.2, if_neg (by decide), if_neg hs.1, if_neg hs.2, if_neg (by decide), if_neg (by simp [boolW]), if_pos (by decide)]
 by_cases h3 : t.kind = 3
 · rw [if_neg h1, if_neg h2, if_pos h3, h3, List.cons_append, kindOf, if_pos (word_nil (by decide)), if_pos (by rfl)]
 by_cases h4 : t.kind = 4
 · rw [if_neg h1, if_neg h2, if_neg h3, if_pos h4, h4]
   rw [nodeB_4 h4, Bool.and_eq_true] at hn
   have hnm : isName t.text = true := by
     have := hn.1
     simp only [isId, Bool.and_eq_true] at this
     first | exact this.1.1.1 | exact this.1.1 | exact this.1.1.1.1 | exact this.1
   have w := word_of (x := 39 :: t.text) (by rw [List.all_cons, name_tok hnm]; rfl) hu.ends
   have q1 : openS (39 :: t.text) ≠ true := fun h => by
     simp only [openS, Bool.or_eq_true, decide_eq_true_eq, List.cons.injEq] at h
     rcases h with ⟨h, _⟩ | ⟨h, _⟩ <;> revert h <;> decide
   rw [kindOf, w.1, w.2, if_neg (by simp), if_neg hs.1, if_neg hs.2, if_neg q1, if_pos (by rfl)]
 by_cases h5 : t.kind = 5
 · rw [if_neg h1, if_neg h2, if_neg h3, if_neg h4, if_pos h5, h5]
   rw [nodeB_5 h5, Bool.and_eq_true, Bool.and_eq_true] at hn
   obtain ⟨c, v, e, _⟩ := op_first hn.1.1
   rw [List.append_assoc, List.cons_append]
   have w := word_of (u := 40 :: (listW (t.kids.map writeT) ++ [41] ++ u)) (op_tok hn.1.1) (ends_cons (by decide))
   rw [kindOf, w.1, w.2, if_neg (by rw [e]; simp), if_pos (by rfl)]
 by_cases h6 : t.kind = 6
 · rw [if_neg h1, if_neg h2, if_neg h3, if_neg h4, if_neg h5, if_pos h6, h6]
   rcases bool_em (openS t.text) with ho | ho
   · rw [if_pos ho, List.append_nil]
     have ht : t.text.all tokc = true := by
       have := ho
       simp only [openS, Bool.or_eq_true, decide_eq_true_eq] at this
       rcases this with e | e <;> rw [e] <;> decide
     have hne : t.text ≠ [] := by rintro e; rw [e] at ho; revert ho; decide
     have w := word_of ht hu.ends
     rw [kindOf, w.1, w.2, if_neg hne, if_neg hs.1, if_neg hs.2, if_pos ho]
   · rw [if_neg (by rw [ho]; simp), List.append_assoc]
     simp only [nodeB, h6, ho, Int.reduceEq, if_false, Bool.false_eq_true, if_true, Bool.and_eq_true] at hn
     obtain ⟨c, v, e, _⟩ := name_first hn.1.1
     have w := word_of (u := 58 :: t.sort ++ u) (name_tok hn.1.1) (ends_cons (by decide))
     rw [kindOf, w.1, w.2, if_neg (by rw [e]; simp), if_neg (by simp), if_pos (by rfl)]
 by_cases h7 : t.kind = 7
 · rw [if_neg h1, if_neg h2, if_neg h3, if_neg h4, if_neg h5, if_neg h6, if_pos h7, h7, List.cons_append, kindOf, if_pos (word_nil (by decide)), if_neg (by simp), if_pos (by rfl)]
 have h8 : t.kind = 8 := by omega
 rw [if_neg h1, if_neg h2, if_neg h3, if_neg h4, if_neg h5, if_neg h6, if_neg h7, if_pos h8, h8, List.cons_append, kindOf, if_pos (word_nil (by decide)), if_neg (by simp), if_neg (by simp)]

def Inj (t : LTerm) : Prop := ∀ (b : LTerm) (u v : Str), wfT nodeB b = true → Sep u → Sep v → writeT t ++ u = writeT b ++ v → t = b ∧ u = v
def Fst (c : UInt8) : Prop := c ≠ 32 ∧ c ≠ 41 ∧ c ≠ 44 ∧ c ≠ 93 ∧ c ≠ 124 ∧ c ≠ 125
theorem fst_tok {c : UInt8} (h : tokc c = true) : Fst c := by
 refine ⟨?_, ?_, ?_, ?_, ?_, ?_⟩ <;> rintro rfl <;> revert h <;> decide
theorem fst_of (t : LTerm) (hn : nodeB t = true) : ∃ c w, writeT t = c :: w ∧ Fst c := by
 have hr := nodeB_k hn
 have tk : ∀ {x : Str} (y : Str), x.all tokc = true → x ≠ [] → ∃ c w, x ++ y = c :: w ∧ Fst c := by
   intro x y hx hne
   cases x with
   | nil => exact absurd rfl hne
   | cons c x =>
     rw [List.all_cons, Bool.and_eq_true] at hx
     exact ⟨c, x ++ y, rfl, fst_tok hx.1⟩
 rw [write_eq]
 by_cases h1 : t.kind = 1
 · rw [if_pos h1]
   have := tk [] (x := Lib.itoa t.n) (List.all_eq_true.2 fun c hc => tok_num (itoa_char hc)) (itoa_ne _)
   rwa [List.append_nil] at this
 by_cases h2 : t.kind = 2
 · rw [if_neg h1, if_pos h2]
   cases decide (t.n = 1)
   · exact ⟨102, _, rfl, fst_tok (by decide)⟩
   · exact ⟨116, _, rfl, fst_tok (by decide)⟩
 by_cases h3 : t.kind = 3
 · rw [if_neg h1, if_neg h2, if_pos h3]; exact ⟨_, _, rfl, by unfold Fst; decide⟩
 by_cases h4 : t.kind = 4
 · rw [if_neg h1, if_neg h2, if_neg h3, if_pos h4]; exact ⟨_, _, rfl, by unfold Fst; decide⟩
 by_cases h5 : t.kind = 5
 · rw [if_neg h1, if_neg h2, if_neg h3, if_neg h4, if_pos h5]
   rw [nodeB_5 h5, Bool.and_eq_true, Bool.and_eq_true] at hn
   obtain ⟨c, v, e, _⟩ := op_first hn.1.1
   exact tk _ (op_tok hn.1.1) (by rw [e]; simp)
 by_cases h6 : t.kind = 6
 · rw [if_neg h1, if_neg h2, if_neg h3, if_neg h4, if_neg h5, if_pos h6]
   rcases bool_em (openS t.text) with ho | ho
   · rw [if_pos ho, List.append_nil]
     simp only [openS, Bool.or_eq_true, decide_eq_true_eq] at ho
     rcases ho with e | e <;> rw [e] <;> exact ⟨_, _, rfl, by unfold Fst; decide⟩
   · simp only [nodeB, h6, ho, Int.reduceEq, if_false, Bool.false_eq_true, if_true, Bool.and_eq_true] at hn
     obtain ⟨c, v, e, _⟩ := name_first hn.1.1
     exact tk _ (name_tok hn.1.1) (by rw [e]; simp)
 by_cases h7 : t.kind = 7
 · rw [if_neg h1, if_neg h2, if_neg h3, if_neg h4, if_neg h5, if_neg h6, if_pos h7]; exact ⟨_, _, rfl, by unfold Fst; decide⟩
 have h8 : t.kind = 8 := by omega
 rw [if_neg h1, if_neg h2, if_neg h3, if_neg h4, if_neg h5, if_neg h6, if_neg h7, if_pos h8]; exact ⟨_, _, rfl, by unfold Fst; decide⟩
def Clo (u : Str) : Prop := ∀ c w, u = c :: w → c = 32 ∨ c = 41 ∨ c = 93 ∨ c = 125
def Clo0 (u : Str) : Prop := ∀ c w, u = c :: w → c = 32 ∨ c = 41 ∨ c = 93 ∨ c = 125 ∨ c = 124
theorem Clo.sep {u : Str} (h : Clo u) : Sep u := fun c w e => by
 rcases h c w e with rfl | rfl | rfl | rfl <;> simp
theorem clo_cons {c : UInt8} {w : Str} (h : c = 32 ∨ c = 41 ∨ c = 93 ∨ c = 125) : Clo (c :: w) := fun d v e => by cases e; exact h
theorem clo0_fst {u : Str} (h : Clo0 u) {c : UInt8} {w : Str} (e : u = c :: w) (hf : Fst c) : False := by
 rcases h c w e with rfl | rfl | rfl | rfl | rfl <;> simp [Fst] at hf
def tailW (l : List LTerm) : Str := (l.map writeT).flatMap fun s => 44 :: 32 :: s
theorem tailW_sep {l : List LTerm} {u : Str} (h : Clo u) : Sep (tailW l ++ u) := by
 cases l with
 | nil => exact h.sep
 | cons a l => exact sep_cons (by simp)
theorem tail_inj : ∀ (l m : List LTerm) (u v : Str), (∀ t ∈ l, Inj t) → (∀ t ∈ m, wfT nodeB t = true) → Clo u → Clo v → tailW l ++ u = tailW m ++ v → l = m ∧ u = v
 | [], [], u, v, _, _, _, _, h => ⟨rfl, h⟩
 | [], b :: m, u, v, _, _, hu, _, h => by
   rcases hu 44 _ h with e | e | e | e <;> exact absurd e (by decide)
 | a :: l, [], u, v, _, _, _, hv, h => by
   rcases hv 44 _ h.symm with e | e | e | e <;> exact absurd e (by decide)
 | a :: l, b :: m, u, v, hi, hm, hu, hv, h => by
   have h' : writeT a ++ (tailW l ++ u) = writeT b ++ (tailW m ++ v) := by
     have : (44 :: 32 :: (writeT a ++ (tailW l ++ u)) : Str) = 44 :: 32 :: (writeT b ++ (tailW m ++ v)) := by
       simpa only [tailW, List.map_cons, List.flatMap_cons, List.cons_append, List.append_assoc] using h
     exact (List.cons.inj (List.cons.inj this).2).2
   obtain ⟨e1, e2⟩ := hi a (by simp) b _ _ (hm b (by simp)) (tailW_sep hu) (tailW_sep hv) h'
   obtain ⟨e3, e4⟩ := tail_inj l m u v (fun t ht => hi t (by simp [ht])) (fun t ht => hm t (by simp [ht])) hu hv e2
   exact ⟨by rw [e1, e3], e4⟩
theorem listW_cons {a : LTerm} {l : List LTerm} {u : Str} : listW ((a :: l).map writeT) ++ u = writeT a ++ (tailW l ++ u) := by
 simp only [List.map_cons, listW, tailW, List.append_assoc]
theorem list_inj (l m : List LTerm) (u v : Str) (hi : ∀ t ∈ l, Inj t) (hw : ∀ t ∈ l, wfT nodeB t = true) (hm : ∀ t ∈ m, wfT nodeB t = true) (hu : Clo0 u) (hv : Clo0 v) (hu' : l ≠ [] → Clo u) (hv' : m ≠ [] → Clo v) (h : listW (l.map writeT) ++ u = listW (m.map writeT) ++ v) : l = m ∧ u = v := by
 cases l with
 | nil =>
   cases m with
   | nil => exact ⟨rfl, h⟩
   | cons b m =>
     exfalso
     rw [listW_cons] at h
     obtain ⟨c, w, e, hf⟩ := fst_of b (wfT_eq.1 (hm b (by simp))).1
     rw [e] at h
     exact clo0_fst hu h hf
 | cons a l =>
   cases m with
   | nil =>
     exfalso
     rw [listW_cons] at h
     obtain ⟨c, w, e, hf⟩ := fst_of a (wfT_eq.1 (hw a (by simp))).1
     rw [e] at h
     exact clo0_fst hv h.symm hf
   | cons b m =>
     rw [listW_cons, listW_cons] at h
     have cu := hu' (by simp)
     have cv := hv' (by simp)
     obtain ⟨e1, e2⟩ := hi a (by simp) b _ _ (hm b (by simp)) (tailW_sep cu) (tailW_sep cv) h
     obtain ⟨e3, e4⟩ := tail_inj l m u v (fun t ht => hi t (by simp [ht])) (fun t ht => hm t (by simp [ht])) cu cv e2
     exact ⟨by rw [e1, e3], e4⟩
def tailP (l : List LTerm) : Str := (pairW (l.map writeT)).flatMap fun s => 44 :: 32 :: s
theorem tailP_cons {a b : LTerm} {l : List LTerm} {u : Str} : tailP (a :: b :: l) ++ u = 44 :: 32 :: (writeT a ++ (32 :: 45 :: 62 :: 32 :: (writeT b ++ (tailP l ++ u)))) := by
 simp only [tailP, List.map_cons, pairW, List.flatMap_cons, List.cons_append, List.append_assoc]
theorem tailP_sep {l : List LTerm} {u : Str} (h : Clo u) : Sep (tailP l ++ u) := by
 unfold tailP
 cases pairW (l.map writeT) with
 | nil => exact h.sep
 | cons a l => exact sep_cons (by simp)
theorem pair_inj {a b c d : LTerm} {u v : Str} (ha : Inj a) (hb : Inj b) (hc : wfT nodeB c = true) (hd : wfT nodeB d = true) (hu : Sep u) (hv : Sep v) (h : writeT a ++ (32 :: 45 :: 62 :: 32 :: (writeT b ++ u)) = writeT c ++ (32 :: 45 :: 62 :: 32 :: (writeT d ++ v))) : a = c ∧ b = d ∧ u = v := by
 obtain ⟨e1, e2⟩ := ha c _ _ hc (sep_cons (by simp)) (sep_cons (by simp)) h
 simp only [List.cons.injEq, true_and] at e2
 obtain ⟨e3, e4⟩ := hb d _ _ hd hu hv e2
 exact ⟨e1, e3, e4⟩
theorem tailP_inj : ∀ (l m : List LTerm) (u v : Str), l.length % 2 = 0 → m.length % 2 = 0 → (∀ t ∈ l, Inj t) → (∀ t ∈ m, wfT nodeB t = true) → Clo u → Clo v → tailP l ++ u = tailP m ++ v → l = m ∧ u = v
 | [], [], u, v, _, _, _, _, _, _, h => ⟨rfl, h⟩
 | [_], _, u, v, hl, _, _, _, _, _, _ => by simp at hl
 | _, [_], u, v, _, hm, _, _, _, _, _ => by simp at hm
 | [], b :: b' :: m, u, v, _, _, _, _, hu, _, h => by
   rw [tailP_cons] at h
   rcases hu 44 _ h with e | e | e | e <;> exact absurd e (by decide)
 | a :: a' :: l, [], u, v, _, _, _, _, _, hv, h => by
   rw [tailP_cons] at h
   rcases hv 44 _ h.symm with e | e | e | e <;> exact absurd e (by decide)
 | a :: a' :: l, b :: b' :: m, u, v, hl, hm, hi, hw, hu, hv, h => by
   rw [tailP_cons, tailP_cons] at h
   have h' := (List.cons.inj (List.cons.inj h).2).2
   obtain ⟨e1, e2, e3⟩ := pair_inj (hi a (by simp)) (hi a' (by simp)) (hw b (by simp)) (hw b' (by simp)) (tailP_sep hu) (tailP_sep hv) h'
   obtain ⟨e4, e5⟩ := tailP_inj l m u v (by simp only [List.length_cons] at hl; omega) (by simp only [List.length_cons] at hm; omega) (fun t ht => hi t (by simp [ht])) (fun t ht => hw t (by simp [ht])) hu hv e3
   exact ⟨by rw [e1, e2, e4], e5⟩
theorem pairW_cons {a b : LTerm} {l : List LTerm} {u : Str} : listW (pairW ((a :: b :: l).map writeT)) ++ u = writeT a ++ (32 :: 45 :: 62 :: 32 :: (writeT b ++ (tailP l ++ u))) := by
 simp only [List.map_cons, pairW, listW, tailP, List.append_assoc, List.cons_append]
theorem map_inj (l m : List LTerm) (u v : Str) (hl : l.length % 2 = 0) (hm : m.length % 2 = 0) (hi : ∀ t ∈ l, Inj t) (hw : ∀ t ∈ l, wfT nodeB t = true) (hm' : ∀ t ∈ m, wfT nodeB t = true) (hu : Clo0 u) (hv : Clo0 v) (hu' : l ≠ [] → Clo u) (hv' : m ≠ [] → Clo v) (h : listW (pairW (l.map writeT)) ++ u = listW (pairW (m.map writeT)) ++ v) : l = m ∧ u = v := by
 match l, m, hl, hm, hi, hw, hm', hu', hv', h with
 | [], [], _, _, _, _, _, _, _, h => exact ⟨rfl, h⟩
 | [_], _, hl, _, _, _, _, _, _, _ => simp at hl
 | _, [_], _, hm, _, _, _, _, _, _ => simp at hm
 | [], b :: b' :: m, _, _, _, _, hm', _, _, h =>
   exfalso
   rw [pairW_cons] at h
   obtain ⟨c, w, e, hf⟩ := fst_of b (wfT_eq.1 (hm' b (by simp))).1
   rw [e] at h
   exact clo0_fst hu h hf
 | a :: a' :: l, [], _, _, _, hw, _, _, _, h =>
   exfalso
   rw [pairW_cons] at h
   obtain ⟨c, w, e, hf⟩ := fst_of a (wfT_eq.1 (hw a (by simp))).1
   rw [e] at h
   exact clo0_fst hv h.symm hf
 | a :: a' :: l, b :: b' :: m, hl, hm, hi, hw, hm', hu', hv', h =>
   rw [pairW_cons, pairW_cons] at h
   have cu := hu' (by simp)
   have cv := hv' (by simp)
   obtain ⟨e1, e2, e3⟩ := pair_inj (hi a (by simp)) (hi a' (by simp)) (hm' b (by simp)) (hm' b' (by simp)) (tailP_sep cu) (tailP_sep cv) h
   obtain ⟨e4, e5⟩ := tailP_inj l m u v (by simp only [List.length_cons] at hl; omega) (by simp only [List.length_cons] at hm; omega) (fun t ht => hi t (by simp [ht])) (fun t ht => hm' t (by simp [ht])) cu cv e3
   exact ⟨by rw [e1, e2, e4], e5⟩
structure OneR (r : LTerm) (so : Str) : Prop where
 k : r.kind = 6
 n : r.n = 0
 name : isName r.text = true
 sort : r.sort = so
 kids : r.kids = []
 rest : r.rest = []
theorem rest_one {t : LTerm} {so : Str} (h : restB t so = true) : t.rest = [] ∨ ∃ r, t.rest = [r] ∧ OneR r so := by
 simp only [restB, zeroB, Bool.or_eq_true, Bool.and_eq_true, decide_eq_true_eq, Bool.false_eq_true, false_or, true_or, and_true, true_and] at h
 rcases h with h | h
 · exact .inl (List.length_eq_zero_iff.1 h)
 · obtain ⟨⟨⟨⟨ha, hb⟩, hc⟩, hd⟩, ⟨he, hf⟩, hg⟩ := h
   obtain ⟨u, hu⟩ := List.length_eq_one_iff.1 ha
   rw [hu] at hb hc hd he hf hg
   exact .inr ⟨u, hu, hb, he, hc, hd, hf, hg⟩
theorem OneR.eq {r q : LTerm} {so : Str} (a : OneR r so) (b : OneR q so) (h : r.text = q.text) : r = q := by
 rw [LTerm.ext_iff]
 exact ⟨by rw [a.k, b.k], by rw [a.n, b.n], h, by rw [a.sort, b.sort], by rw [a.kids, b.kids], by rw [a.rest, b.rest]⟩
theorem restW_clo0 {n : Nat} {t : LTerm} {so : Str} {c : UInt8} {w : Str} (h : restB t so = true) (hc : c = 93 ∨ c = 125) : Clo0 (restW n t.rest ++ c :: w) := by
 intro d v e
 rcases rest_one h with hr | ⟨r, hr, _⟩
 · rw [hr] at e
   cases e
   rcases hc with rfl | rfl <;> simp
 · rw [hr, restW, List.flatMap_cons, List.flatMap_nil, List.append_nil, oneRest] at e
   split at e <;> cases e <;> simp
theorem restW_clo {n : Nat} {t : LTerm} {so : Str} {c : UInt8} {w : Str} (h : restB t so = true) (hc : c = 93 ∨ c = 125) (hn : 0 < n) : Clo (restW n t.rest ++ c :: w) := by
 intro d v e
 rcases rest_one h with hr | ⟨r, hr, _⟩
 · rw [hr] at e
   cases e
   rcases hc with rfl | rfl <;> simp
 · rw [hr, restW, List.flatMap_cons, List.flatMap_nil, List.append_nil, oneRest, if_pos hn] at e
   cases e; simp
theorem rest_inj {n : Nat} {t b : LTerm} {so : Str} {c : UInt8} {u v : Str} (ht : restB t so = true) (hb : restB b so = true) (hc : c = 93 ∨ c = 125) (h : restW n t.rest ++ c :: u = restW n b.rest ++ c :: v) : t.rest = b.rest ∧ u = v := by
 have hcs : Ends (c :: u) ∧ Ends (c :: v) := by rcases hc with rfl | rfl <;> exact ⟨ends_cons (by decide), ends_cons (by decide)⟩
 have one : ∀ r : LTerm, restW n [r] = oneRest n r := fun r => by simp [restW]
 have no : ∀ (r : LTerm) (x y : Str), c :: x = oneRest n r ++ y → False := fun r x y e => by
   rw [oneRest] at e
   split at e <;> cases e <;> rcases hc with h | h <;> revert h <;> decide
 rcases rest_one ht with e1 | ⟨r, e1, o1⟩ <;> rcases rest_one hb with e2 | ⟨q, e2, o2⟩ <;> rw [e1, e2] at h ⊢
 · exact ⟨rfl, (List.cons.inj h).2⟩
 · rw [one] at h; exact (no q _ _ h).elim
 · rw [one] at h; exact (no r _ _ h.symm).elim
 · rw [one, one, oneRest, oneRest] at h
   have h' : r.text ++ c :: u = q.text ++ c :: v := by
     have := List.append_cancel_left (by simpa only [List.append_assoc, List.cons_append, List.nil_append] using h : (if 0 < n then ([32] : Str) else []) ++ 124 :: 32 :: (r.text ++ c :: u) = (if 0 < n then [32] else []) ++ 124 :: 32 :: (q.text ++ c :: v))
     exact (List.cons.inj (List.cons.inj this).2).2
   obtain ⟨e3, e4⟩ := tok_split (name_tok o1.name) (name_tok o2.name) hcs.1 hcs.2 h'
   exact ⟨by rw [o1.eq o2 e3], (List.cons.inj e4).2⟩
theorem text_split : ∀ {x y u v : Str}, x.all textOk = true → y.all textOk = true → x ++ 34 :: u = y ++ 34 :: v → x = y ∧ u = v
 | [], [], u, v, _, _, h => ⟨rfl, (List.cons.inj h).2⟩
 | [], d :: y, u, v, _, hy, h => by
   rw [List.all_cons, Bool.and_eq_true] at hy
   rw [List.nil_append, List.cons_append, List.cons.injEq] at h
   rw [← h.1] at hy
   exact absurd hy.1 (by decide)
 | c :: x, [], u, v, hx, _, h => by
   rw [List.all_cons, Bool.and_eq_true] at hx
   rw [List.nil_append, List.cons_append, List.cons.injEq] at h
   rw [h.1] at hx
   exact absurd hx.1 (by decide)
 | c :: x, d :: y, u, v, hx, hy, h => by
   rw [List.all_cons, Bool.and_eq_true] at hx hy
   rw [List.cons_append, List.cons_append, List.cons.injEq] at h
   have := text_split hx.2 hy.2 h.2
   exact ⟨by rw [h.1, this.1], this.2⟩
theorem inj_all : ∀ t : LTerm, wfT nodeB t = true → Inj t :=
 term_ind (Q := fun t => wfT nodeB t = true → Inj t) fun t hk _ hw b u v hwb hu hv h => by
   rw [wfT_eq] at hw hwb
   have ek : t.kind = b.kind := by rw [← kind_of t u hw.1 hu, ← kind_of b v hwb.1 hv, h]
   have hi : ∀ k ∈ t.kids, Inj k := fun k hm => hk k hm (hw.2 k hm)
   obtain ⟨hn, hwk⟩ := hw
   obtain ⟨hnb, hwbk⟩ := hwb
   have hr := nodeB_k hn
   rw [write_eq t, write_eq b] at h
   rw [LTerm.ext_iff]
   have Z : ∀ {x : LTerm} {p a1 a2 a3 a4 a5}, (p && zeroB x a1 a2 a3 a4 a5) = true → (a1 = false → x.n = 0) ∧ (a2 = false → x.text = []) ∧ (a3 = false → x.sort = []) ∧ (a4 = false → x.kids = []) ∧ (a5 = false → x.rest = []) := by
     intro x p a1 a2 a3 a4 a5 h
     simp only [zeroB, Bool.and_eq_true, Bool.or_eq_true, decide_eq_true_eq] at h
     obtain ⟨_, ⟨⟨⟨q1, q2⟩, q3⟩, q4⟩, q5⟩ := h
     exact ⟨fun e => q1.resolve_left (by rw [e]; simp), fun e => q2.resolve_left (by rw [e]; simp), fun e => q3.resolve_left (by rw [e]; simp), fun e => q4.resolve_left (by rw [e]; simp), fun e => q5.resolve_left (by rw [e]; simp)⟩
   by_cases h1 : t.kind = 1
   · have h1b : b.kind = 1 := by omega
     rw [if_pos h1, if_pos h1b] at h
     obtain ⟨e1, e2⟩ := tok_split (List.all_eq_true.2 fun c hc => tok_num (itoa_char hc)) (List.all_eq_true.2 fun c hc => tok_num (itoa_char hc)) hu.ends hv.ends h
     rw [nodeB_1 h1] at hn
     rw [nodeB_1 h1b] at hnb
     obtain ⟨_, z2, z3, z4, z5⟩ := Z hn
     obtain ⟨_, y2, y3, y4, y5⟩ := Z hnb
     exact ⟨⟨ek, itoa_inj e1, by rw [z2 rfl, y2 rfl], by rw [z3 rfl, y3 rfl], by rw [z4 rfl, y4 rfl], by rw [z5 rfl, y5 rfl]⟩, e2⟩
   by_cases h2 : t.kind = 2
   · have h2b : b.kind = 2 := by omega
     rw [if_neg h1, if_neg (show ¬ b.kind = 1 by omega), if_pos h2, if_pos h2b] at h
     have tb : ∀ x, (boolW x).all tokc = true := by decide
     obtain ⟨e1, e2⟩ := tok_split (tb _) (tb _) hu.ends hv.ends h
     rw [nodeB_2 h2] at hn
     rw [nodeB_2 h2b] at hnb
     obtain ⟨_, z2, z3, z4, z5⟩ := Z hn
     obtain ⟨_, y2, y3, y4, y5⟩ := Z hnb
     have ib : ∀ x y, boolW x = boolW y → x = y := by decide
     have e3 := ib _ _ e1
     rw [decide_eq_decide] at e3
     simp only [Bool.and_eq_true, Bool.or_eq_true, decide_eq_true_eq] at hn hnb
     exact ⟨⟨ek, by omega, by rw [z2 rfl, y2 rfl], by rw [z3 rfl, y3 rfl], by rw [z4 rfl, y4 rfl], by rw [z5 rfl, y5 rfl]⟩, e2⟩
   by_cases h3 : t.kind = 3
   · have h3b : b.kind = 3 := by omega
     rw [if_neg h1, if_neg (show ¬ b.kind = 1 by omega), if_neg h2, if_neg (show ¬ b.kind = 2 by omega), if_pos h3, if_pos h3b] at h
     rw [nodeB_3 h3] at hn
     rw [nodeB_3 h3b] at hnb
     obtain ⟨z1, _, z3, z4, z5⟩ := Z hn
     obtain ⟨y1, _, y3, y4, y5⟩ := Z hnb
     simp only [isText, Bool.and_eq_true] at hn hnb
     simp only [List.cons_append, List.append_assoc, List.nil_append, List.cons.injEq, true_and] at h
     obtain ⟨e1, e2⟩ := text_split hn.1.1 hnb.1.1 h
     exact ⟨⟨ek, by rw [z1 rfl, y1 rfl], e1, by rw [z3 rfl, y3 rfl], by rw [z4 rfl, y4 rfl], by rw [z5 rfl, y5 rfl]⟩, e2⟩
   by_cases h4 : t.kind = 4
   · have h4b : b.kind = 4 := by omega
     rw [if_neg h1, if_neg (show ¬ b.kind = 1 by omega), if_neg h2, if_neg (show ¬ b.kind = 2 by omega), if_neg h3, if_neg (show ¬ b.kind = 3 by omega), if_pos h4, if_pos h4b] at h
     rw [nodeB_4 h4] at hn
     rw [nodeB_4 h4b] at hnb
     obtain ⟨z1, _, z3, z4, z5⟩ := Z hn
     obtain ⟨y1, _, y3, y4, y5⟩ := Z hnb
     simp only [isId, Bool.and_eq_true, and_assoc] at hn hnb
     simp only [List.cons_append, List.cons.injEq, true_and] at h
     obtain ⟨e1, e2⟩ := tok_split (name_tok hn.1) (name_tok hnb.1) hu.ends hv.ends h
     exact ⟨⟨ek, by rw [z1 rfl, y1 rfl], e1, by rw [z3 rfl, y3 rfl], by rw [z4 rfl, y4 rfl], by rw [z5 rfl, y5 rfl]⟩, e2⟩
   by_cases h5 : t.kind = 5
   · have h5b : b.kind = 5 := by omega
     rw [if_neg h1, if_neg (show ¬ b.kind = 1 by omega), if_neg h2, if_neg (show ¬ b.kind = 2 by omega), if_neg h3, if_neg (show ¬ b.kind = 3 by omega), if_neg h4, if_neg (show ¬ b.kind = 4 by omega), if_pos h5, if_pos h5b] at h
     rw [nodeB_5 h5] at hn
     rw [nodeB_5 h5b] at hnb
     obtain ⟨z1, _, z3, _, z5⟩ := Z hn
     obtain ⟨y1, _, y3, _, y5⟩ := Z hnb
     simp only [Bool.and_eq_true, and_assoc] at hn hnb
     simp only [List.cons_append, List.append_assoc, List.nil_append] at h
     obtain ⟨e1, e2⟩ := tok_split (op_tok hn.1) (op_tok hnb.1) (ends_cons (by decide)) (ends_cons (by decide)) h
     have e2 := (List.cons.inj e2).2
     obtain ⟨e3, e4⟩ := list_inj t.kids b.kids (41 :: u) (41 :: v) hi hwk hwbk (fun c w e => by cases e; simp) (fun c w e => by cases e; simp) (fun _ => clo_cons (by simp)) (fun _ => clo_cons (by simp)) e2
     exact ⟨⟨ek, by rw [z1 rfl, y1 rfl], e1, by rw [z3 rfl, y3 rfl], e3, by rw [z5 rfl, y5 rfl]⟩, (List.cons.inj e4).2⟩
   by_cases h6 : t.kind = 6
   · have h6b : b.kind = 6 := by omega
     rw [if_neg h1, if_neg (show ¬ b.kind = 1 by omega), if_neg h2, if_neg (show ¬ b.kind = 2 by omega), if_neg h3, if_neg (show ¬ b.kind = 3 by omega), if_neg h4, if_neg (show ¬ b.kind = 4 by omega), if_neg h5, if_neg (show ¬ b.kind = 5 by omega), if_pos h6, if_pos h6b] at h
     have op : ∀ x : Str, openS x = true → x.all tokc = true := fun x hx => by
       simp only [openS, Bool.or_eq_true, decide_eq_true_eq] at hx
       rcases hx with e | e <;> rw [e] <;> decide
     have O : ∀ x : LTerm, x.kind = 6 → nodeB x = true → x.n = 0 ∧ x.kids = [] ∧ x.rest = [] ∧ x.text.all tokc = true ∧ (openS x.text = true → x.sort = anyN) ∧ (openS x.text = false → isName x.text = true ∧ isName x.sort = true) := by
       intro x hx hnx
       rcases bool_em (openS x.text) with ho | ho
       · simp only [nodeB, hx, ho, Int.reduceEq, if_false, if_true] at hnx
         obtain ⟨z1, _, _, z4, z5⟩ := Z hnx
         simp only [Bool.and_eq_true, decide_eq_true_eq] at hnx
         exact ⟨z1 rfl, z4 rfl, z5 rfl, op _ ho, fun _ => hnx.1, fun hf => by rw [ho] at hf; cases hf⟩
       · simp only [nodeB, hx, ho, Int.reduceEq, if_false, Bool.false_eq_true, if_true] at hnx
         obtain ⟨z1, _, _, z4, z5⟩ := Z hnx
         simp only [Bool.and_eq_true] at hnx
         exact ⟨z1 rfl, z4 rfl, z5 rfl, name_tok hnx.1.1, fun hf => (by rw [ho] at hf; cases hf), fun _ => hnx.1⟩
     obtain ⟨z1, z4, z5, zt, zo, zn⟩ := O t h6 hn
     obtain ⟨y1, y4, y5, yt, yo, yn⟩ := O b h6b hnb
     rw [List.append_assoc, List.append_assoc] at h
     have en : ∀ (x : LTerm) (w : Str), Sep w → Ends ((if openS x.text = true then [] else 58 :: x.sort) ++ w) := fun x w hs => by
       split
       · exact hs.ends
       · exact ends_cons (by decide)
     obtain ⟨e1, e2⟩ := tok_split zt yt (en t u hu) (en b v hv) h
     rcases bool_em (openS t.text) with ho | ho
     · have hob : openS b.text = true := by rw [← e1]; exact ho
       rw [if_pos ho, if_pos hob] at e2
       exact ⟨⟨ek, by rw [z1, y1], e1, by rw [zo ho, yo hob], by rw [z4, y4], by rw [z5, y5]⟩, e2⟩
     · have hob : openS b.text = false := by rw [← e1]; exact ho
       rw [if_neg (by rw [ho]; simp), if_neg (by rw [hob]; simp)] at e2
       simp only [List.cons_append, List.cons.injEq, true_and] at e2
       obtain ⟨e3, e4⟩ := tok_split (name_tok (zn ho).2) (name_tok (yn hob).2) hu.ends hv.ends e2
       exact ⟨⟨ek, by rw [z1, y1], e1, e3, by rw [z4, y4], by rw [z5, y5]⟩, e4⟩
   have ln : ∀ {α : Type} (l : List α), l ≠ [] → 0 < l.length := fun l h => List.length_pos_iff.2 h
   by_cases h7 : t.kind = 7
   · have h7b : b.kind = 7 := by omega
     rw [if_neg h1, if_neg (show ¬ b.kind = 1 by omega), if_neg h2, if_neg (show ¬ b.kind = 2 by omega), if_neg h3, if_neg (show ¬ b.kind = 3 by omega), if_neg h4, if_neg (show ¬ b.kind = 4 by omega), if_neg h5, if_neg (show ¬ b.kind = 5 by omega), if_neg h6, if_neg (show ¬ b.kind = 6 by omega), if_pos h7, if_pos h7b] at h
     rw [nodeB_7 h7] at hn
     rw [nodeB_7 h7b] at hnb
     obtain ⟨z1, z2, z3, _, _⟩ := Z hn
     obtain ⟨y1, y2, y3, _, _⟩ := Z hnb
     rw [Bool.and_eq_true] at hn hnb
     simp only [List.cons_append, List.append_assoc, List.nil_append, List.cons.injEq, true_and] at h
     obtain ⟨e3, e4⟩ := list_inj t.kids b.kids _ _ hi hwk hwbk (restW_clo0 hn.1 (by simp)) (restW_clo0 hnb.1 (by simp)) (fun hne => restW_clo hn.1 (by simp) (ln _ hne)) (fun hne => restW_clo hnb.1 (by simp) (ln _ hne)) h
     rw [e3] at e4
     obtain ⟨e5, e6⟩ := rest_inj hn.1 hnb.1 (by simp) e4
     exact ⟨⟨ek, by rw [z1 rfl, y1 rfl], by rw [z2 rfl, y2 rfl], by rw [z3 rfl, y3 rfl], e3, e5⟩, e6⟩
   have h8 : t.kind = 8 := by omega
   have h8b : b.kind = 8 := by omega
   rw [if_neg h1, if_neg (show ¬ b.kind = 1 by omega), if_neg h2, if_neg (show ¬ b.kind = 2 by omega), if_neg h3, if_neg (show ¬ b.kind = 3 by omega), if_neg h4, if_neg (show ¬ b.kind = 4 by omega), if_neg h5, if_neg (show ¬ b.kind = 5 by omega), if_neg h6, if_neg (show ¬ b.kind = 6 by omega), if_neg h7, if_neg (show ¬ b.kind = 7 by omega), if_pos h8, if_pos h8b] at h
   rw [nodeB_8 h8] at hn
   rw [nodeB_8 h8b] at hnb
   obtain ⟨z1, z2, z3, _, _⟩ := Z hn
   obtain ⟨y1, y2, y3, _, _⟩ := Z hnb
   simp only [Bool.and_eq_true, decide_eq_true_eq] at hn hnb
   simp only [List.cons_append, List.append_assoc, List.nil_append, List.cons.injEq, true_and] at h
   obtain ⟨e3, e4⟩ := map_inj t.kids b.kids _ _ hn.1.2 hnb.1.2 hi hwk hwbk (restW_clo0 hn.1.1 (by simp)) (restW_clo0 hnb.1.1 (by simp)) (fun hne => restW_clo hn.1.1 (by simp) (ln _ hne)) (fun hne => restW_clo hnb.1.1 (by simp) (ln _ hne)) h
   rw [e3] at e4
   obtain ⟨e5, e6⟩ := rest_inj hn.1.1 hnb.1.1 (by simp) e4
   exact ⟨⟨ek, by rw [z1 rfl, y1 rfl], by rw [z2 rfl, y2 rfl], by rw [z3 rfl, y3 rfl], e3, e5⟩, e6⟩
theorem write_inj {a b : LTerm} (ha : wfT nodeB a = true) (hb : wfT nodeB b = true) : writeT a = writeT b ↔ a = b := by
 refine ⟨fun h => ?_, fun h => by rw [h]⟩
 exact (inj_all a ha b [] [] hb sep_nil sep_nil (by rw [List.append_nil, List.append_nil]; exact h)).1

theorem textV_ok {t : LTerm} (h : (textV t).2 = 0) : validT nodeB t = true ∧ (textV t).1 = writeT t := by
 rcases bool_em (validT nodeB t) with hv | hv
 · by_cases hl : 20000 < (writeT t).length
   · rw [textV, if_pos hv, if_pos hl] at h; exact absurd h (by decide)
   · exact ⟨hv, by rw [textV, if_pos hv, if_neg hl]⟩
 · rw [textV, if_neg (by rw [hv]; simp)] at h; exact absurd h (by decide)
theorem ctr323 (t u : LTerm) (ht : OkT t) (hu : OkT u): CT 9 [elT t, elT u] (.b true) := by
 refine sem_introA mixed Tryz.func9 g0 ?_
 · simp -implicitDefEqProofs (disch := omega) only [Tryz.f9, go_sem, List.replicate, ↓reduceIte, reduceAdd, reduceSub, reduceMul, reduceLeDiff, reduceLT, reduceEqDiff, reduceNeg, Nat.reduceBEq, List.flatten_cons, List.flatten_nil, List.append_nil]
   have ft := few1 t ht
   have fu := few1 u hu
   have c1 := ctr344 t ht
   have c2 := ctr344 u hu
   rcases bool_em (fewP 2600 [t]) with h1 | h1
   · rw [h1] at ft
     rcases bool_em (fewP 2600 [u]) with h2 | h2
     · rw [h2] at fu
       by_cases h3 : (textV t).2 = 0
       · by_cases h4 : (textV u).2 = 0
         · have v1 := textV_ok h3
           have v2 := textV_ok h4
           have d := ctr264 t u ht hu
           have hs : decide ((textV t).1 = (textV u).1) = decide (t = u) := by
             rw [v1.2, v2.2, decide_eq_decide]; exact write_inj (valid_wf v1.1) (valid_wf v2.1)
           generalize textV t = p at *
           generalize textV u = q at *
           obtain ⟨x, e⟩ := p
           obtain ⟨y, f⟩ := q
           dsimp only at h3 h4 hs
           subst h3 h4
           (repeat' (first | refine gT ?_ ?_ | refine gF ?_ ?_ | refine gC ?_ ?_ | ((first | (refine c_ctrE (ft) ?_ ?_; (focus (simp -implicitDefEqProofs (disch := omega) only [List.flatMap_cons, List.flatMap_nil, List.append_nil, List.length_cons, List.length_nil, rep1t, List.flatten_cons, List.flatten_nil, sortAV, hs, eq_self, decide_true, avs, avb, avi, avo, sigCells, opCells, pairCells, elT, avt, termCells_eq, go_sem, ↓reduceIte, reduceAdd, reduceSub, reduceMul, reduceLeDiff, reduceLT, reduceEqDiff, reduceNeg, Nat.reduceBEq]; done))) | (refine c_ctrE (fu) ?_ ?_; (focus (simp -implicitDefEqProofs (disch := omega) only [List.flatMap_cons, List.flatMap_nil, List.append_nil, List.length_cons, List.length_nil, rep1t, List.flatten_cons, List.flatten_nil, sortAV, hs, eq_self, decide_true, avs, avb, avi, avo, sigCells, opCells, pairCells, elT, avt, termCells_eq, go_sem, ↓reduceIte, reduceAdd, reduceSub, reduceMul, reduceLeDiff, reduceLT, reduceEqDiff, reduceNeg, Nat.reduceBEq]; done))) | (refine c_ctrE (c1) ?_ ?_; (focus (simp -implicitDefEqProofs (disch := omega) only [List.flatMap_cons, List.flatMap_nil, List.append_nil, List.length_cons, List.length_nil, rep1t, List.flatten_cons, List.flatten_nil, sortAV, hs, eq_self, decide_true, avs, avb, avi, avo, sigCells, opCells, pairCells, elT, avt, termCells_eq, go_sem, ↓reduceIte, reduceAdd, reduceSub, reduceMul, reduceLeDiff, reduceLT, reduceEqDiff, reduceNeg, Nat.reduceBEq]; done))) | (refine c_ctrE (c2) ?_ ?_; (focus (simp -implicitDefEqProofs (disch := omega) only [List.flatMap_cons, List.flatMap_nil, List.append_nil, List.length_cons, List.length_nil, rep1t, List.flatten_cons, List.flatten_nil, sortAV, hs, eq_self, decide_true, avs, avb, avi, avo, sigCells, opCells, pairCells, elT, avt, termCells_eq, go_sem, ↓reduceIte, reduceAdd, reduceSub, reduceMul, reduceLeDiff, reduceLT, reduceEqDiff, reduceNeg, Nat.reduceBEq]; done))) | (refine c_ctrE (d) ?_ ?_; (focus (simp -implicitDefEqProofs (disch := omega) only [List.flatMap_cons, List.flatMap_nil, List.append_nil, List.length_cons, List.length_nil, rep1t, List.flatten_cons, List.flatten_nil, sortAV, hs, eq_self, decide_true, avs, avb, avi, avo, sigCells, opCells, pairCells, elT, avt, termCells_eq, go_sem, ↓reduceIte, reduceAdd, reduceSub, reduceMul, reduceLeDiff, reduceLT, reduceEqDiff, reduceNeg, Nat.reduceBEq]; done))) | (refine c_ctrE (ctr328) ?_ ?_; (focus (simp -implicitDefEqProofs (disch := omega) only [List.flatMap_cons, List.flatMap_nil, List.append_nil, List.length_cons, List.length_nil, rep1t, List.flatten_cons, List.flatten_nil, sortAV, hs, eq_self, decide_true, avs, avb, avi, avo, sigCells, opCells, pairCells, elT, avt, termCells_eq, go_sem, ↓reduceIte, reduceAdd, reduceSub, reduceMul, reduceLeDiff, reduceLT, reduceEqDiff, reduceNeg, Nat.reduceBEq]; done)))); simp -implicitDefEqProofs (disch := omega) only [List.flatMap_cons, List.flatMap_nil, List.append_nil, List.length_cons, List.length_nil, rep1t, List.flatten_cons, List.flatten_nil, sortAV, hs, eq_self, decide_true, go_sem, ↓reduceIte, reduceAdd, reduceSub, reduceMul, reduceLeDiff, reduceLT, reduceEqDiff, reduceNeg, Nat.reduceBEq]) | refine And.intro (by omega) ?_ | (intro hr; have hc := hr; (try simp only [zda, zdb, zdc, zdd] at hc); simp -implicitDefEqProofs (disch := omega) only [hr, List.flatMap_cons, List.flatMap_nil, List.append_nil, List.length_cons, List.length_nil, rep1t, List.flatten_cons, List.flatten_nil, sortAV, hs, eq_self, decide_true, go_sem, ↓reduceIte, reduceAdd, reduceSub, reduceMul, reduceLeDiff, reduceLT, reduceEqDiff, reduceNeg, Nat.reduceBEq]; (try clear hr))))
           all_goals exact fin_eq rfl rfl
         · generalize textV t = p at *
           generalize textV u = q at *
           obtain ⟨x, e⟩ := p
           obtain ⟨y, f⟩ := q
           dsimp only at h3 h4
           subst h3
           (repeat' (first | refine gT ?_ ?_ | refine gF ?_ ?_ | refine gC ?_ ?_ | ((first | (refine c_ctrE (ft) ?_ ?_; (focus (simp -implicitDefEqProofs (disch := omega) only [List.flatMap_cons, List.flatMap_nil, List.append_nil, List.length_cons, List.length_nil, rep1t, List.flatten_cons, List.flatten_nil, sortAV, h4, decide_false, eq_self, decide_true, avs, avb, avi, avo, sigCells, opCells, pairCells, elT, avt, termCells_eq, go_sem, ↓reduceIte, reduceAdd, reduceSub, reduceMul, reduceLeDiff, reduceLT, reduceEqDiff, reduceNeg, Nat.reduceBEq]; done))) | (refine c_ctrE (fu) ?_ ?_; (focus (simp -implicitDefEqProofs (disch := omega) only [List.flatMap_cons, List.flatMap_nil, List.append_nil, List.length_cons, List.length_nil, rep1t, List.flatten_cons, List.flatten_nil, sortAV, h4, decide_false, eq_self, decide_true, avs, avb, avi, avo, sigCells, opCells, pairCells, elT, avt, termCells_eq, go_sem, ↓reduceIte, reduceAdd, reduceSub, reduceMul, reduceLeDiff, reduceLT, reduceEqDiff, reduceNeg, Nat.reduceBEq]; done))) | (refine c_ctrE (c1) ?_ ?_; (focus (simp -implicitDefEqProofs (disch := omega) only [List.flatMap_cons, List.flatMap_nil, List.append_nil, List.length_cons, List.length_nil, rep1t, List.flatten_cons, List.flatten_nil, sortAV, h4, decide_false, eq_self, decide_true, avs, avb, avi, avo, sigCells, opCells, pairCells, elT, avt, termCells_eq, go_sem, ↓reduceIte, reduceAdd, reduceSub, reduceMul, reduceLeDiff, reduceLT, reduceEqDiff, reduceNeg, Nat.reduceBEq]; done))) | (refine c_ctrE (c2) ?_ ?_; (focus (simp -implicitDefEqProofs (disch := omega) only [List.flatMap_cons, List.flatMap_nil, List.append_nil, List.length_cons, List.length_nil, rep1t, List.flatten_cons, List.flatten_nil, sortAV, h4, decide_false, eq_self, decide_true, avs, avb, avi, avo, sigCells, opCells, pairCells, elT, avt, termCells_eq, go_sem, ↓reduceIte, reduceAdd, reduceSub, reduceMul, reduceLeDiff, reduceLT, reduceEqDiff, reduceNeg, Nat.reduceBEq]; done))) | (refine c_ctrE (ctr328) ?_ ?_; (focus (simp -implicitDefEqProofs (disch := omega) only [List.flatMap_cons, List.flatMap_nil, List.append_nil, List.length_cons, List.length_nil, rep1t, List.flatten_cons, List.flatten_nil, sortAV, h4, decide_false, eq_self, decide_true, avs, avb, avi, avo, sigCells, opCells, pairCells, elT, avt, termCells_eq, go_sem, ↓reduceIte, reduceAdd, reduceSub, reduceMul, reduceLeDiff, reduceLT, reduceEqDiff, reduceNeg, Nat.reduceBEq]; done)))); simp -implicitDefEqProofs (disch := omega) only [List.flatMap_cons, List.flatMap_nil, List.append_nil, List.length_cons, List.length_nil, rep1t, List.flatten_cons, List.flatten_nil, sortAV, h4, decide_false, eq_self, decide_true, go_sem, ↓reduceIte, reduceAdd, reduceSub, reduceMul, reduceLeDiff, reduceLT, reduceEqDiff, reduceNeg, Nat.reduceBEq]) | refine And.intro (by omega) ?_ | (intro hr; have hc := hr; (try simp only [zda, zdb, zdc, zdd] at hc); simp -implicitDefEqProofs (disch := omega) only [hr, List.flatMap_cons, List.flatMap_nil, List.append_nil, List.length_cons, List.length_nil, rep1t, List.flatten_cons, List.flatten_nil, sortAV, h4, decide_false, eq_self, decide_true, go_sem, ↓reduceIte, reduceAdd, reduceSub, reduceMul, reduceLeDiff, reduceLT, reduceEqDiff, reduceNeg, Nat.reduceBEq]; (try clear hr))))
           all_goals exact fin_eq rfl rfl
       · generalize textV t = p at *
         generalize textV u = q at *
         obtain ⟨x, e⟩ := p
         obtain ⟨y, f⟩ := q
         dsimp only at h3
         (repeat' (first | refine gT ?_ ?_ | refine gF ?_ ?_ | refine gC ?_ ?_ | ((first | (refine c_ctrE (ft) ?_ ?_; (focus (simp -implicitDefEqProofs (disch := omega) only [List.flatMap_cons, List.flatMap_nil, List.append_nil, List.length_cons, List.length_nil, rep1t, List.flatten_cons, List.flatten_nil, sortAV, h3, decide_false, eq_self, decide_true, avs, avb, avi, avo, sigCells, opCells, pairCells, elT, avt, termCells_eq, go_sem, ↓reduceIte, reduceAdd, reduceSub, reduceMul, reduceLeDiff, reduceLT, reduceEqDiff, reduceNeg, Nat.reduceBEq]; done))) | (refine c_ctrE (fu) ?_ ?_; (focus (simp -implicitDefEqProofs (disch := omega) only [List.flatMap_cons, List.flatMap_nil, List.append_nil, List.length_cons, List.length_nil, rep1t, List.flatten_cons, List.flatten_nil, sortAV, h3, decide_false, eq_self, decide_true, avs, avb, avi, avo, sigCells, opCells, pairCells, elT, avt, termCells_eq, go_sem, ↓reduceIte, reduceAdd, reduceSub, reduceMul, reduceLeDiff, reduceLT, reduceEqDiff, reduceNeg, Nat.reduceBEq]; done))) | (refine c_ctrE (c1) ?_ ?_; (focus (simp -implicitDefEqProofs (disch := omega) only [List.flatMap_cons, List.flatMap_nil, List.append_nil, List.length_cons, List.length_nil, rep1t, List.flatten_cons, List.flatten_nil, sortAV, h3, decide_false, eq_self, decide_true, avs, avb, avi, avo, sigCells, opCells, pairCells, elT, avt, termCells_eq, go_sem, ↓reduceIte, reduceAdd, reduceSub, reduceMul, reduceLeDiff, reduceLT, reduceEqDiff, reduceNeg, Nat.reduceBEq]; done))) | (refine c_ctrE (c2) ?_ ?_; (focus (simp -implicitDefEqProofs (disch := omega) only [List.flatMap_cons, List.flatMap_nil, List.append_nil, List.length_cons, List.length_nil, rep1t, List.flatten_cons, List.flatten_nil, sortAV, h3, decide_false, eq_self, decide_true, avs, avb, avi, avo, sigCells, opCells, pairCells, elT, avt, termCells_eq, go_sem, ↓reduceIte, reduceAdd, reduceSub, reduceMul, reduceLeDiff, reduceLT, reduceEqDiff, reduceNeg, Nat.reduceBEq]; done))) | (refine c_ctrE (ctr328) ?_ ?_; (focus (simp -implicitDefEqProofs (disch := omega) only [List.flatMap_cons, List.flatMap_nil, List.append_nil, List.length_cons, List.length_nil, rep1t, List.flatten_cons, List.flatten_nil, sortAV, h3, decide_false, eq_self, decide_true, avs, avb, avi, avo, sigCells, opCells, pairCells, elT, avt, termCells_eq, go_sem, ↓reduceIte, reduceAdd, reduceSub, reduceMul, reduceLeDiff, reduceLT, reduceEqDiff, reduceNeg, Nat.reduceBEq]; done)))); simp -implicitDefEqProofs (disch := omega) only [List.flatMap_cons, List.flatMap_nil, List.append_nil, List.length_cons, List.length_nil, rep1t, List.flatten_cons, List.flatten_nil, sortAV, h3, decide_false, eq_self, decide_true, go_sem, ↓reduceIte, reduceAdd, reduceSub, reduceMul, reduceLeDiff, reduceLT, reduceEqDiff, reduceNeg, Nat.reduceBEq]) | refine And.intro (by omega) ?_ | (intro hr; have hc := hr; (try simp only [zda, zdb, zdc, zdd] at hc); simp -implicitDefEqProofs (disch := omega) only [hr, List.flatMap_cons, List.flatMap_nil, List.append_nil, List.length_cons, List.length_nil, rep1t, List.flatten_cons, List.flatten_nil, sortAV, h3, decide_false, eq_self, decide_true, go_sem, ↓reduceIte, reduceAdd, reduceSub, reduceMul, reduceLeDiff, reduceLT, reduceEqDiff, reduceNeg, Nat.reduceBEq]; (try clear hr))))
         all_goals exact fin_eq rfl rfl
     · rw [h2] at fu
       (repeat' (first | refine gT ?_ ?_ | refine gF ?_ ?_ | refine gC ?_ ?_ | ((first | (refine c_ctrE (ft) ?_ ?_; (focus (simp -implicitDefEqProofs (disch := omega) only [List.flatMap_cons, List.flatMap_nil, List.append_nil, List.length_cons, List.length_nil, rep1t, List.flatten_cons, List.flatten_nil, avs, avb, avi, avo, sigCells, opCells, pairCells, elT, avt, termCells_eq, go_sem, ↓reduceIte, reduceAdd, reduceSub, reduceMul, reduceLeDiff, reduceLT, reduceEqDiff, reduceNeg, Nat.reduceBEq]; done))) | (refine c_ctrE (fu) ?_ ?_; (focus (simp -implicitDefEqProofs (disch := omega) only [List.flatMap_cons, List.flatMap_nil, List.append_nil, List.length_cons, List.length_nil, rep1t, List.flatten_cons, List.flatten_nil, avs, avb, avi, avo, sigCells, opCells, pairCells, elT, avt, termCells_eq, go_sem, ↓reduceIte, reduceAdd, reduceSub, reduceMul, reduceLeDiff, reduceLT, reduceEqDiff, reduceNeg, Nat.reduceBEq]; done))) | (refine c_ctrE (ctr328) ?_ ?_; (focus (simp -implicitDefEqProofs (disch := omega) only [List.flatMap_cons, List.flatMap_nil, List.append_nil, List.length_cons, List.length_nil, rep1t, List.flatten_cons, List.flatten_nil, avs, avb, avi, avo, sigCells, opCells, pairCells, elT, avt, termCells_eq, go_sem, ↓reduceIte, reduceAdd, reduceSub, reduceMul, reduceLeDiff, reduceLT, reduceEqDiff, reduceNeg, Nat.reduceBEq]; done)))); simp -implicitDefEqProofs (disch := omega) only [List.flatMap_cons, List.flatMap_nil, List.append_nil, List.length_cons, List.length_nil, rep1t, List.flatten_cons, List.flatten_nil, go_sem, ↓reduceIte, reduceAdd, reduceSub, reduceMul, reduceLeDiff, reduceLT, reduceEqDiff, reduceNeg, Nat.reduceBEq]) | refine And.intro (by omega) ?_ | (intro hr; have hc := hr; (try simp only [zda, zdb, zdc, zdd] at hc); simp -implicitDefEqProofs (disch := omega) only [hr, List.flatMap_cons, List.flatMap_nil, List.append_nil, List.length_cons, List.length_nil, rep1t, List.flatten_cons, List.flatten_nil, go_sem, ↓reduceIte, reduceAdd, reduceSub, reduceMul, reduceLeDiff, reduceLT, reduceEqDiff, reduceNeg, Nat.reduceBEq]; (try clear hr))))
       all_goals exact fin_eq rfl rfl
   · rw [h1] at ft
     (repeat' (first | refine gT ?_ ?_ | refine gF ?_ ?_ | refine gC ?_ ?_ | ((first | (refine c_ctrE (ft) ?_ ?_; (focus (simp -implicitDefEqProofs (disch := omega) only [List.flatMap_cons, List.flatMap_nil, List.append_nil, List.length_cons, List.length_nil, rep1t, List.flatten_cons, List.flatten_nil, avs, avb, avi, avo, sigCells, opCells, pairCells, elT, avt, termCells_eq, go_sem, ↓reduceIte, reduceAdd, reduceSub, reduceMul, reduceLeDiff, reduceLT, reduceEqDiff, reduceNeg, Nat.reduceBEq]; done))) | (refine c_ctrE (ctr328) ?_ ?_; (focus (simp -implicitDefEqProofs (disch := omega) only [List.flatMap_cons, List.flatMap_nil, List.append_nil, List.length_cons, List.length_nil, rep1t, List.flatten_cons, List.flatten_nil, avs, avb, avi, avo, sigCells, opCells, pairCells, elT, avt, termCells_eq, go_sem, ↓reduceIte, reduceAdd, reduceSub, reduceMul, reduceLeDiff, reduceLT, reduceEqDiff, reduceNeg, Nat.reduceBEq]; done)))); simp -implicitDefEqProofs (disch := omega) only [List.flatMap_cons, List.flatMap_nil, List.append_nil, List.length_cons, List.length_nil, rep1t, List.flatten_cons, List.flatten_nil, go_sem, ↓reduceIte, reduceAdd, reduceSub, reduceMul, reduceLeDiff, reduceLT, reduceEqDiff, reduceNeg, Nat.reduceBEq]) | refine And.intro (by omega) ?_ | (intro hr; have hc := hr; (try simp only [zda, zdb, zdc, zdd] at hc); simp -implicitDefEqProofs (disch := omega) only [hr, List.flatMap_cons, List.flatMap_nil, List.append_nil, List.length_cons, List.length_nil, rep1t, List.flatten_cons, List.flatten_nil, go_sem, ↓reduceIte, reduceAdd, reduceSub, reduceMul, reduceLeDiff, reduceLT, reduceEqDiff, reduceNeg, Nat.reduceBEq]; (try clear hr))))
     all_goals exact fin_eq rfl rfl
end Go.Proofs.YtnjnjdebgkjfhaaGreatDoor

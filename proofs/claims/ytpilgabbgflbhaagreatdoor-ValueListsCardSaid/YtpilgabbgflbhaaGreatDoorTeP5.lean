/-
  What functions of the chapter return, as plain functions of what they are given; no condition beyond those that each theorem names.
-/
import Derived.Test.YtpilgabbgflbhaaGreatDoorTeP4
import Derived.Test.YtpilgabbgflbhaaGreatDoorSoP5
import Derived.Test.YtpilgabbgflbhaaGreatDoorTeP3
import Derived.Test.YtpilgabbgflbhaaGreatDoorSoP3
set_option maxRecDepth 100000
set_option linter.unusedSimpArgs false
set_option linter.unusedVariables false
set_option maxHeartbeats 4000000
namespace Go.Proofs.YtpilgabbgflbhaaGreatDoor
open Go Go.Vo
open Nat (reduceAdd reduceSub reduceMul reduceLeDiff reduceLT reduceEqDiff)
open Int (reduceNeg)

theorem up_last {l : List (Str × Str)} {a z : Str} (h : Up l a z) : a = z ∨ ∃ b ∈ l, b.2 = z := by
 cases h with
 | refl => exact .inl rfl
 | step hu hm => exact .inr ⟨_, hm, rfl⟩
theorem most_built {s : LSig} {y z : Str} (hv : validB s = true) (hz : z ∈ alwaysA) (hn : z ≠ anyS) (h : atMost s y z = true) : y = z := by
 have v := valid_val hv
 simp only [atMost, Bool.or_eq_true, decide_eq_true_eq, List.contains_iff_mem] at h
 rcases h with h | h
 · exact absurd h hn
 · rw [above] at h
   split at h
   · rcases up_last (mem_climb.1 h) with h | ⟨b, hb, rfl⟩
     · exact h
     · exact absurd hz (v.fresh _ (v.low b hb).2.2.1).2
   · cases h
theorem op_sort_in {s : LSig} {o : LOp} (h : isOp s o = true) : o.sort ∈ s.sorts := by
 simp only [isOp, opHead, Bool.and_eq_true, List.contains_iff_mem] at h
 exact h.1.1.1.1.1.2
theorem plainV_P {s : LSig} {t : LTerm} (h : plainV s t = true) : plainP s t = true := by rw [plainV, Bool.and_eq_true] at h; exact h.2
theorem plainV_V {s : LSig} {t : LTerm} (h : plainV s t = true) : validT nodeB t = true := by rw [plainV, Bool.and_eq_true] at h; exact h.1
theorem plainV_node {s : LSig} {t : LTerm} (h : plainV s t = true) : nodeB t = true := (wfT_eq.1 (valid_wf (plainV_V h))).1
theorem sort_kind {s : LSig} {t : LTerm} (hv : validB s = true) (hp : plainV s t = true) : (t.kind = 1 ∧ sortP s t = intS) ∨ (t.kind = 2 ∧ sortP s t = boolS) ∨ (t.kind = 3 ∧ sortP s t = textS) ∨ (t.kind = 4 ∧ sortP s t = idS) ∨ (t.kind = 7 ∧ sortP s t = listS) ∨ (t.kind = 8 ∧ sortP s t = mapS) ∨ (t.kind = 5 ∧ sortP s t ∈ s.sorts) := by
 have hk := plain_kind hp
 have hP := plainV_P hp
 rw [plainP_eq] at hP
 simp only [Bool.and_eq_true, Bool.not_eq_true', decide_eq_false_iff_not] at hP
 obtain ⟨⟨⟨h6, _⟩, _⟩, ha⟩ := hP
 by_cases h1 : t.kind = 1
 · exact .inl ⟨h1, by simp only [sortP, h1, if_true]⟩
 by_cases h2 : t.kind = 2
 · exact .inr (.inl ⟨h2, by simp only [sortP, h2, Int.reduceEq, if_true, if_false]⟩)
 by_cases h3 : t.kind = 3
 · exact .inr (.inr (.inl ⟨h3, by simp only [sortP, h3, Int.reduceEq, if_true, if_false]⟩))
 by_cases h4 : t.kind = 4
 · exact .inr (.inr (.inr (.inl ⟨h4, by simp only [sortP, h4, Int.reduceEq, if_true, if_false]⟩)))
 by_cases h7 : t.kind = 7
 · exact .inr (.inr (.inr (.inr (.inl ⟨h7, by simp only [sortP, h7, Int.reduceEq, if_true, if_false]⟩))))
 by_cases h8 : t.kind = 8
 · exact .inr (.inr (.inr (.inr (.inr (.inl ⟨h8, by simp only [sortP, h8, Int.reduceEq, if_true, if_false]⟩)))))
 have h5 : t.kind = 5 := by omega
 refine .inr (.inr (.inr (.inr (.inr (.inr ⟨h5, ?_⟩)))))
 rw [if_pos h5, opFitP] at ha
 cases ho : opAt s t.text with
 | none => rw [ho] at ha; cases ha
 | some o =>
   have e1 : (called s t.text).1 = o := by rw [called, ho]
   simp only [sortP, h5, Int.reduceEq, if_true, if_false, e1]
   exact op_sort_in (valid_ops hv o (opAt_mem ho))
theorem kind_int {s : LSig} {t : LTerm} (hv : validB s = true) (hp : plainV s t = true) (h : atMost s (sortP s t) intS = true) : t.kind = 1 := by
 have e := most_built hv (by decide) (by decide) h
 have f : ∀ x ∈ s.sorts, x ≠ intS := fun x hx e => absurd (by rw [e]; decide : x ∈ alwaysA) ((valid_val hv).fresh x hx).2
 rcases sort_kind hv hp with ⟨h1, h2⟩ | ⟨h1, h2⟩ | ⟨h1, h2⟩ | ⟨h1, h2⟩ | ⟨h1, h2⟩ | ⟨h1, h2⟩ | ⟨h1, h2⟩
 all_goals first
   | exact h1
   | exact absurd (h2.symm.trans e) (by decide)
   | exact absurd e (f _ h2)
theorem kind_bool {s : LSig} {t : LTerm} (hv : validB s = true) (hp : plainV s t = true) (h : atMost s (sortP s t) boolS = true) : t.kind = 2 := by
 have e := most_built hv (by decide) (by decide) h
 have f : ∀ x ∈ s.sorts, x ≠ boolS := fun x hx e => absurd (by rw [e]; decide : x ∈ alwaysA) ((valid_val hv).fresh x hx).2
 rcases sort_kind hv hp with ⟨h1, h2⟩ | ⟨h1, h2⟩ | ⟨h1, h2⟩ | ⟨h1, h2⟩ | ⟨h1, h2⟩ | ⟨h1, h2⟩ | ⟨h1, h2⟩
 all_goals first
   | exact h1
   | exact absurd (h2.symm.trans e) (by decide)
   | exact absurd e (f _ h2)
theorem kind_text {s : LSig} {t : LTerm} (hv : validB s = true) (hp : plainV s t = true) (h : atMost s (sortP s t) textS = true) : t.kind = 3 := by
 have e := most_built hv (by decide) (by decide) h
 have f : ∀ x ∈ s.sorts, x ≠ textS := fun x hx e => absurd (by rw [e]; decide : x ∈ alwaysA) ((valid_val hv).fresh x hx).2
 rcases sort_kind hv hp with ⟨h1, h2⟩ | ⟨h1, h2⟩ | ⟨h1, h2⟩ | ⟨h1, h2⟩ | ⟨h1, h2⟩ | ⟨h1, h2⟩ | ⟨h1, h2⟩
 all_goals first
   | exact h1
   | exact absurd (h2.symm.trans e) (by decide)
   | exact absurd e (f _ h2)
theorem kind_map {s : LSig} {t : LTerm} (hv : validB s = true) (hp : plainV s t = true) (h : atMost s (sortP s t) mapS = true) : t.kind = 8 := by
 have e := most_built hv (by decide) (by decide) h
 have f : ∀ x ∈ s.sorts, x ≠ mapS := fun x hx e => absurd (by rw [e]; decide : x ∈ alwaysA) ((valid_val hv).fresh x hx).2
 rcases sort_kind hv hp with ⟨h1, h2⟩ | ⟨h1, h2⟩ | ⟨h1, h2⟩ | ⟨h1, h2⟩ | ⟨h1, h2⟩ | ⟨h1, h2⟩ | ⟨h1, h2⟩
 all_goals first
   | exact h1
   | exact absurd (h2.symm.trans e) (by decide)
   | exact absurd e (f _ h2)
theorem node_int {t : LTerm} (h : nodeB t = true) (hk : t.kind = 1) : isInt t.n = true := by
 simp only [nodeB, hk, if_true, Bool.and_eq_true] at h; exact h.1
theorem node_bool {t : LTerm} (h : nodeB t = true) (hk : t.kind = 2) : t.n = 0 ∨ t.n = 1 := by
 simp only [nodeB, hk, Int.reduceEq, if_true, if_false, Bool.and_eq_true, Bool.or_eq_true, decide_eq_true_eq] at h; exact h.1
theorem node_text {t : LTerm} (h : nodeB t = true) (hk : t.kind = 3) : isText t.text = true := by
 simp only [nodeB, hk, Int.reduceEq, if_true, if_false, Bool.and_eq_true] at h; exact h.1
theorem node_even {t : LTerm} (h : nodeB t = true) (hk : t.kind = 8) : t.kids.length % 2 = 0 := by
 simp only [nodeB, hk, Int.reduceEq, if_true, if_false, Bool.and_eq_true, decide_eq_true_eq] at h; exact h.1.2

def KeysE (es : List Ent) : Prop := ∀ i, i < es.length → isKey (es.getD i default).1 = true
theorem sorted_adj {es : List Ent} (h : ∀ i, i + 1 < es.length → ordP (es.getD i default).1 (es.getD (i + 1) default).1 < 0) : SortedE es := by
 intro i j hij
 induction j with
 | zero => omega
 | succ j ih =>
   intro hj
   rcases Nat.lt_succ_iff_lt_or_eq.1 hij with h1 | h1
   · exact ord_trans (ih h1 (by omega)) (h j hj)
   · subst h1; exact h i hj
theorem keyFit_iff {t : LTerm} {es : List Ent} (hm : t.kids = flat es) : keyFit ordP t = true ↔ SortedE es ∧ KeysE es := by
 have hl : t.kids.length = 2 * es.length := by rw [hm, flat_len]
 rw [keyFit, allN_iff, show (t.kids.length + 1) / 2 = es.length by omega]
 constructor
 · intro h
   have kk1 : KeysE es := fun i hi => by
     have := h i hi
     rw [keyAt, Bool.and_eq_true, hm, flat_key hi] at this
     exact this.1
   refine ⟨sorted_adj fun i hi => ?_, kk1⟩
   have := h (i + 1) hi
   rw [keyAt, Bool.and_eq_true, Bool.or_eq_true, decide_eq_true_eq, decide_eq_true_eq, hm, flat_key hi, show 2 * (i + 1) - 2 = 2 * i by omega, flat_key (by omega)] at this
   rcases this.2 with h0 | h0
   · omega
   · exact h0
 · rintro ⟨h1, h2⟩ i hi
   rw [keyAt, Bool.and_eq_true, Bool.or_eq_true, decide_eq_true_eq, decide_eq_true_eq, hm, flat_key hi]
   refine ⟨h2 i hi, ?_⟩
   by_cases h0 : i = 0
   · exact .inl h0
   · right
     rw [show 2 * i - 2 = 2 * (i - 1) by omega, flat_key (by omega)]
     exact h1 (i - 1) i (by omega) hi
theorem map_entries {s : LSig} {t : LTerm} (hp : plainV s t = true) (hk : t.kind = 8) : ∃ es, t.kids = flat es ∧ SortedE es ∧ KeysE es ∧ es.length ≤ 1000 := by
 obtain ⟨es, he⟩ := flat_ex (node_even (plainV_node hp) hk)
 have hP := plainV_P hp
 rw [plainP_eq] at hP
 simp only [Bool.and_eq_true] at hP
 have hf := hP.2
 rw [if_neg (by omega), if_pos hk] at hf
 have h := (keyFit_iff he).1 hf
 refine ⟨es, he, h.1, h.2, ?_⟩
 have hV := plainV_V hp
 simp only [validT, Bool.and_eq_true, decide_eq_true_eq] at hV
 have hn : t.kids.length ≤ nodesT t := by
   have : ∀ l : List LTerm, l.length ≤ nodesL l := by
     intro l
     induction l with
     | nil => simp
     | cons a l ih =>
       have : 1 ≤ nodesT a := by cases a; rw [nodesT]; omega
       rw [nodesL, List.length_cons]; omega
   cases t with | mk k n x so ks rs =>
   rw [nodesT]
   have := this ks
   simp only [LTerm.kids]; omega
 rw [he, flat_len] at hn
 omega
theorem kids_len {t : LTerm} (hV : validT nodeB t = true) : t.kids.length ≤ 2000 := by
 simp only [validT, Bool.and_eq_true, decide_eq_true_eq] at hV
 have : ∀ l : List LTerm, l.length ≤ nodesL l := by
   intro l
   induction l with
   | nil => simp
   | cons a l ih =>
     have : 1 ≤ nodesT a := by cases a; rw [nodesT]; omega
     rw [nodesL, List.length_cons]; omega
 cases t with | mk k n x so ks rs =>
 have h2 := hV.2
 rw [nodesT] at h2
 have := this ks
 simp only [LTerm.kids]; omega
theorem kids_plain {s : LSig} {t : LTerm} (h : plainP s t = true) : ∀ k ∈ t.kids, plainP s k = true := by
 rw [plainP_eq] at h
 simp only [Bool.and_eq_true, List.all_eq_true] at h
 exact h.1.2

def entsOf : List LTerm → List Ent
 | a :: b :: l => (a, b) :: entsOf l
 | _ => []
theorem ents_flat : ∀ {es : List Ent}, entsOf (flat es) = es
 | [] => rfl
 | e :: es => by rw [flat_cons, entsOf, ents_flat]
def mapT (es : List Ent) : LTerm := .mk 8 0 [] [] (flat es) []
def delE (k : LTerm) (es : List Ent) : List Ent := if hasK k es = true then es.take (posK k es) ++ es.drop (posK k es + 1) else es
def innerV (s : LSig) (x : Str) (a b c : LTerm) : Res :=
 if x = nneg then (tInt (0 - a.n), 0)
 else if x = ntext then (tText (Lib.itoa a.n), 0)
 else if x = neq then (tBool (decide (a = b)), 0)
 else if x = nne then (tBool (!decide (a = b)), 0)
 else if x = nand then (tBool (decide (a.n = 1) && decide (b.n = 1)), 0)
 else if x = nor then (tBool (decide (a.n = 1) || decide (b.n = 1)), 0)
 else if x = nnot then (tBool (decide (a.n = 0)), 0)
 else if x = npick then (if a.n = 0 then (c, 0) else (b, 0))
 else if x = ncat then (if isText (a.text ++ b.text) = true then (tText (a.text ++ b.text), 0) else (tZ, 20))
 else if x = nlength then (tInt a.kids.length, 0)
 else if x = njoin then (.mk 7 0 [] [] (a.kids ++ b.kids) [], 0)
 else if x = nsize then (tInt (entsOf a.kids).length, 0)
 else if x = nkeys then (.mk 7 0 [] [] ((entsOf a.kids).map (·.1)) [], 0)
 else if x = nhas then (tBool (hasK b (entsOf a.kids)), 0)
 else if x = nget then (if hasK b (entsOf a.kids) = true then (((entsOf a.kids).getD (posK b (entsOf a.kids)) default).2, 0) else (tZ, 4))
 else if x = ndel then (mapT (delE b (entsOf a.kids)), 0)
 else if x = nput then (if isKey b = true then (mapT (putE b c (entsOf a.kids)), 0) else (tZ, 15))
 else if x = nis then (if existsA s b.text = true then (tBool (atMost s (sortP s a) b.text), 0) else (tZ, 13))
 else if x = nisvalue then (tBool (isValue s (sortP s a)), 0)
 else numV x a.n b.n

theorem sorted_pw {es : List Ent} : SortedE es ↔ es.Pairwise (fun a b => ordP a.1 b.1 < 0) := by
 rw [List.pairwise_iff_getElem]
 constructor
 · intro h i j hi hj hij
   have := h i j hij hj
   simpa [List.getD, hi, hj] using this
 · intro h i j hij hj
   have hi : i < es.length := by omega
   have := h i j hi hj hij
   simpa [List.getD, hi, hj] using this
theorem keys_mem {es : List Ent} : KeysE es ↔ ∀ e ∈ es, isKey e.1 = true := by
 constructor
 · intro h e he
   obtain ⟨i, hi, rfl⟩ := List.mem_iff_getElem.1 he
   have := h i hi
   simpa [List.getD, hi] using this
 · intro h i hi
   exact h _ (mem_getD hi)
theorem take_pos {k : LTerm} : ∀ {es : List Ent}, ∀ e ∈ es.take (posK k es), ordP e.1 k < 0
 | [], e, h => by simp at h
 | a :: es, e, h => by
   rw [posK] at h
   split at h
   · rename_i h1
     rw [List.take_succ_cons, List.mem_cons] at h
     rcases h with rfl | h
     · exact h1
     · exact take_pos e h
   · simp at h
theorem drop_pos {k : LTerm} : ∀ {es : List Ent}, es.Pairwise (fun a b => ordP a.1 b.1 < 0) → ∀ e ∈ es.drop (posK k es + (if hasK k es then 1 else 0)), ordP k e.1 < 0
 | [], _, e, h => by simp at h
 | a :: es, hs, e, h => by
   rw [List.pairwise_cons] at hs
   by_cases h1 : ordP a.1 k < 0
   · simp only [posK, hasK, if_pos h1] at h
     rw [Nat.add_right_comm, List.drop_succ_cons] at h
     exact drop_pos hs.2 e h
   · simp only [posK, hasK, if_neg h1] at h
     by_cases h0 : ordP a.1 k = 0
     · simp only [h0, decide_true, if_true, Nat.zero_add, List.drop_succ_cons, List.drop_zero] at h
       rw [← (ord_zero _ _).1 h0]
       exact hs.1 e h
     · simp only [h0, decide_false, Bool.false_eq_true, if_false, Nat.zero_add, List.drop_zero, List.mem_cons] at h
       have hk : ordP k a.1 < 0 := by rw [ord_anti]; omega
       rcases h with rfl | h
       · exact hk
       · exact ord_trans hk (hs.1 e h)
theorem put_sorted {k v : LTerm} {es : List Ent} (h : SortedE es) : SortedE (putE k v es) := by
 have h := sorted_pw.1 h
 rw [sorted_pw, putE, List.pairwise_append, List.pairwise_cons]
 refine ⟨h.sublist (List.take_sublist _ _), ⟨fun e he => drop_pos h e he, h.sublist (List.drop_sublist _ _)⟩, fun a ha b hb => ?_⟩
 rw [List.mem_cons] at hb
 rcases hb with rfl | hb
 · exact take_pos a ha
 · exact ord_trans (take_pos a ha) (drop_pos h b hb)
theorem del_sorted {k : LTerm} {es : List Ent} (h : SortedE es) : SortedE (delE k es) := by
 rw [delE]
 split
 · rename_i hk
   have h := sorted_pw.1 h
   rw [sorted_pw, List.pairwise_append]
   refine ⟨h.sublist (List.take_sublist _ _), h.sublist (List.drop_sublist _ _), fun a ha b hb => ?_⟩
   exact ord_trans (take_pos a ha) (drop_pos h b (by rw [if_pos hk]; exact hb))
 · exact h
theorem put_mem {k v : LTerm} {es : List Ent} {e : Ent} (h : e ∈ putE k v es) : e = (k, v) ∨ e ∈ es := by
 rw [putE, List.mem_append, List.mem_cons] at h
 rcases h with h | h | h
 · exact .inr (List.mem_of_mem_take h)
 · exact .inl h
 · exact .inr (List.mem_of_mem_drop h)
theorem del_mem {k : LTerm} {es : List Ent} {e : Ent} (h : e ∈ delE k es) : e ∈ es := by
 rw [delE] at h
 split at h
 · rw [List.mem_append] at h
   rcases h with h | h
   · exact List.mem_of_mem_take h
   · exact List.mem_of_mem_drop h
 · exact h
theorem put_keys {k v : LTerm} {es : List Ent} (hk : isKey k = true) (h : KeysE es) : KeysE (putE k v es) :=
 keys_mem.2 fun e he => by
   rcases put_mem he with rfl | he
   · exact hk
   · exact keys_mem.1 h e he
theorem del_keys {k : LTerm} {es : List Ent} (h : KeysE es) : KeysE (delE k es) := keys_mem.2 fun e he => keys_mem.1 h e (del_mem he)
theorem put_len {k v : LTerm} {es : List Ent} : (putE k v es).length ≤ es.length + 1 := by
 rw [putE, List.length_append, List.length_cons, List.length_take, List.length_drop]
 have := pos_le (k := k) (es := es)
 split <;> omega
theorem del_len {k : LTerm} {es : List Ent} : (delE k es).length ≤ es.length := by
 rw [delE]; split
 · rw [List.length_append, List.length_take, List.length_drop]; omega
 · exact Nat.le_refl _
structure InnerOk (s : LSig) (p : Res) : Prop where
 ok : OkT p.1
 plain : p.2 = 0 → plainP s p.1 = true
 err : p.2 ≠ 0 → p.1 = tZ
theorem okT_leaf {k n : Int} {x so : Str} (h1 : -9223372036854775808 ≤ n) (h2 : n ≤ 9223372036854775807) (h3 : x.length ≤ 140737488355328) (h4 : so.length ≤ 140737488355328) : OkT (.mk k n x so [] []) :=
 .mk h3 h4 h1 h2 (by simp only [LTerm.kids, List.length_nil]; omega) (by simp only [LTerm.rest, List.length_nil]; omega) (fun k h => by cases h) (fun k h => by cases h)
theorem okT_Z : OkT tZ := okT_leaf (by decide) (by decide) (by decide) (by decide)
theorem okT_kids {k : Int} {ks : List LTerm} (h : ∀ t ∈ ks, OkT t) (hl : ks.length ≤ 1466015503701) : OkT (.mk k 0 [] [] ks []) :=
 .mk (by simp [LTerm.text]) (by simp [LTerm.sort]) (by simp [LTerm.n]) (by simp [LTerm.n]) hl (by simp [LTerm.rest]) h (fun k h => by cases h)
theorem plain_leaf {s : LSig} {k n : Int} {x so : Str} (h6 : k ≠ 6) (h5 : k ≠ 5) (h8 : k ≠ 8) : plainP s (.mk k n x so [] []) = true := by
 rw [plainP, plainPL, zf h6, if_neg h5, if_neg h8]; simp
theorem plain_list {s : LSig} {ks : List LTerm} (h : ∀ t ∈ ks, plainP s t = true) : plainP s (.mk 7 0 [] [] ks []) = true := by
 rw [plainP_eq]
 simp only [LTerm.kind, LTerm.rest, LTerm.kids, List.all_eq_true.2 h]
 simp
theorem plain_mapT {s : LSig} {es : List Ent} (h : ∀ e ∈ es, plainP s e.1 = true ∧ plainP s e.2 = true) (hs : SortedE es) (hk : KeysE es) : plainP s (mapT es) = true := by
 have h1 : (flat es).all (plainP s) = true := List.all_eq_true.2 fun t ht => by
   obtain ⟨e, he, h2⟩ := flat_mem.1 ht
   rcases h2 with rfl | rfl
   · exact (h e he).1
   · exact (h e he).2
 have h2 := (keyFit_iff (t := mapT es) rfl).2 ⟨hs, hk⟩
 rw [plainP_eq, h2]
 simp only [mapT, LTerm.kind, LTerm.rest, LTerm.kids, h1]
 simp
theorem okT_mapT {es : List Ent} (h : ∀ e ∈ es, OkT e.1 ∧ OkT e.2) (hl : es.length ≤ 1000000) : OkT (mapT es) :=
 okT_kids (fun t ht => by
   obtain ⟨e, he, h2⟩ := flat_mem.1 ht
   rcases h2 with rfl | rfl
   · exact (h e he).1
   · exact (h e he).2) (by rw [flat_len]; omega)
theorem ok_int {s : LSig} {n : Int} (h : isInt n = true) : InnerOk s (tInt n, 0) := by
 have h := int_le h
 exact ⟨okT_leaf (by omega) (by omega) (by decide) (by decide), fun _ => plain_leaf (by decide) (by decide) (by decide), fun h => absurd rfl h⟩
theorem ok_bool {s : LSig} {b : Bool} : InnerOk s (tBool b, 0) :=
 ⟨okT_leaf (by split <;> decide) (by split <;> decide) (by decide) (by decide), fun _ => plain_leaf (by decide) (by decide) (by decide), fun h => absurd rfl h⟩
theorem ok_text {s : LSig} {x : Str} (h : x.length ≤ 140737488355328) : InnerOk s (tText x, 0) :=
 ⟨okT_leaf (by decide) (by decide) h (by decide), fun _ => plain_leaf (by decide) (by decide) (by decide), fun h => absurd rfl h⟩
theorem ok_err {s : LSig} {e : Int} (h : e ≠ 0) : InnerOk s (tZ, e) := ⟨okT_Z, fun h0 => absurd h0 h, fun _ => rfl⟩
theorem ok_whole {s : LSig} {n : Int} : InnerOk s (wholeV n) := by
 rw [wholeV]; split
 · exact ok_int ‹_›
 · exact ok_err (by decide)
theorem ok_num {s : LSig} {x : Str} {a b : Int} : InnerOk s (numV x a b) := by
 unfold numV
 repeat' split
 all_goals first
   | exact ok_whole
   | exact ok_bool
   | exact ok_err (by decide)
theorem ok_kid {s : LSig} {t : LTerm} (o : OkT t) (h : plainP s t = true) : InnerOk s (t, 0) := ⟨o, fun _ => h, fun h => absurd rfl h⟩

structure Good (s : LSig) (x : Str) (l : List LTerm) (p : Res) : Prop where
 iv : innerV s x (l.getD 0 default) (l.getD 1 default) (l.getD 2 default) = p
 ok : InnerOk s p
 ci : (argsP x).getD 0 [] = intS → CT 76 [.s x, avt l] (resV p)
 cm : (argsP x).getD 0 [] = mapS → CT 78 [.s x, avt l] (resV p)
 co : ¬ (argsP x).getD 0 [] = intS → ¬ (argsP x).getD 0 [] = mapS → CT 74 [bookAV s, .s x, avt l] (resV p)
section
variable {s : LSig} {x : Str} {l : List LTerm} {p : Res}
theorem goodI (iv : innerV s x (l.getD 0 default) (l.getD 1 default) (l.getD 2 default) = p) (ok : InnerOk s p) (h : (argsP x).getD 0 [] = intS) (c : CT 76 [.s x, avt l] (resV p)) : Good s x l p :=
 ⟨iv, ok, fun _ => c, fun e => absurd (h.symm.trans e) (by decide), fun e _ => absurd h e⟩
theorem goodM (iv : innerV s x (l.getD 0 default) (l.getD 1 default) (l.getD 2 default) = p) (ok : InnerOk s p) (h : (argsP x).getD 0 [] = mapS) (c : CT 78 [.s x, avt l] (resV p)) : Good s x l p :=
 ⟨iv, ok, fun e => absurd (h.symm.trans e) (by decide), fun _ => c, fun _ e => absurd h e⟩
theorem goodO (iv : innerV s x (l.getD 0 default) (l.getD 1 default) (l.getD 2 default) = p) (ok : InnerOk s p) (h : ¬ (argsP x).getD 0 [] = intS) (h2 : ¬ (argsP x).getD 0 [] = mapS) (c : CT 74 [bookAV s, .s x, avt l] (resV p)) : Good s x l p :=
 ⟨iv, ok, fun e => absurd e h, fun e => absurd e h2, fun _ _ => c⟩
end
def numNames : List Str := [nadd, nsub, nmul, ndiv, nmod, nlt, nle, ngt, nge]
structure Args (s : LSig) (x : Str) (l : List LTerm) : Prop where
 hm : Small s
 hs : OkS s
 hv : validB s = true
 pl : ∀ t ∈ l, plainV s t = true
 ol : ∀ t ∈ l, OkT t
 fit : calcFit s x l = true
theorem Args.at {s : LSig} {x : Str} {l : List LTerm} (h : Args s x l) {i : Nat} (hi : i < l.length) {so : Str} (e : (argsP x).getD i [] = so) : atMost s (sortP s (l.getD i default)) so = true := e ▸ allN_iff.1 h.fit i hi
section
variable {s : LSig} {a b c : LTerm}
theorem good_num {x : Str} (hx : x ∈ numNames) (h : Args s x [a, b]) : Good s x [a, b] (numV x a.n b.n) := by
 have e : ∀ y ∈ numNames, argsP y = [intS, intS] ∧ ¬ y = nneg ∧ ¬ y = neq ∧ ¬ y = nne ∧ ¬ y = nand ∧ ¬ y = nor ∧ ¬ y = nnot ∧ ¬ y = npick ∧ ¬ y = ncat ∧ ¬ y = nlength ∧ ¬ y = ntext ∧ ¬ y = njoin ∧ ¬ y = nget ∧ ¬ y = nput ∧ ¬ y = nhas ∧ ¬ y = ndel ∧ ¬ y = nkeys ∧ ¬ y = nsize ∧ ¬ y = nis ∧ ¬ y = nisvalue := by decide +kernel
 obtain ⟨eA, m0, m1, m2, m3, m4, m5, m6, m7, m8, m9, m10, m11, m12, m13, m14, m15, m16, m17, m18⟩ := e x hx
 have pa := h.pl a (by simp)
 have pb := h.pl b (by simp)
 have ia := node_int (plainV_node pa) (kind_int h.hv pa (h.at (i := 0) (by simp) (by rw [eA]; rfl)))
 have ib := node_int (plainV_node pb) (kind_int h.hv pb (h.at (i := 1) (by simp) (by rw [eA]; rfl)))
 refine goodI ?_ ok_num (by rw [eA]; rfl) (ctr248 x a b m0 m9 ia ib)
 show innerV s x a b _ = _
 simp only [innerV, m0, m1, m2, m3, m4, m5, m6, m7, m8, m9, m10, m11, m12, m13, m14, m15, m16, m17, m18, if_false]
theorem good_neg (h : Args s nneg [a]) : Good s nneg [a] (tInt (0 - a.n), 0) := by
 have pa := h.pl a (by simp)
 have ia := node_int (plainV_node pa) (kind_int h.hv pa (h.at (i := 0) (by simp) (by decide +kernel)))
 have i2 : isInt (0 - a.n) = true := by have := int_le ia; simp only [isInt, Bool.and_eq_true, decide_eq_true_eq]; omega
 exact goodI (by kernel_rfl) (ok_int i2) (by decide +kernel) (ctr248n _ a rfl ia)
theorem good_text (h : Args s ntext [a]) : Good s ntext [a] (tText (Lib.itoa a.n), 0) := by
 have pa := h.pl a (by simp)
 have ia := node_int (plainV_node pa) (kind_int h.hv pa (h.at (i := 0) (by simp) (by decide +kernel)))
 have i2 := int_le ia
 have i3 := itoa_len a.n
 exact goodI (by kernel_rfl) (ok_text (by omega)) (by decide +kernel) (ctr248t _ a rfl ia)
theorem good_eq (h : Args s neq [a, b]) : Good s neq [a, b] (tBool (decide (a = b)), 0) := by
 have oa := h.ol a (by simp)
 have ob := h.ol b (by simp)
 exact goodO (by kernel_rfl) ok_bool (by decide +kernel) (by decide +kernel) (ctr246eq s _ a b oa ob rfl)
theorem good_ne (h : Args s nne [a, b]) : Good s nne [a, b] (tBool (!decide (a = b)), 0) := by
 have oa := h.ol a (by simp)
 have ob := h.ol b (by simp)
 exact goodO (by kernel_rfl) ok_bool (by decide +kernel) (by decide +kernel) (ctr246ne s _ a b oa ob rfl)
theorem good_and (h : Args s nand [a, b]) : Good s nand [a, b] (tBool (decide (a.n = 1) && decide (b.n = 1)), 0) :=
 goodO (by kernel_rfl) ok_bool (by decide +kernel) (by decide +kernel) (ctr246and s _ a b rfl)
theorem good_or (h : Args s nor [a, b]) : Good s nor [a, b] (tBool (decide (a.n = 1) || decide (b.n = 1)), 0) :=
 goodO (by kernel_rfl) ok_bool (by decide +kernel) (by decide +kernel) (ctr246or s _ a b rfl)
theorem good_not (h : Args s nnot [a]) : Good s nnot [a] (tBool (decide (a.n = 0)), 0) :=
 goodO (by kernel_rfl) ok_bool (by decide +kernel) (by decide +kernel) (ctr246not s _ a rfl)
theorem good_pick (h : Args s npick [a, b, c]) : Good s npick [a, b, c] (if a.n = 0 then (c, 0) else (b, 0)) := by
 have pa := h.pl a (by simp)
 have k := node_bool (plainV_node pa) (kind_bool h.hv pa (h.at (i := 0) (by simp) (by decide +kernel)))
 by_cases h0 : a.n = 0
 · have e : (if a.n = 0 then (c, (0 : Int)) else (b, 0)) = (c, 0) := if_pos h0
   have iv : innerV s npick a b c = (if a.n = 0 then (c, (0 : Int)) else (b, 0)) := by kernel_rfl
   rw [e] at iv ⊢
   exact goodO iv (ok_kid (h.ol c (by simp)) (plainV_P (h.pl c (by simp)))) (by decide +kernel) (by decide +kernel) (ctr246pick0 s _ a b c h0 rfl)
 · have e : (if a.n = 0 then (c, (0 : Int)) else (b, 0)) = (b, 0) := if_neg h0
   have iv : innerV s npick a b c = (if a.n = 0 then (c, (0 : Int)) else (b, 0)) := by kernel_rfl
   have h1 : a.n = 1 := k.resolve_left h0
   rw [e] at iv ⊢
   exact goodO iv (ok_kid (h.ol b (by simp)) (plainV_P (h.pl b (by simp)))) (by decide +kernel) (by decide +kernel) (ctr246pick1 s _ a b c h1 rfl)
theorem good_cat (h : Args s ncat [a, b]) : Good s ncat [a, b] (if isText (a.text ++ b.text) = true then (tText (a.text ++ b.text), 0) else (tZ, 20)) := by
 have pa := h.pl a (by simp)
 have pb := h.pl b (by simp)
 have ta := node_text (plainV_node pa) (kind_text h.hv pa (h.at (i := 0) (by simp) (by decide +kernel)))
 have tb := node_text (plainV_node pb) (kind_text h.hv pb (h.at (i := 1) (by simp) (by decide +kernel)))
 refine goodO (by kernel_rfl) ?_ (by decide +kernel) (by decide +kernel) (ctr246cat s _ a b ta tb rfl)
 split
 · have := text_len ‹_›
   exact ok_text (by omega)
 · exact ok_err (by decide)
theorem good_length (h : Args s nlength [a]) : Good s nlength [a] (tInt a.kids.length, 0) := by
 have pa := h.pl a (by simp)
 have oa := h.ol a (by simp)
 have k := kids_len (plainV_V pa)
 exact goodO (by kernel_rfl) (ok_int (by simp only [isInt, Bool.and_eq_true, decide_eq_true_eq]; omega)) (by decide +kernel) (by decide +kernel) (ctr246length s _ a oa rfl)
theorem good_join (h : Args s njoin [a, b]) : Good s njoin [a, b] (.mk 7 0 [] [] (a.kids ++ b.kids) [], 0) := by
 have pa := h.pl a (by simp)
 have oa := h.ol a (by simp)
 have ka := kids_len (plainV_V pa)
 have pb := h.pl b (by simp)
 have ob := h.ol b (by simp)
 have kb := kids_len (plainV_V pb)
 refine goodO (by kernel_rfl) (ok_kid (okT_kids (fun t ht => ?_) (by rw [List.length_append]; omega)) (plain_list fun t ht => ?_)) (by decide +kernel) (by decide +kernel) (ctr246join s _ a b ka kb rfl)
 · rcases List.mem_append.1 ht with h | h
   · exact oa.kid t h
   · exact ob.kid t h
 · rcases List.mem_append.1 ht with h | h
   · exact kids_plain (plainV_P pa) t h
   · exact kids_plain (plainV_P pb) t h
theorem good_is (h : Args s nis [a, b]) : Good s nis [a, b] (if existsA s b.text = true then (tBool (atMost s (sortP s a) b.text), 0) else (tZ, 13)) := by
 have pa := h.pl a (by simp)
 refine goodO (by kernel_rfl) ?_ (by decide +kernel) (by decide +kernel) (ctr246is s _ a b h.hm rfl)
 split
 · exact ok_bool
 · exact ok_err (by decide)
theorem good_isvalue (h : Args s nisvalue [a]) : Good s nisvalue [a] (tBool (isValue s (sortP s a)), 0) :=
 goodO (by kernel_rfl) ok_bool (by decide +kernel) (by decide +kernel) (ctr246isvalue s _ a h.hm rfl)
theorem Args.map {x : Str} {l : List LTerm} (h : Args s x (a :: l)) (e : (argsP x).getD 0 [] = mapS) : ∃ es, a.kids = flat es ∧ SortedE es ∧ KeysE es ∧ es.length ≤ 1000 ∧ (∀ e ∈ es, OkT e.1 ∧ OkT e.2) ∧ (∀ e ∈ es, plainP s e.1 = true ∧ plainP s e.2 = true) ∧ entsOf a.kids = es := by
 have pa := h.pl a (by simp)
 have oa := h.ol a (by simp)
 obtain ⟨es, h1, h2, h3, h4⟩ := map_entries pa (kind_map h.hv pa (h.at (i := 0) (by simp) e))
 refine ⟨es, h1, h2, h3, h4, fun e he => ?_, fun e he => ?_, by rw [h1, ents_flat]⟩
 · exact ⟨oa.kid _ (by rw [h1]; exact flat_mem.2 ⟨e, he, .inl rfl⟩), oa.kid _ (by rw [h1]; exact flat_mem.2 ⟨e, he, .inr rfl⟩)⟩
 · exact ⟨kids_plain (plainV_P pa) _ (by rw [h1]; exact flat_mem.2 ⟨e, he, .inl rfl⟩), kids_plain (plainV_P pa) _ (by rw [h1]; exact flat_mem.2 ⟨e, he, .inr rfl⟩)⟩
theorem good_size (h : Args s nsize [a]) : Good s nsize [a] (tInt (entsOf a.kids).length, 0) := by
 obtain ⟨es, h1, h2, h3, h4, h5, h6, h7⟩ := h.map (by decide +kernel)
 have oa := h.ol a (by simp)
 have iv : innerV s nsize a default default = (tInt (entsOf a.kids).length, 0) := by kernel_rfl
 rw [h7] at iv ⊢
 exact goodM iv (ok_int (by simp only [isInt, Bool.and_eq_true, decide_eq_true_eq]; omega)) (by decide +kernel) (ctr250size _ a es rfl h1 oa)
theorem good_keys (h : Args s nkeys [a]) : Good s nkeys [a] (.mk 7 0 [] [] ((entsOf a.kids).map (·.1)) [], 0) := by
 obtain ⟨es, h1, h2, h3, h4, h5, h6, h7⟩ := h.map (by decide +kernel)
 have oa := h.ol a (by simp)
 have iv : innerV s nkeys a default default = (.mk 7 0 [] [] ((entsOf a.kids).map (·.1)) [], 0) := by kernel_rfl
 rw [h7] at iv ⊢
 refine goodM iv (ok_kid (okT_kids (fun t ht => ?_) (by rw [List.length_map]; omega)) (plain_list fun t ht => ?_)) (by decide +kernel) (ctr250keys _ a es rfl h1 oa)
 · obtain ⟨e, he, rfl⟩ := List.mem_map.1 ht; exact (h5 e he).1
 · obtain ⟨e, he, rfl⟩ := List.mem_map.1 ht; exact (h6 e he).1
theorem good_has (h : Args s nhas [a, b]) : Good s nhas [a, b] (tBool (hasK b (entsOf a.kids)), 0) := by
 obtain ⟨es, h1, h2, h3, h4, h5, h6, h7⟩ := h.map (by decide +kernel)
 have oa := h.ol a (by simp)
 have ob := h.ol b (by simp)
 have iv : innerV s nhas a b default = (tBool (hasK b (entsOf a.kids)), 0) := by kernel_rfl
 rw [h7] at iv ⊢
 exact goodM iv ok_bool (by decide +kernel) (ctr250has _ a b es rfl h1 oa ob)
theorem good_get (h : Args s nget [a, b]) : Good s nget [a, b] (if hasK b (entsOf a.kids) = true then (((entsOf a.kids).getD (posK b (entsOf a.kids)) default).2, 0) else (tZ, 4)) := by
 obtain ⟨es, h1, h2, h3, h4, h5, h6, h7⟩ := h.map (by decide +kernel)
 have oa := h.ol a (by simp)
 have ob := h.ol b (by simp)
 have iv : innerV s nget a b default = (if hasK b (entsOf a.kids) = true then (((entsOf a.kids).getD (posK b (entsOf a.kids)) default).2, 0) else (tZ, 4)) := by kernel_rfl
 rw [h7] at iv ⊢
 rcases bool_em (hasK b es) with hh | hh
 · rw [if_pos hh] at iv ⊢
   have hm : es.getD (posK b es) default ∈ es := mem_getD (pos_has hh).1
   exact goodM iv (ok_kid (h5 _ hm).2 (h6 _ hm).2) (by decide +kernel) (ctr250get_y _ a b es rfl h1 oa ob hh)
 · rw [if_neg (by rw [hh]; simp)] at iv ⊢
   exact goodM iv (ok_err (by decide)) (by decide +kernel) (ctr250get_n _ a b es rfl h1 oa ob hh)
theorem good_del (h : Args s ndel [a, b]) : Good s ndel [a, b] (mapT (delE b (entsOf a.kids)), 0) := by
 obtain ⟨es, h1, h2, h3, h4, h5, h6, h7⟩ := h.map (by decide +kernel)
 have oa := h.ol a (by simp)
 have ob := h.ol b (by simp)
 have iv : innerV s ndel a b default = (mapT (delE b (entsOf a.kids)), 0) := by kernel_rfl
 rw [h7] at iv ⊢
 have ok : InnerOk s (mapT (delE b es), 0) := ok_kid (okT_mapT (fun e he => h5 e (del_mem he)) (by have := del_len (k := b) (es := es); omega)) (plain_mapT (fun e he => h6 e (del_mem he)) (del_sorted h2) (del_keys h3))
 rcases bool_em (hasK b es) with hh | hh
 · rw [delE, if_pos hh] at iv ok ⊢
   exact goodM iv ok (by decide +kernel) (ctr250del_y _ a b es rfl h1 oa ob h4 hh)
 · rw [delE, if_neg (by rw [hh]; simp)] at iv ok ⊢
   exact goodM iv ok (by decide +kernel) (ctr250del_n _ a b es rfl h1 oa ob hh)
theorem good_put (h : Args s nput [a, b, c]) : Good s nput [a, b, c] (if isKey b = true then (mapT (putE b c (entsOf a.kids)), 0) else (tZ, 15)) := by
 obtain ⟨es, h1, h2, h3, h4, h5, h6, h7⟩ := h.map (by decide +kernel)
 have oa := h.ol a (by simp)
 have ob := h.ol b (by simp)
 have oc := h.ol c (by simp)
 have pa := h.pl a (by simp)
 have pb := h.pl b (by simp)
 have pc := h.pl c (by simp)
 have iv : innerV s nput a b c = (if isKey b = true then (mapT (putE b c (entsOf a.kids)), 0) else (tZ, 15)) := by kernel_rfl
 rw [h7] at iv ⊢
 rcases bool_em (isKey b) with hk | hk
 · rw [if_pos hk] at iv ⊢
   have j5 : ∀ e ∈ putE b c es, OkT e.1 ∧ OkT e.2 := fun e he => by
     rcases put_mem he with rfl | he
     · exact ⟨ob, oc⟩
     · exact h5 e he
   have j6 : ∀ e ∈ putE b c es, plainP s e.1 = true ∧ plainP s e.2 = true := fun e he => by
     rcases put_mem he with rfl | he
     · exact ⟨plainV_P pb, plainV_P pc⟩
     · exact h6 e he
   have ok : InnerOk s (mapT (putE b c es), 0) := ok_kid (okT_mapT j5 (by have := put_len (k := b) (v := c) (es := es); omega)) (plain_mapT j6 (put_sorted h2) (put_keys hk h3))
   refine goodM iv ok (by decide +kernel) ?_
   rcases bool_em (hasK b es) with hh | hh
   · rw [putE, if_pos hh]; exact ctr250put_y _ a b c es rfl h1 oa ob h4 hk hh
   · rw [putE, if_neg (by rw [hh]; simp)]; exact ctr250put_n _ a b c es rfl h1 oa ob h4 hk hh
 · rw [if_neg (by rw [hk]; simp)] at iv ⊢
   exact goodM iv (ok_err (by decide)) (by decide +kernel) (ctr250put_k _ a b c es rfl h1 oa ob hk)
end
theorem len1 {l : List LTerm} (h : l.length = 1) : ∃ a, l = [a] := List.length_eq_one_iff.1 h
theorem len2 {l : List LTerm} (h : l.length = 2) : ∃ a b, l = [a, b] := by
 match l, h with
 | [a, b], _ => exact ⟨a, b, rfl⟩
theorem len3 {l : List LTerm} (h : l.length = 3) : ∃ a b c, l = [a, b, c] := by
 match l, h with
 | [a, b, c], _ => exact ⟨a, b, c, rfl⟩
theorem good {s : LSig} {x : Str} {l : List LTerm} (hb : builtIns.contains x = true) (hn : l.length = (argsP x).length) (h : Args s x l) : ∃ p, Good s x l p := by
 have e : ∀ y ∈ builtIns, ((argsP y).length = 1 ∧ (y = nneg ∨ y = ntext ∨ y = nnot ∨ y = nlength ∨ y = nsize ∨ y = nkeys ∨ y = nisvalue)) ∨ ((argsP y).length = 2 ∧ (y ∈ numNames ∨ y = neq ∨ y = nne ∨ y = nand ∨ y = nor ∨ y = ncat ∨ y = njoin ∨ y = nhas ∨ y = nget ∨ y = ndel ∨ y = nis)) ∨ ((argsP y).length = 3 ∧ (y = npick ∨ y = nput)) := by decide +kernel
 rcases e x (by simpa using hb) with ⟨e, hx⟩ | ⟨e, hx⟩ | ⟨e, hx⟩
 · obtain ⟨a, rfl⟩ := len1 (hn.trans e)
   rcases hx with rfl | rfl | rfl | rfl | rfl | rfl | rfl
   all_goals first | exact ⟨_, good_neg h⟩ | exact ⟨_, good_text h⟩ | exact ⟨_, good_not h⟩ | exact ⟨_, good_length h⟩ | exact ⟨_, good_size h⟩ | exact ⟨_, good_keys h⟩ | exact ⟨_, good_isvalue h⟩
 · obtain ⟨a, b, rfl⟩ := len2 (hn.trans e)
   rcases hx with hx | rfl | rfl | rfl | rfl | rfl | rfl | rfl | rfl | rfl | rfl
   all_goals first | exact ⟨_, good_num hx h⟩ | exact ⟨_, good_eq h⟩ | exact ⟨_, good_ne h⟩ | exact ⟨_, good_and h⟩ | exact ⟨_, good_or h⟩ | exact ⟨_, good_cat h⟩ | exact ⟨_, good_join h⟩ | exact ⟨_, good_has h⟩ | exact ⟨_, good_get h⟩ | exact ⟨_, good_del h⟩ | exact ⟨_, good_is h⟩
 · obtain ⟨a, b, c, rfl⟩ := len3 (hn.trans e)
   rcases hx with rfl | rfl
   all_goals first | exact ⟨_, good_pick h⟩ | exact ⟨_, good_put h⟩

def calcV (s : LSig) (x : Str) (l : List LTerm) : Res :=
 if builtIns.contains x = true then (if l.length = (argsP x).length then (if calcFit s x l = true then limV (innerV s x (l.getD 0 default) (l.getD 1 default) (l.getD 2 default)) else (tZ, 16)) else (tZ, 15)) else (tZ, 4)
def applyV (s : LSig) (x : Str) (l : List LTerm) : Res :=
 if validB s = true then (if plainA s l = true then calcV s x l else (tZ, 2)) else (tZ, 2)
theorem limV_ok {s : LSig} {p : Res} (h : InnerOk s p) : InnerOk s (limV p) := by
 rw [limV]; split
 · exact ok_err (by decide)
 · exact h
structure CalcOk (s : LSig) (p : Res) : Prop where
 inn : InnerOk s p
 val : p.2 = 0 → plainV s p.1 = true
theorem calcOk_err {s : LSig} {e : Int} (h : e ≠ 0) : CalcOk s (tZ, e) := ⟨ok_err h, fun h0 => absurd h0 h⟩
theorem calcOk_lim {s : LSig} {p : Res} (h : InnerOk s p) : CalcOk s (limV p) := by
 refine ⟨limV_ok h, ?_⟩
 rw [limV]; split
 · intro h0; cases h0
 · rename_i hn
   intro h0
   rw [plainV, h.plain h0, Bool.and_true]
   cases hv : validT nodeB p.1 with
   | true => rfl
   | false => exact absurd ⟨h0, hv⟩ hn
theorem calc_args {s : LSig} {x : Str} {l : List LTerm} (hm : Small s) (hs : OkS s) (hv : validB s = true) (hp : plainA s l = true) (ol : ∀ t ∈ l, OkT t) (hf : calcFit s x l = true) : Args s x l :=
 ⟨hm, hs, hv, fun t ht => List.all_eq_true.1 hp t ht, ol, hf⟩
theorem calc_ok {s : LSig} {x : Str} {l : List LTerm} (hm : Small s) (hs : OkS s) (hv : validB s = true) (hp : plainA s l = true) (ol : ∀ t ∈ l, OkT t) : CalcOk s (calcV s x l) := by
 rw [calcV]
 split
 · split
   · split
     · obtain ⟨p, g⟩ := good ‹_› ‹_› (calc_args hm hs hv hp ol ‹_›)
       rw [g.iv]
       exact calcOk_lim g.ok
     · exact calcOk_err (by decide)
   · exact calcOk_err (by decide)
 · exact calcOk_err (by decide)
theorem ctr232V (s : LSig) (x : Str) (l : List LTerm) (hm : Small s) (hs : OkS s) (hv : validB s = true) (hp : plainA s l = true) (hl : l.length ≤ 1466015503701) (ol : ∀ t ∈ l, OkT t) : CT 38 [bookAV s, .s x, avt l] (resV (calcV s x l)) := by
 rcases bool_em (builtIns.contains x) with hb | hb
 · by_cases hn : l.length = (argsP x).length
   · have g := fun hf => good hb hn (calc_args hm hs hv hp ol hf)
     refine ctr232_all s x l (innerV s x (l.getD 0 default) (l.getD 1 default) (l.getD 2 default)) hm hl hb hn (fun hf e => ?_) (fun hf e => ?_) (fun hf e e2 => ?_) (fun hf => ?_) _ ?_
     · obtain ⟨p, g⟩ := g hf; rw [g.iv]; exact g.ci e
     · obtain ⟨p, g⟩ := g hf; rw [g.iv]; exact g.cm e
     · obtain ⟨p, g⟩ := g hf; rw [g.iv]; exact g.co e e2
     · obtain ⟨p, g⟩ := g hf; rw [g.iv]; exact g.ok.ok
     · rw [calcV, if_pos hb, if_pos hn]
   · rw [calcV, if_pos hb, if_neg hn]; exact ctr232_l s x l hl hb hn
 · rw [calcV, if_neg (by rw [hb]; simp)]; exact ctr232_n s x l hb
theorem ctr209V (s : LSig) (x : Str) (l : List LTerm) (hm : Small s) (hs : OkS s) (hl : l.length ≤ 1466015503701) (ol : ∀ t ∈ l, OkT t) : CT 12 [.agg (sigCells s), .s x, avt l] (resV (applyV s x l)) := by
 rcases bool_em (validB s) with hv | hv
 · refine ctr209 s x l (calcV s x l) hm hs hv hl ol (fun hp => (calc_ok hm hs hv hp ol).inn.ok) (fun hp => ctr232V s x l hm hs hv hp hl ol) _ ?_
   rw [applyV, if_pos hv]
 · rw [applyV, if_neg (by rw [hv]; simp)]; exact ctr209_n s x l hm hs hv

theorem most_any {s : LSig} {x : Str} : atMost s x anyS = true := by simp [atMost]
theorem most_self {s : LSig} {x : Str} (h : x ∈ alwaysA) : atMost s x x = true := (atMost_iff (ex_built h)).2 (.inr (.refl x))
section
variable {s : LSig}
end
abbrev eS : LSig := ⟨[], [], [], [], []⟩
theorem sm_e : Small eS := ⟨by decide, by decide, by decide, by decide, by decide⟩
theorem ok_e : OkS eS := ⟨by decide, fun _ h => (by cases h), by decide, fun _ h => (by cases h), by decide, fun _ h => (by cases h), by decide, fun _ h => (by cases h), by decide, by decide, by decide, fun _ h => (by cases h)⟩
theorem v_e : validB eS = true := by decide +kernel
theorem apply_eq {s : LSig} {x : Str} {l : List LTerm} (hv : validB s = true) (hb : builtIns.contains x = true) (hn : l.length = (argsP x).length) (hp : ∀ t ∈ l, plainV s t = true) (hf : calcFit s x l = true) : applyV s x l = limV (innerV s x (l.getD 0 default) (l.getD 1 default) (l.getD 2 default)) := by
 have hpa : plainA s l = true := List.all_eq_true.2 hp
 rw [applyV, if_pos hv, if_pos hpa, calcV, if_pos hb, if_pos hn, if_pos hf]
theorem lim_ok {p : Res} (h : validT nodeB p.1 = true) : limV p = p := by rw [limV, if_neg (fun h2 => Bool.noConfusion (h.symm.trans h2.2))]
theorem lim_er {p : Res} (h : p.2 ≠ 0) : limV p = p := by rw [limV, if_neg (fun h2 => h h2.1)]
theorem valid_leaf {k n : Int} {x so : Str} (h : nodeB (.mk k n x so [] []) = true) : validT nodeB (.mk k n x so [] []) = true := by
 simp only [validT, wfT, wfL, highT, highL, nodesT, nodesL, h, List.length_nil, Bool.and_self, Bool.true_and, Nat.max_self, Nat.add_zero, Bool.and_eq_true, decide_eq_true_eq, true_and]
 exact ⟨by decide, zt (by omega)⟩
theorem node_tInt {n : Int} (h : isInt n = true) : nodeB (tInt n) = true := by rw [nodeB_1 rfl]; simp only [LTerm.n, h]; rfl
theorem node_tBool {b : Bool} : nodeB (tBool b) = true := by cases b <;> rfl
theorem valid_int {n : Int} (h : isInt n = true) : validT nodeB (tInt n) = true := valid_leaf (node_tInt h)
theorem valid_bool {b : Bool} : validT nodeB (tBool b) = true := valid_leaf node_tBool
theorem plainV_int {s : LSig} {n : Int} (h : isInt n = true) : plainV s (tInt n) = true := by rw [plainV, valid_int h, plain_leaf (by decide) (by decide) (by decide)]; rfl
theorem plainV_bool {s : LSig} {b : Bool} : plainV s (tBool b) = true := by rw [plainV, valid_bool, plain_leaf (by decide) (by decide) (by decide)]; rfl
theorem fit1 {s : LSig} {x : Str} {a : LTerm} {u : Str} (e : argsP x = [u]) (h : atMost s (sortP s a) u = true) : calcFit s x [a] = true :=
 allN_true fun j hj => by
   match j, hj with
   | 0, _ => rw [e]; exact h
theorem fit2 {s : LSig} {x : Str} {a b : LTerm} {u v : Str} (e : argsP x = [u, v]) (h : atMost s (sortP s a) u = true) (h2 : atMost s (sortP s b) v = true) : calcFit s x [a, b] = true :=
 allN_true fun j hj => by
   match j, hj with
   | 0, _ => rw [e]; exact h
   | 1, _ => rw [e]; exact h2
theorem fit3 {s : LSig} {x : Str} {a b c : LTerm} {u v w : Str} (e : argsP x = [u, v, w]) (h : atMost s (sortP s a) u = true) (h2 : atMost s (sortP s b) v = true) (h3 : atMost s (sortP s c) w = true) : calcFit s x [a, b, c] = true :=
 allN_true fun j hj => by
   match j, hj with
   | 0, _ => rw [e]; exact h
   | 1, _ => rw [e]; exact h2
   | 2, _ => rw [e]; exact h3
theorem most_kind {s : LSig} {t : LTerm} {so : Str} (h : sortP s t = so) (ha : so ∈ alwaysA) : atMost s (sortP s t) so = true := by rw [h]; exact most_self ha

mutual
def partsT : LTerm → Int → Int → Int
 | .mk k n t s ks rs, left, deep =>
   if left - (1 + Int.tdiv (t.length + s.length) 50) < 0 then -1 else
   (if deep + 1 > 80 then -1 else partsL rs (if deep + 1 > 80 then -1 else partsL ks (left - (1 + Int.tdiv (t.length + s.length) 50)) (deep + 1)) (deep + 1))
def partsL : List LTerm → Int → Int → Int
 | [], left, deep => left
 | t :: l, left, deep => if partsT t left deep < 0 then -1 else partsL l (partsT t left deep) deep
end
def partsB (l : List LTerm) (left deep : Int) : Int := if deep > 80 then -1 else partsL l left deep
theorem partsT_eq (t : LTerm) (left deep : Int) : partsT t left deep = if left - (1 + Int.tdiv (t.text.length + t.sort.length) 50) < 0 then -1 else partsB t.rest (partsB t.kids (left - (1 + Int.tdiv (t.text.length + t.sort.length) 50)) (deep + 1)) (deep + 1) := by
 cases t; rw [partsT]; rfl
theorem partsL_at {l : List LTerm} {k : Nat} {d m : Int} (h : k < l.length) : partsL (l.drop k) m d = if partsT (l.getD k default) m d < 0 then -1 else partsL (l.drop (k + 1)) (partsT (l.getD k default) m d) d := by
 rw [List.drop_eq_getElem_cons h, partsL]; simp [List.getD, h]
theorem i50 : ((50 : Int) = 0) = False := by decide
theorem tdiv50 (a : Nat) : 0 ≤ Int.tdiv (a : Int) 50 ∧ Int.tdiv (a : Int) 50 ≤ a := by
 rw [Int.tdiv_eq_ediv_of_nonneg (by omega)]; omega
mutual
theorem partsT_le : ∀ (t : LTerm) (m d : Int), -1 ≤ m → -1 ≤ partsT t m d ∧ partsT t m d ≤ m
 | .mk k n t s ks rs, m, d, hm => by
   have h := tdiv50 (t.length + s.length)
   rw [Int.natCast_add] at h
   rw [partsT]
   split
   · omega
   · split
     · omega
     · have h1 := partsL_le ks (m - (1 + Int.tdiv (t.length + s.length) 50)) (d + 1) (by omega)
       have h2 := partsL_le rs (partsL ks (m - (1 + Int.tdiv (t.length + s.length) 50)) (d + 1)) (d + 1) h1.1
       omega
theorem partsL_le : ∀ (l : List LTerm) (m d : Int), -1 ≤ m → -1 ≤ partsL l m d ∧ partsL l m d ≤ m
 | [], m, d, hm => by rw [partsL]; omega
 | t :: l, m, d, hm => by
   have h1 := partsT_le t m d hm
   have h2 := partsL_le l (partsT t m d) d h1.1
   rw [partsL]
   split <;> omega
end
theorem partsB_le (l : List LTerm) {m d : Int} (hm : -1 ≤ m) : -1 ≤ partsB l m d ∧ partsB l m d ≤ m := by
 rw [partsB]; split
 · omega
 · exact partsL_le l m d hm
theorem ctr240_1 (l : List LTerm) (m d : Int) (hl : l.length ≤ 1466015503701) (ho : ∀ t ∈ l, OkT t) (hm0 : -1 ≤ m) (hm : m ≤ 1000000) (hd0 : 0 ≤ d) (hd : d ≤ 100) (ihk : ∀ t ∈ l, ∀ (m d : Int), -1 ≤ m → m ≤ 1000000 → 0 ≤ d → d ≤ 100 → CT 51 [avt t.kids, .i .i64 m, .i .i64 d] (.i .i64 (partsB t.kids m d))) (ihr : ∀ t ∈ l, ∀ (m d : Int), -1 ≤ m → m ≤ 1000000 → 0 ≤ d → d ≤ 100 → CT 51 [avt t.rest, .i .i64 m, .i .i64 d] (.i .i64 (partsB t.rest m d))): CT 51 [avt l, .i .i64 m, .i .i64 d] (.i .i64 (partsB l m d)) := by
 refine sem_introA mixed Tryz.func51 g0 ?_
 · simp -implicitDefEqProofs (disch := omega) only [Tryz.f51, go_sem, List.replicate, ↓reduceIte, reduceAdd, reduceSub, reduceMul, reduceLeDiff, reduceLT, reduceEqDiff, reduceNeg, Nat.reduceBEq, avt]
   (repeat' (first | refine gT ?_ ?_ | refine gF ?_ ?_ | refine gC ?_ ?_ | refine And.intro (by omega) ?_ | (intro hr; have hc := hr; (try simp only [zda, zdb, zdc, zdd] at hc); simp -implicitDefEqProofs (disch := omega) only [hr, go_sem, ↓reduceIte, reduceAdd, reduceSub, reduceMul, reduceLeDiff, reduceLT, reduceEqDiff, reduceNeg, Nat.reduceBEq]; (try clear hr))))
   · exact fin_eq (by rw [partsB, if_pos (by omega)]) rfl
   rw [partsB, if_neg (by omega)]
   refine x_loopG (fun (s : Nat × Int) => [.k, .v (.i .i64 s.2), .k, .k, .k, .k, .j, .k, .j, .k, .k, .k, .k, .v (.i .i64 (s.1 : Nat)), .j, .j, .j, .j, .j, .j, .j, .j, .j, .j, .j, .j, .j, .j, .j, .j, .j, .j, .j, .j, .j, .j, .j, .j, .j, .j, .j, .j, .j, .j, .j, .k]) (fun s => []) (fun s => s.1 ≤ l.length ∧ -1 ≤ s.2 ∧ s.2 ≤ 1000000 ∧ partsL l m d = partsL (l.drop s.1) s.2 d) (fun s => l.length - s.1) ((0, m)) _ ⟨Nat.zero_le _, hm0, hm, rfl⟩ rfl (by simp [Fits]) ?_
   rintro ⟨k, m2⟩ g j ⟨hk, h20, h2, he⟩
   dsimp only at hk h20 h2 he
   simp -implicitDefEqProofs (disch := omega) only [go_sem, ↓reduceIte, reduceAdd, reduceSub, reduceMul, reduceLeDiff, reduceLT, reduceEqDiff, reduceNeg, Nat.reduceBEq]
   (repeat' (first | refine gT ?_ ?_ | refine gF ?_ ?_ | refine gC ?_ ?_ | refine And.intro (by omega) ?_ | (intro hr; have hc := hr; (try simp only [zda, zdb, zdc, zdd] at hc); simp -implicitDefEqProofs (disch := omega) only [hr, go_sem, ↓reduceIte, reduceAdd, reduceSub, reduceMul, reduceLeDiff, reduceLT, reduceEqDiff, reduceNeg, Nat.reduceBEq]; (try clear hr))))
   · have hlt : k < l.length := by omega
     have ot := ho _ (mem_getD (d := default) hlt)
     have b1 := ot.text
     have b2 := ot.sort
     have b3 := tdiv50 ((l.getD k default).text.length + (l.getD k default).sort.length)
     rw [Int.natCast_add] at b3
     rw [partsL_at hlt, partsT_eq] at he
     obtain ⟨q, hq⟩ : ∃ q, q = m2 - (1 + Int.tdiv ((l.getD k default).text.length + (l.getD k default).sort.length) 50) := ⟨_, rfl⟩
     rw [← hq] at he
     simp -implicitDefEqProofs (disch := omega) only [i50, ← hq, go_sem, ↓reduceIte, reduceAdd, reduceSub, reduceMul, reduceLeDiff, reduceLT, reduceEqDiff, reduceNeg, Nat.reduceBEq]
     (repeat' (first | refine gT ?_ ?_ | refine gF ?_ ?_ | refine gC ?_ ?_ | refine And.intro (by omega) ?_ | (intro hr; have hc := hr; (try simp only [zda, zdb, zdc, zdd] at hc); simp -implicitDefEqProofs (disch := omega) only [hr, go_sem, ↓reduceIte, reduceAdd, reduceSub, reduceMul, reduceLeDiff, reduceLT, reduceEqDiff, reduceNeg, Nat.reduceBEq]; (try clear hr))))
     · exact fin_eq (by rw [he, if_pos hc]; rfl) rfl
     have b4 := partsB_le (l.getD k default).kids (m := q) (d := d + 1) (by omega)
     have b5 := partsB_le (l.getD k default).rest (m := partsB (l.getD k default).kids q (d + 1)) (d := d + 1) b4.1
     have c1 := ihk _ (mem_getD (d := default) hlt) q (d + 1) (by omega) (by omega) (by omega) (by omega)
     have c2 := ihr _ (mem_getD (d := default) hlt) (partsB (l.getD k default).kids q (d + 1)) (d + 1) (by omega) (by omega) (by omega) (by omega)
     rw [if_neg (by omega : ¬ q < 0)] at he
     (repeat' (first | refine gT ?_ ?_ | refine gF ?_ ?_ | refine gC ?_ ?_ | ((first | (refine c_ctrE (c1) ?_ ?_; (focus (simp -implicitDefEqProofs (disch := omega) only [avs, avb, avi, avo, sigCells, opCells, pairCells, elT, avt, termCells_eq, go_sem, ↓reduceIte, reduceAdd, reduceSub, reduceMul, reduceLeDiff, reduceLT, reduceEqDiff, reduceNeg, Nat.reduceBEq]; done))) | (refine c_ctrE (c2) ?_ ?_; (focus (simp -implicitDefEqProofs (disch := omega) only [avs, avb, avi, avo, sigCells, opCells, pairCells, elT, avt, termCells_eq, go_sem, ↓reduceIte, reduceAdd, reduceSub, reduceMul, reduceLeDiff, reduceLT, reduceEqDiff, reduceNeg, Nat.reduceBEq]; done)))); simp -implicitDefEqProofs (disch := omega) only [go_sem, ↓reduceIte, reduceAdd, reduceSub, reduceMul, reduceLeDiff, reduceLT, reduceEqDiff, reduceNeg, Nat.reduceBEq]) | refine And.intro (by omega) ?_ | (intro hr; have hc := hr; (try simp only [zda, zdb, zdc, zdd] at hc); simp -implicitDefEqProofs (disch := omega) only [hr, go_sem, ↓reduceIte, reduceAdd, reduceSub, reduceMul, reduceLeDiff, reduceLT, reduceEqDiff, reduceNeg, Nat.reduceBEq]; (try clear hr))))
     · exact fin_eq (by rw [he, if_pos hc]) rfl
     · rw [if_neg hc] at he
       exact ⟨(k + 1, partsB (l.getD k default).rest (partsB (l.getD k default).kids q (d + 1)) (d + 1)), _, ⟨by dsimp only; omega, b5.1, by dsimp only; omega, he⟩, by dsimp only; omega, rfl, rfl, by simp⟩
   · rw [List.drop_of_length_le (by omega), partsL] at he
     exact fin_eq (by rw [he]) rfl
theorem ctr240_t : ∀ (t : LTerm), OkT t → (∀ (m d : Int), -1 ≤ m → m ≤ 1000000 → 0 ≤ d → d ≤ 100 → CT 51 [avt t.kids, .i .i64 m, .i .i64 d] (.i .i64 (partsB t.kids m d))) ∧ (∀ (m d : Int), -1 ≤ m → m ≤ 1000000 → 0 ≤ d → d ≤ 100 → CT 51 [avt t.rest, .i .i64 m, .i .i64 d] (.i .i64 (partsB t.rest m d))) :=
 term_ind fun t hk hr ht => ⟨fun m d h1 h2 h3 h4 => ctr240_1 t.kids m d ht.kids ht.kid h1 h2 h3 h4 (fun u hu => (hk u hu (ht.kid u hu)).1) (fun u hu => (hk u hu (ht.kid u hu)).2), fun m d h1 h2 h3 h4 => ctr240_1 t.rest m d ht.rest ht.rst h1 h2 h3 h4 (fun u hu => (hr u hu (ht.rst u hu)).1) (fun u hu => (hr u hu (ht.rst u hu)).2)⟩
theorem ctr240 (l : List LTerm) (m d : Int) (hl : l.length ≤ 1466015503701) (ho : ∀ t ∈ l, OkT t) (h1 : -1 ≤ m) (h2 : m ≤ 1000000) (h3 : 0 ≤ d) (h4 : d ≤ 100) : CT 51 [avt l, .i .i64 m, .i .i64 d] (.i .i64 (partsB l m d)) :=
 ctr240_1 l m d hl ho h1 h2 h3 h4 (fun u hu => (ctr240_t u (ho u hu)).1) (fun u hu => (ctr240_t u (ho u hu)).2)
def fewP (most : Int) (l : List LTerm) : Bool := decide (0 ≤ partsB l most 0)
theorem ctr227 (m : Int) (l : List LTerm) (hl : l.length ≤ 1466015503701) (ho : ∀ t ∈ l, OkT t) (h1 : 0 ≤ m) (h2 : m ≤ 1000000): CT 31 [.i .i64 m, avt l] (.b (fewP m l)) := by
 refine sem_introA mixed Tryz.func31 g0 ?_
 · simp -implicitDefEqProofs (disch := omega) only [Tryz.f31, go_sem, List.replicate, ↓reduceIte, reduceAdd, reduceSub, reduceMul, reduceLeDiff, reduceLT, reduceEqDiff, reduceNeg, Nat.reduceBEq, avt]
   (repeat' (first | refine gT ?_ ?_ | refine gF ?_ ?_ | refine gC ?_ ?_ | ((refine c_ctrE (ctr240 l m 0 hl ho (by omega) h2 (by decide) (by decide)) ?_ ?_; (focus (simp -implicitDefEqProofs (disch := omega) only [avs, avb, avi, avo, sigCells, opCells, pairCells, elT, avt, termCells_eq, go_sem, ↓reduceIte, reduceAdd, reduceSub, reduceMul, reduceLeDiff, reduceLT, reduceEqDiff, reduceNeg, Nat.reduceBEq]; done))); simp -implicitDefEqProofs (disch := omega) only [go_sem, ↓reduceIte, reduceAdd, reduceSub, reduceMul, reduceLeDiff, reduceLT, reduceEqDiff, reduceNeg, Nat.reduceBEq]) | refine And.intro (by omega) ?_ | (intro hr; have hc := hr; (try simp only [zda, zdb, zdc, zdd] at hc); simp -implicitDefEqProofs (disch := omega) only [hr, go_sem, ↓reduceIte, reduceAdd, reduceSub, reduceMul, reduceLeDiff, reduceLT, reduceEqDiff, reduceNeg, Nat.reduceBEq]; (try clear hr))))
   all_goals exact fin_eq rfl rfl
def fewV (s : LSig) (l : List LTerm) : Bool := few s && decide ((l.length : Int) ≤ 20) && fewP 2600 l
theorem ctr207 (s : LSig) (l : List LTerm) (hs : OkS s) (hl : l.length ≤ 1466015503701) (ho : ∀ t ∈ l, OkT t): CT 10 [.agg (sigCells s), avt l] (.b (fewV s l)) := by
 refine sem_introA mixed Tryz.func10 g0 ?_
 · simp -implicitDefEqProofs (disch := omega) only [Tryz.f10, go_sem, List.replicate, ↓reduceIte, reduceAdd, reduceSub, reduceMul, reduceLeDiff, reduceLT, reduceEqDiff, reduceNeg, Nat.reduceBEq, avt]
   (repeat' (first | refine gT ?_ ?_ | refine gF ?_ ?_ | refine gC ?_ ?_ | ((first | (refine c_ctrE (ctr10 s hs) ?_ ?_; (focus (simp -implicitDefEqProofs (disch := omega) only [avs, avb, avi, avo, sigCells, opCells, pairCells, elT, avt, termCells_eq, go_sem, ↓reduceIte, reduceAdd, reduceSub, reduceMul, reduceLeDiff, reduceLT, reduceEqDiff, reduceNeg, Nat.reduceBEq]; done))) | (refine c_ctrE (ctr227 2600 l hl ho (by decide) (by decide)) ?_ ?_; (focus (simp -implicitDefEqProofs (disch := omega) only [avs, avb, avi, avo, sigCells, opCells, pairCells, elT, avt, termCells_eq, go_sem, ↓reduceIte, reduceAdd, reduceSub, reduceMul, reduceLeDiff, reduceLT, reduceEqDiff, reduceNeg, Nat.reduceBEq]; done)))); simp -implicitDefEqProofs (disch := omega) only [go_sem, ↓reduceIte, reduceAdd, reduceSub, reduceMul, reduceLeDiff, reduceLT, reduceEqDiff, reduceNeg, Nat.reduceBEq]) | refine And.intro (by omega) ?_ | (intro hr; have hc := hr; (try simp only [zda, zdb, zdc, zdd] at hc); simp -implicitDefEqProofs (disch := omega) only [hr, go_sem, ↓reduceIte, reduceAdd, reduceSub, reduceMul, reduceLeDiff, reduceLT, reduceEqDiff, reduceNeg, Nat.reduceBEq]; (try clear hr))))
   all_goals refine fin_eq ?_ rfl
   all_goals simp only [fewV, *, decide_true, decide_false, Bool.true_and, Bool.false_and, Bool.and_true, Bool.and_false]

abbrev mA : LTerm := .mk 8 0 [] [] [tId [97], tInt 1] []
theorem ap1 : applyV eS ndiv [tInt (-7), tInt 2] = (tInt (-4), 0) := by decide +kernel
theorem ap2 : applyV eS nmod [tInt (-7), tInt 2] = (tInt 1, 0) := by decide +kernel
theorem ap3 : applyV eS nput [mA, tId [98], tInt 2] = (.mk 8 0 [] [] [tId [97], tInt 1, tId [98], tInt 2] [], 0) := by decide +kernel
theorem ap4 : applyV eS ndiv [tInt 1, tInt 0] = (tZ, 21) := by decide +kernel
theorem ap5 : applyV eS nget [mA, tId [122]] = (tZ, 4) := by decide +kernel
theorem ap6 : applyV eS nadd [tInt 1] = (tZ, 15) := by decide +kernel
theorem ap7 : applyV eS nadd [tInt 1, mA] = (tZ, 16) := by decide +kernel
theorem okT_int {n : Int} (h : -9223372036854775808 ≤ n) (h2 : n ≤ 9223372036854775807) : OkT (tInt n) := okT_leaf h h2 (by decide) (by decide)
theorem okT_id {s : Str} (h : s.length ≤ 140737488355328) : OkT (tId s) := okT_leaf (by decide) (by decide) h (by decide)
theorem ok_l1 {a : LTerm} (h : OkT a) : ∀ t ∈ [a], OkT t := fun t ht => by rw [List.mem_singleton] at ht; exact ht ▸ h
theorem ok_l2 {a b : LTerm} (h : OkT a) (h2 : OkT b) : ∀ t ∈ [a, b], OkT t := fun t ht => by
 simp only [List.mem_cons, List.not_mem_nil, or_false] at ht
 rcases ht with rfl | rfl <;> assumption
theorem ok_l3 {a b c : LTerm} (h : OkT a) (h2 : OkT b) (h3 : OkT c) : ∀ t ∈ [a, b, c], OkT t := fun t ht => by
 simp only [List.mem_cons, List.not_mem_nil, or_false] at ht
 rcases ht with rfl | rfl | rfl <;> assumption
theorem ok_mA : OkT mA := okT_kids (ok_l2 (okT_id (by decide)) (okT_int (by decide) (by decide))) (by decide)
theorem q1 : CT 12 [.agg (sigCells eS), .s ndiv, avt [tInt (-7), tInt 2]] (resV (tInt (-4), 0)) := ap1 ▸ ctr209V eS ndiv _ sm_e ok_e (by simp) (ok_l2 (okT_int (by decide) (by decide)) (okT_int (by decide) (by decide)))
theorem q2 : CT 12 [.agg (sigCells eS), .s nmod, avt [tInt (-7), tInt 2]] (resV (tInt 1, 0)) := ap2 ▸ ctr209V eS nmod _ sm_e ok_e (by simp) (ok_l2 (okT_int (by decide) (by decide)) (okT_int (by decide) (by decide)))
theorem q3 : CT 12 [.agg (sigCells eS), .s nput, avt [mA, tId [98], tInt 2]] (resV (.mk 8 0 [] [] [tId [97], tInt 1, tId [98], tInt 2] [], 0)) := ap3 ▸ ctr209V eS nput _ sm_e ok_e (by simp) (ok_l3 ok_mA (okT_id (by decide)) (okT_int (by decide) (by decide)))
theorem q4 : CT 12 [.agg (sigCells eS), .s ndiv, avt [tInt 1, tInt 0]] (resV (tZ, 21)) := ap4 ▸ ctr209V eS ndiv _ sm_e ok_e (by simp) (ok_l2 (okT_int (by decide) (by decide)) (okT_int (by decide) (by decide)))
theorem q5 : CT 12 [.agg (sigCells eS), .s nget, avt [mA, tId [122]]] (resV (tZ, 4)) := ap5 ▸ ctr209V eS nget _ sm_e ok_e (by simp) (ok_l2 ok_mA (okT_id (by decide)))
theorem q6 : CT 12 [.agg (sigCells eS), .s nadd, avt [tInt 1]] (resV (tZ, 15)) := ap6 ▸ ctr209V eS nadd _ sm_e ok_e (by simp) (ok_l1 (okT_int (by decide) (by decide)))
theorem q7 : CT 12 [.agg (sigCells eS), .s nadd, avt [tInt 1, mA]] (resV (tZ, 16)) := ap7 ▸ ctr209V eS nadd _ sm_e ok_e (by simp) (ok_l2 (okT_int (by decide) (by decide)) ok_mA)
theorem q8 : CT 15 [.s npick] (.tup [avs [boolS, anyS, anyS], .i .i64 0]) := (by kernel_rfl : tellA npick = .tup [avs [boolS, anyS, anyS], .i .i64 0]) ▸ ctr212 npick
theorem q9 : CT 17 [.s nkeys] (.tup [.s listS, .i .i64 0]) := (by kernel_rfl : tellC nkeys = .tup [.s listS, .i .i64 0]) ▸ ctr214 nkeys
theorem q10 : CT 15 [.s [112, 108, 117, 115]] (.tup [avs [], .i .i64 4]) := (by kernel_rfl : tellA [112, 108, 117, 115] = .tup [avs [], .i .i64 4]) ▸ ctr212 [112, 108, 117, 115]
theorem q11 : CT 21 [.s nisvalue] (.b true) := (by decide +kernel : builtIns.contains nisvalue = true) ▸ ctr218 nisvalue
end Go.Proofs.YtpilgabbgflbhaaGreatDoor

/-
  What functions of the chapter return, as plain functions of what they are given; no condition beyond those that each theorem names.
-/
import Derived.Test.YtpilgabbgflbhaaGreatDoorTeP6
set_option maxRecDepth 100000
set_option linter.unusedSimpArgs false
set_option linter.unusedVariables false
set_option maxHeartbeats 4000000
namespace Go.Proofs.YtpilgabbgflbhaaGreatDoor
open Go Go.Vo
open Nat (reduceAdd reduceSub reduceMul reduceLeDiff reduceLT reduceEqDiff)
open Int (reduceNeg)

theorem whole_cases (n : Int) : ((-2147483647 ≤ n ∧ n ≤ 2147483647) ∧ wholeV n = (tInt n, 0)) ∨ ((n < -2147483647 ∨ 2147483647 < n) ∧ wholeV n = (tZ, 20)) := by
 rcases bool_em (isInt n) with h | h
 · exact .inl ⟨int_le h, by rw [wholeV, if_pos h]⟩
 · refine .inr ⟨?_, by rw [wholeV, if_neg (by rw [h]; simp)]⟩
   simp only [isInt, Bool.and_eq_false_iff, decide_eq_false_iff_not] at h
   omega
theorem int_of {n : Int} (h1 : -2147483647 ≤ n) (h2 : n ≤ 2147483647) : isInt n = true := by
 simp only [isInt, Bool.and_eq_true, decide_eq_true_eq]; exact ⟨h1, h2⟩
theorem lim_num {x : Str} {a b : Int} : limV (numV x a b) = numV x a b := by
 have w : ∀ n, limV (wholeV n) = wholeV n := fun n => by
   rcases whole_cases n with ⟨h, e⟩ | ⟨h, e⟩
   · rw [e]; exact lim_ok (valid_int (int_of h.1 h.2))
   · rw [e]; exact lim_er (by decide)
 unfold numV
 repeat' split
 all_goals first
   | exact w _
   | exact lim_ok valid_bool
   | exact lim_er (by decide)
theorem pl1 {s : LSig} {a : LTerm} (h : plainV s a = true) : ∀ t ∈ [a], plainV s t = true := fun t ht => by rw [List.mem_singleton] at ht; exact ht ▸ h
theorem pl2 {s : LSig} {a b : LTerm} (h : plainV s a = true) (h2 : plainV s b = true) : ∀ t ∈ [a, b], plainV s t = true := fun t ht => by
 simp only [List.mem_cons, List.not_mem_nil, or_false] at ht
 rcases ht with rfl | rfl <;> assumption
theorem pl3 {s : LSig} {a b c : LTerm} (h : plainV s a = true) (h2 : plainV s b = true) (h3 : plainV s c = true) : ∀ t ∈ [a, b, c], plainV s t = true := fun t ht => by
 simp only [List.mem_cons, List.not_mem_nil, or_false] at ht
 rcases ht with rfl | rfl | rfl <;> assumption
theorem okT_i {n : Int} (h : isInt n = true) : OkT (tInt n) := by
 have := int_le h
 exact okT_int (by omega) (by omega)
theorem ap_num {x : Str} (hx : x ∈ numNames) {a b : Int} (ha : isInt a = true) (hb : isInt b = true) : applyV eS x [tInt a, tInt b] = numV x a b := by
 have e : ∀ y ∈ numNames, builtIns.contains y = true ∧ argsP y = [intS, intS] := by decide +kernel
 obtain ⟨e1, e2⟩ := e x hx
 have hf : calcFit eS x [tInt a, tInt b] = true := fit2 e2 (most_kind rfl (by decide)) (most_kind rfl (by decide))
 have hp := pl2 (plainV_int (s := eS) ha) (plainV_int hb)
 have g := good_num hx ⟨sm_e, ok_e, v_e, hp, ok_l2 (okT_i ha) (okT_i hb), hf⟩
 rw [apply_eq v_e e1 (by rw [e2]; rfl) hp hf, g.iv]
 exact lim_num
theorem ap_neg {b : Int} (hb : isInt b = true) : applyV eS nneg [tInt b] = (tInt (0 - b), 0) := by
 have hf : calcFit eS nneg [tInt b] = true := fit1 (u := intS) (by decide +kernel) (most_kind rfl (by decide))
 have hp := pl1 (plainV_int (s := eS) hb)
 have g := good_neg ⟨sm_e, ok_e, v_e, hp, ok_l1 (okT_i hb), hf⟩
 rw [apply_eq v_e (by decide +kernel) (by kernel_rfl) hp hf, g.iv]
 have := int_le hb
 have i2 : isInt (0 - b) = true := int_of (by omega) (by omega)
 exact lim_ok (valid_int i2)
theorem ap_out {x : Str} {a b : Int} (h : isInt a = false ∨ isInt b = false) : applyV eS x [tInt a, tInt b] = (tZ, 2) := by
 have nv : ∀ n, isInt n = false → plainV eS (tInt n) = false := fun n hn => by
   have : nodeB (tInt n) = false := by rw [nodeB_1 rfl]; simp only [LTerm.n, hn]; rfl
   rw [plainV, validT, wfT, this]; rfl
 have hp : ¬ plainA eS [tInt a, tInt b] = true := by
   rw [plainA, List.all_cons, List.all_cons]
   rcases h with h | h
   · rw [nv a h]; simp
   · rw [nv b h]; simp
 rw [applyV, if_pos v_e, if_neg hp]
theorem c_calc {x : Str} {a b : Int} {p : Res} (ha : -9223372036854775808 ≤ a ∧ a ≤ 9223372036854775807) (hb : -9223372036854775808 ≤ b ∧ b ≤ 9223372036854775807) (h : applyV eS x [tInt a, tInt b] = p) : CT 23 [.s x, avi [a, b]] (resV p) :=
 ctr220 x [a, b] p (by simp) (h ▸ ctr209V eS x [tInt a, tInt b] sm_e ok_e (by simp) (ok_l2 (okT_int ha.1 ha.2) (okT_int hb.1 hb.2)))
theorem c_calc1 {x : Str} {a : Int} {p : Res} (ha : -9223372036854775808 ≤ a ∧ a ≤ 9223372036854775807) (h : applyV eS x [tInt a] = p) : CT 23 [.s x, avi [a]] (resV p) :=
 ctr220 x [a] p (by simp) (h ▸ ctr209V eS x [tInt a] sm_e ok_e (by simp) (ok_l1 (okT_int ha.1 ha.2)))
theorem flo_int {a b : Int} (h0 : ¬ b = 0) (ha : isInt a = true) (hb : isInt b = true) : isInt (flo a b) = true := by
 have h1 := int_le ha
 have h := flo_rem (a := a) h0
 have hq : -2147483648 ≤ flo a b ∧ flo a b ≤ 2147483647 := by
   have hm : (a.tdiv b).natAbs ≤ a.natAbs := by rw [Int.natAbs_tdiv]; exact Nat.div_le_self _ _
   rw [flo]; split <;> omega
 refine int_of ?_ hq.2
 by_cases hq2 : flo a b = -2147483648
 · rw [hq2] at h
   exfalso
   by_cases hb0 : 0 < b
   · have := h.1 hb0
     have : b * -2147483648 ≤ 1 * -2147483648 := Int.mul_le_mul_of_nonpos_right (by omega) (by decide)
     omega
   · have := h.2 (by omega)
     have : -1 * -2147483648 ≤ b * -2147483648 := Int.mul_le_mul_of_nonpos_right (by omega) (by decide)
     omega
 · omega
theorem same_self {t : LTerm} (o : OkT t) : CT 14 [elT t, elT t] (.b true) := by
 have c := ctr211 t t o o
 rwa [zt rfl] at c

theorem toNat_m2 {k : Nat} : (2 * (k : Int)).toNat = 2 * k := by omega
theorem rep3t {α : Type} {l : List α} : (List.replicate 3 l).flatten = l ++ (l ++ l) := by simp [List.replicate]
theorem nodes_sub {l m : List LTerm} (h : l.Sublist m) : nodesL l ≤ nodesL m ∧ highL l ≤ highL m ∧ (wfL nodeB m = true → wfL nodeB l = true) := by
 induction h with
 | slnil => exact ⟨Nat.le_refl _, Nat.le_refl _, id⟩
 | cons a _ ih =>
   rw [nodesL, highL, wfL]
   exact ⟨by omega, by omega, fun h => ih.2.2 (by rw [Bool.and_eq_true] at h; exact h.2)⟩
 | cons_cons a _ ih =>
   simp only [nodesL, highL, wfL, Bool.and_eq_true]
   exact ⟨by omega, by omega, fun h => ⟨h.1, ih.2.2 h.2⟩⟩
theorem valid_iff {t : LTerm} : validT nodeB t = true ↔ wfT nodeB t = true ∧ highT t ≤ 60 ∧ nodesT t ≤ 2000 := by
 simp only [validT, Bool.and_eq_true, decide_eq_true_eq, and_assoc]
theorem valid_sub {k k' n n' : Int} {x x' y y' : Str} {l m : List LTerm} (h : l.Sublist m) (hn : nodeB (.mk k' n' x' y' l []) = true) (hv : validT nodeB (.mk k n x y m []) = true) : validT nodeB (.mk k' n' x' y' l []) = true := by
 have s := nodes_sub h
 rw [valid_iff] at hv ⊢
 simp only [wfT, highT, nodesT, Bool.and_eq_true, List.length_nil] at hv ⊢
 exact ⟨⟨hn, s.2.2 hv.1.2⟩, by omega, by omega⟩
theorem valid_kid {t c : LTerm} (h : c ∈ t.kids) (hv : validT nodeB t = true) : validT nodeB c = true := by
 obtain ⟨k, n, x, y, m, r⟩ := t
 have s := nodes_sub (List.singleton_sublist.2 h)
 rw [valid_iff] at hv ⊢
 simp only [wfT, highT, nodesT, Bool.and_eq_true, wfL, highL, nodesL, LTerm.kids, Bool.and_true] at hv s ⊢
 exact ⟨s.2.2 hv.1.2, by omega, by omega⟩
theorem node_list {l : List LTerm} : nodeB (.mk 7 0 [] [] l []) = true := rfl
theorem node_map {es : List Ent} : nodeB (mapT es) = true := by
 have : (flat es).length % 2 = 0 := by rw [flat_len]; omega
 unfold mapT nodeB
 simp only [LTerm.kind, LTerm.kids, this]
 rfl
theorem plainV_of {s : LSig} {t : LTerm} (h : validT nodeB t = true) (h2 : plainP s t = true) : plainV s t = true := by rw [plainV, h, h2]; rfl
theorem plainV_kid {s : LSig} {t c : LTerm} (h : plainV s t = true) (hc : c ∈ t.kids) : plainV s c = true :=
 plainV_of (valid_kid hc (plainV_V h)) (kids_plain (plainV_P h) c hc)
theorem plain_lst {s : LSig} {l : List LTerm} (h : ∀ t ∈ l, plainP s t = true) (hv : validT nodeB (.mk 7 0 [] [] l []) = true) : plainV s (.mk 7 0 [] [] l []) = true := plainV_of hv (plain_list h)
theorem lim_cases (t : LTerm) : (validT nodeB t = true ∧ limV (t, 0) = (t, 0)) ∨ (validT nodeB t = false ∧ limV (t, 0) = (tZ, 3)) := by
 cases h : validT nodeB t with
 | true => exact .inl ⟨rfl, lim_ok h⟩
 | false => exact .inr ⟨rfl, by rw [limV, if_pos ⟨rfl, h⟩]⟩
theorem ap_of {x : Str} {l : List LTerm} {p : Res} (hb : builtIns.contains x = true) (hn : l.length = (argsP x).length) (hp : ∀ t ∈ l, plainV eS t = true) (ol : ∀ t ∈ l, OkT t) (hf : calcFit eS x l = true) (g : Args eS x l → Good eS x l p) : applyV eS x l = limV p := by
 rw [apply_eq v_e hb hn hp hf, (g ⟨sm_e, ok_e, v_e, hp, ol, hf⟩).iv]
theorem ap_eq {a b : LTerm} (ha : plainV eS a = true) (hb : plainV eS b = true) (oa : OkT a) (ob : OkT b) : applyV eS neq [a, b] = (tBool (decide (a = b)), 0) :=
 (ap_of (by decide +kernel) (by kernel_rfl) (pl2 ha hb) (ok_l2 oa ob) (fit2 (u := anyS) (v := anyS) (by decide +kernel) most_any most_any) good_eq).trans (lim_ok valid_bool)
theorem ap_ne {a b : LTerm} (ha : plainV eS a = true) (hb : plainV eS b = true) (oa : OkT a) (ob : OkT b) : applyV eS nne [a, b] = (tBool (!decide (a = b)), 0) :=
 (ap_of (by decide +kernel) (by kernel_rfl) (pl2 ha hb) (ok_l2 oa ob) (fit2 (u := anyS) (v := anyS) (by decide +kernel) most_any most_any) good_ne).trans (lim_ok valid_bool)
theorem okT_b {b : Bool} : OkT (tBool b) := by cases b <;> exact okT_leaf (by decide) (by decide) (by decide) (by decide)
theorem ap_and {a b : Bool} : applyV eS nand [tBool a, tBool b] = (tBool (a && b), 0) := by
 have := ap_of (by decide +kernel) (by kernel_rfl) (pl2 plainV_bool plainV_bool) (ok_l2 okT_b okT_b) (fit2 (u := boolS) (v := boolS) (by decide +kernel) (most_kind rfl (by decide)) (most_kind rfl (by decide))) (good_and (a := tBool a) (b := tBool b))
 rw [this, lim_ok valid_bool]; cases a <;> cases b <;> rfl
theorem ap_or {a b : Bool} : applyV eS nor [tBool a, tBool b] = (tBool (a || b), 0) := by
 have := ap_of (by decide +kernel) (by kernel_rfl) (pl2 plainV_bool plainV_bool) (ok_l2 okT_b okT_b) (fit2 (u := boolS) (v := boolS) (by decide +kernel) (most_kind rfl (by decide)) (most_kind rfl (by decide))) (good_or (a := tBool a) (b := tBool b))
 rw [this, lim_ok valid_bool]; cases a <;> cases b <;> rfl
theorem ap_not {a : Bool} : applyV eS nnot [tBool a] = (tBool (!a), 0) := by
 have := ap_of (by decide +kernel) (by kernel_rfl) (pl1 plainV_bool) (ok_l1 okT_b) (fit1 (u := boolS) (by decide +kernel) (most_kind rfl (by decide))) (good_not (a := tBool a))
 rw [this, lim_ok valid_bool]; cases a <;> rfl
def tL (l : List LTerm) : LTerm := .mk 7 0 [] [] l []
theorem most_list {l : List LTerm} : atMost eS (sortP eS (tL l)) listS = true := most_kind rfl (by decide)
theorem ap_join {a b : List LTerm} (ha : plainV eS (tL a) = true) (hb : plainV eS (tL b) = true) (oa : OkT (tL a)) (ob : OkT (tL b)) : applyV eS njoin [tL a, tL b] = limV (tL (a ++ b), 0) :=
 ap_of (by decide +kernel) (by kernel_rfl) (pl2 ha hb) (ok_l2 oa ob) (fit2 (u := listS) (v := listS) (by decide +kernel) most_list most_list) good_join
theorem pl_join {a b : List LTerm} (ha : plainV eS (tL a) = true) (hb : plainV eS (tL b) = true) (h : validT nodeB (tL (a ++ b)) = true) : plainV eS (tL (a ++ b)) = true :=
 plain_lst (fun t ht => (List.mem_append.1 ht).elim (kids_plain (plainV_P ha) t) (kids_plain (plainV_P hb) t)) h
theorem len_int {n : Nat} (h : n ≤ 2000) : isInt (n : Int) = true := int_of (by omega) (by omega)
theorem ap_length {a : List LTerm} (ha : plainV eS (tL a) = true) (oa : OkT (tL a)) : applyV eS nlength [tL a] = (tInt a.length, 0) :=
 (ap_of (by decide +kernel) (by kernel_rfl) (pl1 ha) (ok_l1 oa) (fit1 (u := listS) (by decide +kernel) most_list) good_length).trans (lim_ok (valid_int (len_int (kids_len (plainV_V ha)))))
theorem pl_nil : plainV eS (tL []) = true := by decide +kernel
theorem most_map {es : List Ent} : atMost eS (sortP eS (mapT es)) mapS = true := most_kind rfl (by decide)
theorem ap_put {es : List Ent} {k v : LTerm} (hm : plainV eS (mapT es) = true) (hk : plainV eS k = true) (hv : plainV eS v = true) (om : OkT (mapT es)) (ok : OkT k) (ov : OkT v) : applyV eS nput [mapT es, k, v] = limV (if isKey k = true then (mapT (putE k v es), 0) else (tZ, 15)) := by
 have := ap_of (by decide +kernel) (by kernel_rfl) (pl3 hm hk hv) (ok_l3 om ok ov) (fit3 (u := mapS) (v := anyS) (w := anyS) (by decide +kernel) most_map most_any most_any) (good_put (a := mapT es) (b := k) (c := v))
 rw [this]; simp only [mapT, LTerm.kids, ents_flat]
theorem ap_get {es : List Ent} {k : LTerm} (hm : plainV eS (mapT es) = true) (hk : plainV eS k = true) (om : OkT (mapT es)) (ok : OkT k) : applyV eS nget [mapT es, k] = limV (if hasK k es = true then ((es.getD (posK k es) default).2, 0) else (tZ, 4)) := by
 have := ap_of (by decide +kernel) (by kernel_rfl) (pl2 hm hk) (ok_l2 om ok) (fit2 (u := mapS) (v := anyS) (by decide +kernel) most_map most_any) (good_get (a := mapT es) (b := k))
 rw [this]; simp only [mapT, LTerm.kids, ents_flat]
theorem ap_has {es : List Ent} {k : LTerm} (hm : plainV eS (mapT es) = true) (hk : plainV eS k = true) (om : OkT (mapT es)) (ok : OkT k) : applyV eS nhas [mapT es, k] = (tBool (hasK k es), 0) := by
 have := ap_of (by decide +kernel) (by kernel_rfl) (pl2 hm hk) (ok_l2 om ok) (fit2 (u := mapS) (v := anyS) (by decide +kernel) most_map most_any) (good_has (a := mapT es) (b := k))
 rw [this, lim_ok valid_bool]; simp only [mapT, LTerm.kids, ents_flat]
theorem ap_size {es : List Ent} (hm : plainV eS (mapT es) = true) (om : OkT (mapT es)) : applyV eS nsize [mapT es] = (tInt es.length, 0) := by
 have := ap_of (by decide +kernel) (by kernel_rfl) (pl1 hm) (ok_l1 om) (fit1 (u := mapS) (by decide +kernel) most_map) (good_size (a := mapT es))
 have l := kids_len (plainV_V hm)
 simp only [mapT, LTerm.kids, flat_len] at l
 rw [this]; simp only [mapT, LTerm.kids, ents_flat]
 exact lim_ok (valid_int (len_int (by omega)))
theorem ap_del {es : List Ent} {k : LTerm} (hm : plainV eS (mapT es) = true) (hk : plainV eS k = true) (om : OkT (mapT es)) (ok : OkT k) : applyV eS ndel [mapT es, k] = limV (mapT (delE k es), 0) := by
 have := ap_of (by decide +kernel) (by kernel_rfl) (pl2 hm hk) (ok_l2 om ok) (fit2 (u := mapS) (v := anyS) (by decide +kernel) most_map most_any) (good_del (a := mapT es) (b := k))
 rw [this]; simp only [mapT, LTerm.kids, ents_flat]
theorem ap_keys {es : List Ent} (hm : plainV eS (mapT es) = true) (om : OkT (mapT es)) : applyV eS nkeys [mapT es] = limV (tL (es.map (·.1)), 0) := by
 have := ap_of (by decide +kernel) (by kernel_rfl) (pl1 hm) (ok_l1 om) (fit1 (u := mapS) (by decide +kernel) most_map) (good_keys (a := mapT es))
 rw [this]; simp only [mapT, LTerm.kids, ents_flat, tL]
theorem flat_sub {a b : List Ent} (h : a.Sublist b) : (flat a).Sublist (flat b) := by
 induction h with
 | slnil => exact .slnil
 | cons e _ ih => exact .cons _ (.cons _ ih)
 | cons_cons e _ ih => exact .cons_cons _ (.cons_cons _ ih)
theorem keys_sub : ∀ (a : List Ent), (a.map (·.1)).Sublist (flat a)
 | [] => .slnil
 | e :: a => .cons_cons _ (.cons _ (keys_sub a))
theorem del_sub {k : LTerm} {es : List Ent} : (delE k es).Sublist es := by
 rw [delE]
 split
 · have h1 : (es.drop (posK k es + 1)).Sublist (es.drop (posK k es)) := by rw [← List.drop_drop]; exact List.drop_sublist _ _
   have h2 := (List.Sublist.refl (es.take (posK k es))).append h1
   rwa [List.take_append_drop] at h2
 · exact .refl _
theorem has_mem {es : List Ent} (hs : SortedE es) {e : Ent} (he : e ∈ es) : hasK e.1 es = true ∧ es.getD (posK e.1 es) default = e := by
 obtain ⟨i, hi, rfl⟩ := List.mem_iff_getElem.1 he
 have e1 : es.getD i default = es[i] := by simp [List.getD, hi]
 have := entry_at (k := es[i].1) hs hi (by rw [e1])
 exact ⟨this.2, by rw [this.1, e1]⟩
theorem put_in {k v : LTerm} {es : List Ent} : (k, v) ∈ putE k v es := List.mem_append.2 (.inr (List.mem_cons_self ..))
theorem put_old {k v : LTerm} {es : List Ent} {e : Ent} (he : e ∈ es) (hk : e.1 ≠ k) : e ∈ putE k v es := by
 rw [putE]
 rw [← List.take_append_drop (posK k es) es] at he
 rcases List.mem_append.1 he with h | h
 · exact List.mem_append.2 (.inl h)
 · refine List.mem_append.2 (.inr (List.mem_cons.2 (.inr ?_)))
   cases hh : hasK k es with
   | false => exact h
   | true =>
     have p := pos_has hh
     rw [List.drop_eq_getElem_cons p.1] at h
     rcases List.mem_cons.1 h with h | h
     · exfalso; apply hk
       have e2 : es.getD (posK k es) default = es[posK k es] := by simp [List.getD, p.1]
       rw [h, ← e2]; exact p.2
     · exact h
theorem put_size {k v : LTerm} {es : List Ent} : (putE k v es).length = es.length + (if hasK k es = true then 0 else 1) := by
 rw [putE, List.length_append, List.length_take, List.length_cons, List.length_drop]
 have := pos_le (k := k) (es := es)
 split
 · rename_i h; have := (pos_has h).1; omega
 · omega
theorem del_put {k v : LTerm} {es : List Ent} (hs : SortedE es) (h : hasK k es = false) : delE k (putE k v es) = es := by
 have l : (es.take (posK k es)).length = posK k es := by rw [List.length_take]; have := pos_le (k := k) (es := es); omega
 have hp := entry_at (k := k) (es := putE k v es) (i := posK k es) (put_sorted hs) (by rw [put_size, h]; have := pos_le (k := k) (es := es); simp; omega) (by
   rw [putE, List.getD, List.getElem?_append_right (by omega), l, Nat.sub_self]; rfl)
 rw [delE, if_pos hp.2, hp.1, putE, h]
 rw [List.take_append_of_le_length (by omega), List.take_of_length_le (by omega), List.drop_append, List.drop_of_length_le (by omega), l]
 have : posK k es + 1 - posK k es = 1 := by omega
 rw [this, List.drop_succ_cons, List.drop_zero, List.nil_append]
 exact List.take_append_drop _ _
theorem c_ap {x : Str} {l : List LTerm} {p : Res} (hl : l.length ≤ 20) (ol : ∀ t ∈ l, OkT t) (h : applyV eS x l = p) : CT 12 [.agg (sigCells eS), .s x, avt l] (resV p) := h ▸ ctr209V eS x l sm_e ok_e (by omega) ol
theorem map_is {s : LSig} {t : LTerm} {es : List Ent} (hp : plainV s t = true) (hk : t.kind = 8) (he : t.kids = flat es) : t = mapT es := by
 have hn := plainV_node hp
 have hP := plainV_P hp
 rw [plainP_eq] at hP
 simp only [Bool.and_eq_true, decide_eq_true_eq] at hP
 have hr := hP.1.1.2
 rw [nodeB_8 hk] at hn
 simp only [zeroB, Bool.and_eq_true, Bool.or_eq_true, decide_eq_true_eq, Bool.false_eq_true, false_or, true_or, and_true] at hn
 obtain ⟨k, n, x, y, ks, rs⟩ := t
 simp only [LTerm.kind, LTerm.n, LTerm.text, LTerm.sort, LTerm.kids, LTerm.rest] at *
 simp_all [mapT]
end Go.Proofs.YtpilgabbgflbhaaGreatDoor

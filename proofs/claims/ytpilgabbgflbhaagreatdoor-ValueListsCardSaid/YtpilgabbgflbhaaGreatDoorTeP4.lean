/-
  What functions of the chapter return, as plain functions of what they are given; no condition beyond those that each theorem names.
-/
import Derived.Test.YtpilgabbgflbhaaGreatDoorTeP3
import Derived.Test.YtpilgabbgflbhaaGreatDoorSoP3
import Derived.Test.YtpilgabbgflbhaaGreatDoorVoP5
import Derived.Test.YtpilgabbgflbhaaGreatDoorSoP2
set_option maxRecDepth 100000
set_option linter.unusedSimpArgs false
set_option linter.unusedVariables false
set_option maxHeartbeats 4000000
namespace Go.Proofs.YtpilgabbgflbhaaGreatDoor
open Go Go.Vo
open Nat (reduceAdd reduceSub reduceMul reduceLeDiff reduceLT reduceEqDiff)
open Int (reduceNeg)

theorem ctr269 (n : Int) (h0 : -9223372036854775808 ≤ n) (h1 : n ≤ 9223372036854775807) : CT 123 [.i .i64 n] (.s (Lib.itoa n)) := by
 refine ⟨by kernel_rfl, g0, ?_⟩
 intro F w vs hF hgl hl hr
 obtain ⟨v0, rfl⟩ := one_of hl
 have e0 := int_ok (hr 0 _ v0 rfl rfl)
 subst e0
 refine (Tryz.strconv_Itoa n h0 h1 w (box_tab (by kernel_rfl) (hgl 2 (.box powCells 0) rfl))).mono ?_
 rintro e w' ⟨rfl, k, os, rfl⟩
 have hgr : Grew w (Sort.grow (w.drewN k) os) := by
   refine ⟨fun b hb => ?_, ?_, rfl, rfl, rfl⟩
   · simp only [Sort.grow, World.drewN]; rw [Array.getElem?_append_left hb]
   · simp only [Sort.grow, World.drewN, Array.size_append]; omega
 exact ⟨_, F, [], rfl, hgr, fun _ h => h, fun _ h => .inl h, fun b hb => Nat.lt_of_lt_of_le (hF b hb) hgr.size, RR.val (.s _), List.nodup_nil, by simp⟩
theorem dig_small {n : Nat} (h : n < 10) : Lib.decDigits n = [UInt8.ofNat (48 + n)] := by rw [Lib.decDigits, dif_pos h]
theorem dig_big {n : Nat} (h : 10 ≤ n) : Lib.decDigits n = Lib.decDigits (n / 10) ++ Lib.decDigits (n % 10) := by
 rw [Lib.decDigits, dif_neg (by omega), dig_small (n := n % 10) (by omega)]
theorem dig_len (u : Nat) : (Lib.decDigits u).length ≤ u + 1 := by
 induction u using Nat.strongRecOn with
 | _ u ih =>
   by_cases h : u < 10
   · rw [dig_small h]; simp
   · have h1 := ih (u / 10) (by omega)
     rw [dig_big (by omega), dig_small (n := u % 10) (by omega)]
     simp; omega
theorem itoa_len (n : Int) : (Lib.itoa n).length ≤ n.natAbs + 2 := by
 rw [Lib.itoa]; split
 · have := dig_len n.natAbs; simp; omega
 · have := dig_len n.toNat; omega

abbrev nadd : Str := [97, 100, 100]
abbrev nand : Str := [97, 110, 100]
abbrev ncat : Str := [99, 97, 116]
abbrev ndel : Str := [100, 101, 108]
abbrev ndiv : Str := [100, 105, 118]
abbrev neq : Str := [101, 113]
abbrev nge : Str := [103, 101]
abbrev nget : Str := [103, 101, 116]
abbrev ngt : Str := [103, 116]
abbrev nhas : Str := [104, 97, 115]
abbrev nis : Str := [105, 115]
abbrev nisvalue : Str := [105, 115, 118, 97, 108, 117, 101]
abbrev njoin : Str := [106, 111, 105, 110]
abbrev nkeys : Str := [107, 101, 121, 115]
abbrev nle : Str := [108, 101]
abbrev nlength : Str := [108, 101, 110, 103, 116, 104]
abbrev nlt : Str := [108, 116]
abbrev nmod : Str := [109, 111, 100]
abbrev nmul : Str := [109, 117, 108]
abbrev nne : Str := [110, 101]
abbrev nneg : Str := [110, 101, 103]
abbrev nnot : Str := [110, 111, 116]
abbrev nor : Str := [111, 114]
abbrev npick : Str := [112, 105, 99, 107]
abbrev nput : Str := [112, 117, 116]
abbrev nsize : Str := [115, 105, 122, 101]
abbrev nsub : Str := [115, 117, 98]
abbrev ntext : Str := [116, 101, 120, 116]
abbrev Res := LTerm × Int
def resV (p : Res) : AV := resT p.1 p.2
attribute [go_sem] resV
def wholeV (n : Int) : Res := if isInt n then (tInt n, 0) else (tZ, 20)
theorem wholeV_eq (n : Int) : wholeR n = resV (wholeV n) := by rw [wholeR, wholeV]; split <;> rfl
theorem ctrW270 (n : Int) : CT 124 [.i .i64 n] (resV (wholeV n)) := wholeV_eq n ▸ ctr270 n
theorem fin_res {H : List AObj} {p : Res} {k n e : Int} {t s : Str} {ks rs : List LTerm} {v4 v5 : AV} (h : p = (.mk k n t s ks rs, e)) (r4 : Rd6 H v4 ks) (r5 : Rd6 H v5 rs) : Fin H (.tup [.agg [.i .i64 k, .i .i64 n, .s t, .s s, v4, v5], .i .i64 e]) (resV p) := by
 subst h
 exact fin_tt (t := .mk k n t s ks rs) r4 r5
theorem fin_resP {H : List AObj} {p q : Res} (h : p = q) : Fin H (.tup [.agg [.i .i64 q.1.kind, .i .i64 q.1.n, .s q.1.text, .s q.1.sort, .sl (q.1.kids.flatMap termCells) q.1.kids.length, .sl (q.1.rest.flatMap termCells) q.1.rest.length], .i .i64 q.2]) (resV p) := by
 subst h
 exact fin_tt (t := p.1) rd6_sl rd6_sl
def numV (x : Str) (a b : Int) : Res :=
 if x = nadd then wholeV (a + b) else if x = nsub then wholeV (a - b) else if x = nmul then wholeV (a * b)
 else if x = nlt then (tBool (decide (a < b)), 0) else if x = nle then (tBool (decide (a ≤ b)), 0) else if x = ngt then (tBool (decide (b < a)), 0) else if x = nge then (tBool (decide (b ≤ a)), 0)
 else if b = 0 then (tZ, 21) else if x = ndiv then wholeV (flo a b) else wholeV (a - b * flo a b)
theorem mul_le {a b : Int} (h1 : isInt a = true) (h2 : isInt b = true) : -4611686018427387904 ≤ a * b ∧ a * b ≤ 4611686018427387904 := by
 simp only [isInt, Bool.and_eq_true, decide_eq_true_eq] at h1 h2
 have h : (a * b).natAbs ≤ 2147483648 * 2147483648 := by rw [Int.natAbs_mul]; exact Nat.mul_le_mul (by omega) (by omega)
 omega
theorem int_le {a : Int} (h1 : isInt a = true) : -2147483647 ≤ a ∧ a ≤ 2147483647 := by
 simpa only [isInt, Bool.and_eq_true, decide_eq_true_eq] using h1
theorem flo_rem {a b : Int} (hb : b ≠ 0) : (0 < b → 0 ≤ a - b * flo a b ∧ a - b * flo a b < b) ∧ (b < 0 → a - b * flo a b ≤ 0 ∧ b < a - b * flo a b) := by
 have e := Int.mul_tdiv_add_tmod a b
 have e2 : b * (a.tdiv b - 1) = b * a.tdiv b - b := by rw [Int.mul_sub, Int.mul_one]
 have m1 : (a.tmod b).natAbs < b.natAbs := by rw [Int.natAbs_tmod]; exact Nat.mod_lt _ (by omega)
 have m2 : 0 ≤ a → 0 ≤ a.tmod b := fun h => Int.tmod_nonneg _ h
 have m3 : a ≤ 0 → a.tmod b ≤ 0 := fun h => by
   have := Int.tmod_nonneg b (a := -a) (by omega)
   rw [Int.neg_tmod] at this; omega
 simp only [flo]
 split
 · rename_i hc
   obtain ⟨h0, hs⟩ := hc
   simp only [ne_eq, decide_eq_decide] at hs
   rw [e2]
   by_cases hb0 : b < 0
   · by_cases ha : a < 0
     · exact absurd ⟨fun _ => hb0, fun _ => ha⟩ hs
     · have := m2 (by omega); omega
   · by_cases ha : a < 0
     · have := m3 (by omega); omega
     · exact absurd ⟨fun h => absurd h ha, fun h => absurd h hb0⟩ hs
 · rename_i hc
   rw [not_and] at hc
   simp only [ne_eq, Classical.not_not, decide_eq_decide] at hc
   by_cases h0 : a.tmod b = 0
   · omega
   · have hs := hc h0
     by_cases hb0 : b < 0
     · have := m3 (by omega); omega
     · have := m2 (by omega); omega
theorem rem_int {a b : Int} (hb : b ≠ 0) (h2 : isInt b = true) : wholeV (a - b * flo a b) = (tInt (a - b * flo a b), 0) := by
 have h := flo_rem (a := a) hb
 have h2 := int_le h2
 rw [wholeV, if_pos]
 simp only [isInt, Bool.and_eq_true, decide_eq_true_eq]
 omega
theorem flo_le {a b : Int} (hb : b ≠ 0) (h1 : isInt a = true) (h2 : isInt b = true) : -4294967296 ≤ b * flo a b ∧ b * flo a b ≤ 4294967296 := by
 have h := flo_rem (a := a) hb
 have h1 := int_le h1
 have h2 := int_le h2
 omega
theorem posI {x y : Str} (h : x = y) : (x = y) = True := eq_true h
theorem ctr248n (x : Str) (t : LTerm) (hx : x = nneg) (h : isInt t.n = true): CT 76 [.s x, avt [t]] (resV (tInt (0 - t.n), 0)) := by
 refine sem_introA mixed Tryz.func76 g0 ?_
 · generalize hR : ((resV (tInt (0 - t.n), 0)) : AV) = R
   simp -implicitDefEqProofs (disch := omega) only [Tryz.f76, go_sem, List.replicate, ↓reduceIte, reduceAdd, reduceSub, reduceMul, reduceLeDiff, reduceLT, reduceEqDiff, reduceNeg, Nat.reduceBEq, avt, List.flatMap_cons, List.flatMap_nil, termCells_eq, List.cons_append, List.nil_append, List.append_nil, List.length_cons, List.length_nil, Nat.reduceAdd]
   have h1 := int_le h
   simp -implicitDefEqProofs (disch := omega) only [zt hx, go_sem, ↓reduceIte, reduceAdd, reduceSub, reduceMul, reduceLeDiff, reduceLT, reduceEqDiff, reduceNeg, Nat.reduceBEq]
   (repeat' (first | refine gT ?_ ?_ | refine gF ?_ ?_ | refine gC ?_ ?_ | ((first | (refine c_ctrE (ctr267 (0 - t.n)) ?_ ?_; (focus (simp -implicitDefEqProofs (disch := omega) only [zt hx, avs, avb, avi, avo, sigCells, opCells, pairCells, elT, avt, termCells_eq, go_sem, ↓reduceIte, reduceAdd, reduceSub, reduceMul, reduceLeDiff, reduceLT, reduceEqDiff, reduceNeg, Nat.reduceBEq]; done))) | (refine c_ctrE (ctr262 (tInt (0 - t.n))) ?_ ?_; (focus (simp -implicitDefEqProofs (disch := omega) only [zt hx, avs, avb, avi, avo, sigCells, opCells, pairCells, elT, avt, termCells_eq, go_sem, ↓reduceIte, reduceAdd, reduceSub, reduceMul, reduceLeDiff, reduceLT, reduceEqDiff, reduceNeg, Nat.reduceBEq]; done)))); simp -implicitDefEqProofs (disch := omega) only [zt hx, go_sem, ↓reduceIte, reduceAdd, reduceSub, reduceMul, reduceLeDiff, reduceLT, reduceEqDiff, reduceNeg, Nat.reduceBEq]) | refine And.intro (by omega) ?_ | (intro hr; have hc := hr; (try simp only [zda, zdb, zdc, zdd] at hc); simp -implicitDefEqProofs (disch := omega) only [hr, zt hx, go_sem, ↓reduceIte, reduceAdd, reduceSub, reduceMul, reduceLeDiff, reduceLT, reduceEqDiff, reduceNeg, Nat.reduceBEq]; (try clear hr))))
   subst hR
   exact fin_res rfl (rd6_sl (l := [])) (rd6_sl (l := []))
theorem ctr248t (x : Str) (t : LTerm) (hx : x = ntext) (h : isInt t.n = true): CT 76 [.s x, avt [t]] (resV (tText (Lib.itoa t.n), 0)) := by
 refine sem_introA mixed Tryz.func76 g0 ?_
 · generalize hR : ((resV (tText (Lib.itoa t.n), 0)) : AV) = R
   simp -implicitDefEqProofs (disch := omega) only [Tryz.f76, go_sem, List.replicate, ↓reduceIte, reduceAdd, reduceSub, reduceMul, reduceLeDiff, reduceLT, reduceEqDiff, reduceNeg, Nat.reduceBEq, avt, List.flatMap_cons, List.flatMap_nil, termCells_eq, List.cons_append, List.nil_append, List.append_nil, List.length_cons, List.length_nil, Nat.reduceAdd]
   have h1 := int_le h
   have hy : ¬ x = nneg := by rw [hx]; decide
   simp -implicitDefEqProofs (disch := omega) only [zf hy, zt hx, go_sem, ↓reduceIte, reduceAdd, reduceSub, reduceMul, reduceLeDiff, reduceLT, reduceEqDiff, reduceNeg, Nat.reduceBEq]
   (repeat' (first | refine gT ?_ ?_ | refine gF ?_ ?_ | refine gC ?_ ?_ | ((first | (refine c_ctrE (ctr269 t.n (by omega) (by omega)) ?_ ?_; (focus (simp -implicitDefEqProofs (disch := omega) only [zf hy, zt hx, avs, avb, avi, avo, sigCells, opCells, pairCells, elT, avt, termCells_eq, go_sem, ↓reduceIte, reduceAdd, reduceSub, reduceMul, reduceLeDiff, reduceLT, reduceEqDiff, reduceNeg, Nat.reduceBEq]; done))) | (refine c_ctrE (ctr266 (Lib.itoa t.n)) ?_ ?_; (focus (simp -implicitDefEqProofs (disch := omega) only [zf hy, zt hx, avs, avb, avi, avo, sigCells, opCells, pairCells, elT, avt, termCells_eq, go_sem, ↓reduceIte, reduceAdd, reduceSub, reduceMul, reduceLeDiff, reduceLT, reduceEqDiff, reduceNeg, Nat.reduceBEq]; done))) | (refine c_ctrE (ctr262 (tText (Lib.itoa t.n))) ?_ ?_; (focus (simp -implicitDefEqProofs (disch := omega) only [zf hy, zt hx, avs, avb, avi, avo, sigCells, opCells, pairCells, elT, avt, termCells_eq, go_sem, ↓reduceIte, reduceAdd, reduceSub, reduceMul, reduceLeDiff, reduceLT, reduceEqDiff, reduceNeg, Nat.reduceBEq]; done)))); simp -implicitDefEqProofs (disch := omega) only [zf hy, zt hx, go_sem, ↓reduceIte, reduceAdd, reduceSub, reduceMul, reduceLeDiff, reduceLT, reduceEqDiff, reduceNeg, Nat.reduceBEq]) | refine And.intro (by omega) ?_ | (intro hr; have hc := hr; (try simp only [zda, zdb, zdc, zdd] at hc); simp -implicitDefEqProofs (disch := omega) only [hr, zf hy, zt hx, go_sem, ↓reduceIte, reduceAdd, reduceSub, reduceMul, reduceLeDiff, reduceLT, reduceEqDiff, reduceNeg, Nat.reduceBEq]; (try clear hr))))
   subst hR
   exact fin_res rfl (rd6_sl (l := [])) (rd6_sl (l := []))
theorem ctr248_0 (x : Str) (t u : LTerm) (hx : ¬ x = nneg) (hy : ¬ x = ntext) (ha : isInt t.n = true) (hb : isInt u.n = true) (h0 : u.n = 0): CT 76 [.s x, avt [t, u]] (resV (numV x t.n u.n)) := by
 refine sem_introA mixed Tryz.func76 g0 ?_
 · generalize hR : ((resV (numV x t.n u.n)) : AV) = R
   simp -implicitDefEqProofs (disch := omega) only [Tryz.f76, go_sem, List.replicate, ↓reduceIte, reduceAdd, reduceSub, reduceMul, reduceLeDiff, reduceLT, reduceEqDiff, reduceNeg, Nat.reduceBEq, avt, List.flatMap_cons, List.flatMap_nil, termCells_eq, List.cons_append, List.nil_append, List.append_nil, List.length_cons, List.length_nil, Nat.reduceAdd]
   have h1 := int_le ha
   have h2 := int_le hb
   have h3 := mul_le ha hb
   have h5 := eq_true h0
   generalize t.n = a at *
   generalize u.n = b at *
   simp -implicitDefEqProofs (disch := omega) only [zf hx, zf hy, zt h0, go_sem, ↓reduceIte, reduceAdd, reduceSub, reduceMul, reduceLeDiff, reduceLT, reduceEqDiff, reduceNeg, Nat.reduceBEq]
   (repeat' (first | refine gT ?_ ?_ | refine gF ?_ ?_ | refine gC ?_ ?_ | ((first | (refine c_ctrE (ctrW270 (a + b)) ?_ ?_; (focus (simp -implicitDefEqProofs (disch := omega) only [zf hx, zf hy, zt h0, avs, avb, avi, avo, sigCells, opCells, pairCells, elT, avt, termCells_eq, go_sem, ↓reduceIte, reduceAdd, reduceSub, reduceMul, reduceLeDiff, reduceLT, reduceEqDiff, reduceNeg, Nat.reduceBEq]; done))) | (refine c_ctrE (ctrW270 (a - b)) ?_ ?_; (focus (simp -implicitDefEqProofs (disch := omega) only [zf hx, zf hy, zt h0, avs, avb, avi, avo, sigCells, opCells, pairCells, elT, avt, termCells_eq, go_sem, ↓reduceIte, reduceAdd, reduceSub, reduceMul, reduceLeDiff, reduceLT, reduceEqDiff, reduceNeg, Nat.reduceBEq]; done))) | (refine c_ctrE (ctrW270 (a * b)) ?_ ?_; (focus (simp -implicitDefEqProofs (disch := omega) only [zf hx, zf hy, zt h0, avs, avb, avi, avo, sigCells, opCells, pairCells, elT, avt, termCells_eq, go_sem, ↓reduceIte, reduceAdd, reduceSub, reduceMul, reduceLeDiff, reduceLT, reduceEqDiff, reduceNeg, Nat.reduceBEq]; done))) | (refine c_ctrE (ctr263 (decide (a < b))) ?_ ?_; (focus (simp -implicitDefEqProofs (disch := omega) only [zf hx, zf hy, zt h0, avs, avb, avi, avo, sigCells, opCells, pairCells, elT, avt, termCells_eq, go_sem, ↓reduceIte, reduceAdd, reduceSub, reduceMul, reduceLeDiff, reduceLT, reduceEqDiff, reduceNeg, Nat.reduceBEq]; done))) | (refine c_ctrE (ctr263 (decide (a ≤ b))) ?_ ?_; (focus (simp -implicitDefEqProofs (disch := omega) only [zf hx, zf hy, zt h0, avs, avb, avi, avo, sigCells, opCells, pairCells, elT, avt, termCells_eq, go_sem, ↓reduceIte, reduceAdd, reduceSub, reduceMul, reduceLeDiff, reduceLT, reduceEqDiff, reduceNeg, Nat.reduceBEq]; done))) | (refine c_ctrE (ctr263 (decide (b < a))) ?_ ?_; (focus (simp -implicitDefEqProofs (disch := omega) only [zf hx, zf hy, zt h0, avs, avb, avi, avo, sigCells, opCells, pairCells, elT, avt, termCells_eq, go_sem, ↓reduceIte, reduceAdd, reduceSub, reduceMul, reduceLeDiff, reduceLT, reduceEqDiff, reduceNeg, Nat.reduceBEq]; done))) | (refine c_ctrE (ctr263 (decide (b ≤ a))) ?_ ?_; (focus (simp -implicitDefEqProofs (disch := omega) only [zf hx, zf hy, zt h0, avs, avb, avi, avo, sigCells, opCells, pairCells, elT, avt, termCells_eq, go_sem, ↓reduceIte, reduceAdd, reduceSub, reduceMul, reduceLeDiff, reduceLT, reduceEqDiff, reduceNeg, Nat.reduceBEq]; done))) | (refine c_ctrE (ctr262 (tBool (decide (a < b)))) ?_ ?_; (focus (simp -implicitDefEqProofs (disch := omega) only [zf hx, zf hy, zt h0, avs, avb, avi, avo, sigCells, opCells, pairCells, elT, avt, termCells_eq, go_sem, ↓reduceIte, reduceAdd, reduceSub, reduceMul, reduceLeDiff, reduceLT, reduceEqDiff, reduceNeg, Nat.reduceBEq]; done))) | (refine c_ctrE (ctr262 (tBool (decide (a ≤ b)))) ?_ ?_; (focus (simp -implicitDefEqProofs (disch := omega) only [zf hx, zf hy, zt h0, avs, avb, avi, avo, sigCells, opCells, pairCells, elT, avt, termCells_eq, go_sem, ↓reduceIte, reduceAdd, reduceSub, reduceMul, reduceLeDiff, reduceLT, reduceEqDiff, reduceNeg, Nat.reduceBEq]; done))) | (refine c_ctrE (ctr262 (tBool (decide (b < a)))) ?_ ?_; (focus (simp -implicitDefEqProofs (disch := omega) only [zf hx, zf hy, zt h0, avs, avb, avi, avo, sigCells, opCells, pairCells, elT, avt, termCells_eq, go_sem, ↓reduceIte, reduceAdd, reduceSub, reduceMul, reduceLeDiff, reduceLT, reduceEqDiff, reduceNeg, Nat.reduceBEq]; done))) | (refine c_ctrE (ctr262 (tBool (decide (b ≤ a)))) ?_ ?_; (focus (simp -implicitDefEqProofs (disch := omega) only [zf hx, zf hy, zt h0, avs, avb, avi, avo, sigCells, opCells, pairCells, elT, avt, termCells_eq, go_sem, ↓reduceIte, reduceAdd, reduceSub, reduceMul, reduceLeDiff, reduceLT, reduceEqDiff, reduceNeg, Nat.reduceBEq]; done)))); simp -implicitDefEqProofs (disch := omega) only [zf hx, zf hy, zt h0, go_sem, ↓reduceIte, reduceAdd, reduceSub, reduceMul, reduceLeDiff, reduceLT, reduceEqDiff, reduceNeg, Nat.reduceBEq]) | refine And.intro (by omega) ?_ | (intro hr; have hc := hr; (try simp only [zda, zdb, zdc, zdd] at hc); simp -implicitDefEqProofs (disch := omega) only [hr, zf hx, zf hy, zt h0, go_sem, ↓reduceIte, reduceAdd, reduceSub, reduceMul, reduceLeDiff, reduceLT, reduceEqDiff, reduceNeg, Nat.reduceBEq]; (try clear hr))))
   clear h0
   all_goals subst hR
   all_goals first
     | (have ht := posI hc; clear hc; refine fin_resP ?_; simp only [numV, *, if_true, if_false]; done)
     | (have ht := posI hc; clear hc; refine fin_res ?_ (rd6_sl (l := [])) (rd6_sl (l := [])); simp only [numV, *, if_true, if_false]; done)
     | (have ht := posI hc; clear hc; refine fin_res ?_ rd6_e0 rd6_e0; simp only [numV, *, if_true, if_false]; done)
     | (refine fin_resP ?_; simp only [numV, *, if_true, if_false]; done)
     | (refine fin_res ?_ (rd6_sl (l := [])) (rd6_sl (l := [])); simp only [numV, *, if_true, if_false]; done)
     | (refine fin_res ?_ rd6_e0 rd6_e0; simp only [numV, *, if_true, if_false]; done)
theorem ctr248_1 (x : Str) (t u : LTerm) (hx : ¬ x = nneg) (hy : ¬ x = ntext) (ha : isInt t.n = true) (hb : isInt u.n = true) (h0 : ¬ u.n = 0): CT 76 [.s x, avt [t, u]] (resV (numV x t.n u.n)) := by
 refine sem_introA mixed Tryz.func76 g0 ?_
 · generalize hR : ((resV (numV x t.n u.n)) : AV) = R
   simp -implicitDefEqProofs (disch := omega) only [Tryz.f76, go_sem, List.replicate, ↓reduceIte, reduceAdd, reduceSub, reduceMul, reduceLeDiff, reduceLT, reduceEqDiff, reduceNeg, Nat.reduceBEq, avt, List.flatMap_cons, List.flatMap_nil, termCells_eq, List.cons_append, List.nil_append, List.append_nil, List.length_cons, List.length_nil, Nat.reduceAdd]
   have h1 := int_le ha
   have h2 := int_le hb
   have h3 := mul_le ha hb
   have h4 := flo_le h0 ha hb
   have h6 := rem_int (a := t.n) h0 hb
   generalize t.n = a at *
   generalize u.n = b at *
   simp -implicitDefEqProofs (disch := omega) only [zf hx, zf hy, zf h0, go_sem, ↓reduceIte, reduceAdd, reduceSub, reduceMul, reduceLeDiff, reduceLT, reduceEqDiff, reduceNeg, Nat.reduceBEq]
   (repeat' (first | refine gT ?_ ?_ | refine gF ?_ ?_ | refine gC ?_ ?_ | ((first | (refine c_ctrE (ctrW270 (a + b)) ?_ ?_; (focus (simp -implicitDefEqProofs (disch := omega) only [zf hx, zf hy, zf h0, avs, avb, avi, avo, sigCells, opCells, pairCells, elT, avt, termCells_eq, go_sem, ↓reduceIte, reduceAdd, reduceSub, reduceMul, reduceLeDiff, reduceLT, reduceEqDiff, reduceNeg, Nat.reduceBEq]; done))) | (refine c_ctrE (ctrW270 (a - b)) ?_ ?_; (focus (simp -implicitDefEqProofs (disch := omega) only [zf hx, zf hy, zf h0, avs, avb, avi, avo, sigCells, opCells, pairCells, elT, avt, termCells_eq, go_sem, ↓reduceIte, reduceAdd, reduceSub, reduceMul, reduceLeDiff, reduceLT, reduceEqDiff, reduceNeg, Nat.reduceBEq]; done))) | (refine c_ctrE (ctrW270 (a * b)) ?_ ?_; (focus (simp -implicitDefEqProofs (disch := omega) only [zf hx, zf hy, zf h0, avs, avb, avi, avo, sigCells, opCells, pairCells, elT, avt, termCells_eq, go_sem, ↓reduceIte, reduceAdd, reduceSub, reduceMul, reduceLeDiff, reduceLT, reduceEqDiff, reduceNeg, Nat.reduceBEq]; done))) | (refine c_ctrE (ctr263 (decide (a < b))) ?_ ?_; (focus (simp -implicitDefEqProofs (disch := omega) only [zf hx, zf hy, zf h0, avs, avb, avi, avo, sigCells, opCells, pairCells, elT, avt, termCells_eq, go_sem, ↓reduceIte, reduceAdd, reduceSub, reduceMul, reduceLeDiff, reduceLT, reduceEqDiff, reduceNeg, Nat.reduceBEq]; done))) | (refine c_ctrE (ctr263 (decide (a ≤ b))) ?_ ?_; (focus (simp -implicitDefEqProofs (disch := omega) only [zf hx, zf hy, zf h0, avs, avb, avi, avo, sigCells, opCells, pairCells, elT, avt, termCells_eq, go_sem, ↓reduceIte, reduceAdd, reduceSub, reduceMul, reduceLeDiff, reduceLT, reduceEqDiff, reduceNeg, Nat.reduceBEq]; done))) | (refine c_ctrE (ctr263 (decide (b < a))) ?_ ?_; (focus (simp -implicitDefEqProofs (disch := omega) only [zf hx, zf hy, zf h0, avs, avb, avi, avo, sigCells, opCells, pairCells, elT, avt, termCells_eq, go_sem, ↓reduceIte, reduceAdd, reduceSub, reduceMul, reduceLeDiff, reduceLT, reduceEqDiff, reduceNeg, Nat.reduceBEq]; done))) | (refine c_ctrE (ctr263 (decide (b ≤ a))) ?_ ?_; (focus (simp -implicitDefEqProofs (disch := omega) only [zf hx, zf hy, zf h0, avs, avb, avi, avo, sigCells, opCells, pairCells, elT, avt, termCells_eq, go_sem, ↓reduceIte, reduceAdd, reduceSub, reduceMul, reduceLeDiff, reduceLT, reduceEqDiff, reduceNeg, Nat.reduceBEq]; done))) | (refine c_ctrE (ctr262 (tBool (decide (a < b)))) ?_ ?_; (focus (simp -implicitDefEqProofs (disch := omega) only [zf hx, zf hy, zf h0, avs, avb, avi, avo, sigCells, opCells, pairCells, elT, avt, termCells_eq, go_sem, ↓reduceIte, reduceAdd, reduceSub, reduceMul, reduceLeDiff, reduceLT, reduceEqDiff, reduceNeg, Nat.reduceBEq]; done))) | (refine c_ctrE (ctr262 (tBool (decide (a ≤ b)))) ?_ ?_; (focus (simp -implicitDefEqProofs (disch := omega) only [zf hx, zf hy, zf h0, avs, avb, avi, avo, sigCells, opCells, pairCells, elT, avt, termCells_eq, go_sem, ↓reduceIte, reduceAdd, reduceSub, reduceMul, reduceLeDiff, reduceLT, reduceEqDiff, reduceNeg, Nat.reduceBEq]; done))) | (refine c_ctrE (ctr262 (tBool (decide (b < a)))) ?_ ?_; (focus (simp -implicitDefEqProofs (disch := omega) only [zf hx, zf hy, zf h0, avs, avb, avi, avo, sigCells, opCells, pairCells, elT, avt, termCells_eq, go_sem, ↓reduceIte, reduceAdd, reduceSub, reduceMul, reduceLeDiff, reduceLT, reduceEqDiff, reduceNeg, Nat.reduceBEq]; done))) | (refine c_ctrE (ctr262 (tBool (decide (b ≤ a)))) ?_ ?_; (focus (simp -implicitDefEqProofs (disch := omega) only [zf hx, zf hy, zf h0, avs, avb, avi, avo, sigCells, opCells, pairCells, elT, avt, termCells_eq, go_sem, ↓reduceIte, reduceAdd, reduceSub, reduceMul, reduceLeDiff, reduceLT, reduceEqDiff, reduceNeg, Nat.reduceBEq]; done))) | (refine c_ctrE (ctr271 a b h0 (by omega) (by omega)) ?_ ?_; (focus (simp -implicitDefEqProofs (disch := omega) only [zf hx, zf hy, zf h0, avs, avb, avi, avo, sigCells, opCells, pairCells, elT, avt, termCells_eq, go_sem, ↓reduceIte, reduceAdd, reduceSub, reduceMul, reduceLeDiff, reduceLT, reduceEqDiff, reduceNeg, Nat.reduceBEq]; done))) | (refine c_ctrE (ctrW270 (flo a b)) ?_ ?_; (focus (simp -implicitDefEqProofs (disch := omega) only [zf hx, zf hy, zf h0, avs, avb, avi, avo, sigCells, opCells, pairCells, elT, avt, termCells_eq, go_sem, ↓reduceIte, reduceAdd, reduceSub, reduceMul, reduceLeDiff, reduceLT, reduceEqDiff, reduceNeg, Nat.reduceBEq]; done))) | (refine c_ctrE (ctr267 (a - b * flo a b)) ?_ ?_; (focus (simp -implicitDefEqProofs (disch := omega) only [zf hx, zf hy, zf h0, avs, avb, avi, avo, sigCells, opCells, pairCells, elT, avt, termCells_eq, go_sem, ↓reduceIte, reduceAdd, reduceSub, reduceMul, reduceLeDiff, reduceLT, reduceEqDiff, reduceNeg, Nat.reduceBEq]; done))) | (refine c_ctrE (ctr262 (tInt (a - b * flo a b))) ?_ ?_; (focus (simp -implicitDefEqProofs (disch := omega) only [zf hx, zf hy, zf h0, avs, avb, avi, avo, sigCells, opCells, pairCells, elT, avt, termCells_eq, go_sem, ↓reduceIte, reduceAdd, reduceSub, reduceMul, reduceLeDiff, reduceLT, reduceEqDiff, reduceNeg, Nat.reduceBEq]; done)))); simp -implicitDefEqProofs (disch := omega) only [zf hx, zf hy, zf h0, go_sem, ↓reduceIte, reduceAdd, reduceSub, reduceMul, reduceLeDiff, reduceLT, reduceEqDiff, reduceNeg, Nat.reduceBEq]) | refine And.intro (by omega) ?_ | (intro hr; have hc := hr; (try simp only [zda, zdb, zdc, zdd] at hc); simp -implicitDefEqProofs (disch := omega) only [hr, zf hx, zf hy, zf h0, go_sem, ↓reduceIte, reduceAdd, reduceSub, reduceMul, reduceLeDiff, reduceLT, reduceEqDiff, reduceNeg, Nat.reduceBEq]; (try clear hr))))
   all_goals subst hR
   all_goals first
     | (have ht := posI hc; clear hc; refine fin_resP ?_; simp only [numV, *, if_true, if_false]; done)
     | (have ht := posI hc; clear hc; refine fin_res ?_ (rd6_sl (l := [])) (rd6_sl (l := [])); simp only [numV, *, if_true, if_false]; done)
     | (have ht := posI hc; clear hc; refine fin_res ?_ rd6_e0 rd6_e0; simp only [numV, *, if_true, if_false]; done)
     | (refine fin_resP ?_; simp only [numV, *, if_true, if_false]; done)
     | (refine fin_res ?_ (rd6_sl (l := [])) (rd6_sl (l := [])); simp only [numV, *, if_true, if_false]; done)
     | (refine fin_res ?_ rd6_e0 rd6_e0; simp only [numV, *, if_true, if_false]; done)
theorem ctr248 (x : Str) (t u : LTerm) (hx : ¬ x = nneg) (hy : ¬ x = ntext) (ha : isInt t.n = true) (hb : isInt u.n = true) : CT 76 [.s x, avt [t, u]] (resV (numV x t.n u.n)) := by
 by_cases h0 : u.n = 0
 · exact ctr248_0 x t u hx hy ha hb h0
 · exact ctr248_1 x t u hx hy ha hb h0

theorem neT_3 : (27 : Nat) ≠ 3 := by decide
theorem capT {h : List AObj} : abuiltin Tryz.prog h .cap #[27] [.e0] = some (.i .i64 0, h) := cap_e0 un27
theorem appZT {dr : Option Nat} {d : Option Nat} {os : List AOper} {K : List AV → List AObj → Prop} {env : List AV} {h : List AObj} {s x : Operand} : runOp Tryz.prog G0 dr (.call ⟨.builtin .append, #[s, x], #[27, 3]⟩) d os K env h = zerosC Tryz.prog G0 dr (Tryz.prog.underlying 3) (azeros Tryz.prog h 27 (aev G0 env s) (aev G0 env x)) d os K env := r_appendZ neT_3
attribute [go_sem] capT
attribute [go_sem ↓] appZT
theorem ctr286 (n : Nat) (hn : n ≤ 1000000): CT 156 [.e0, .i .i64 n] (.own 6 [] 0) := by
 refine sem_introB mixed Tryz.func156 g0 ?_
 · skip
   (repeat' (first | refine gT ?_ ?_ | refine gF ?_ ?_ | refine gC ?_ ?_ | refine And.intro (by omega) ?_ | (intro hr; have hc := hr; (try simp only [zda, zdb, zdc, zdd] at hc); simp -implicitDefEqProofs (disch := omega) only [hr, go_sem, simprocAttr]; (try clear hr))))
   · exfalso; omega
   · rw [if_pos (by omega), if_neg (by omega)]
     simp -implicitDefEqProofs (disch := omega) only [go_sem, simprocAttr]
     refine ⟨by simp [List.length_flatten], ?_⟩
     exact .inr ⟨⟨rfl, rfl, _, rfl, by simp, by simp, rfl⟩, by simp [finIds], by simp [finIds, finRch]⟩
   · exact .inr ⟨⟨rfl, rfl⟩, by simp [finIds], by simp [finIds]⟩
theorem map_avt_get {l : List (List LTerm)} {k : Nat} (h : k < l.length) : (l.map avt)[k]? = some (avt (l.getD k [])) := by simp [h]
theorem persL_avts {l : List (List LTerm)} : persL (l.map avt) = true := by
 induction l with
 | nil => rfl
 | cons x l ih => simp [persL, ih, pers_avt]
attribute [go_sem] map_avt_get persL_avts
def sumT (l : List (List LTerm)) : Nat := l.flatten.length
@[simp] theorem sumT_nil : sumT [] = 0 := rfl
theorem sumT_succ {l : List (List LTerm)} {k : Nat} (h : k < l.length) : sumT (l.take (k + 1)) = sumT (l.take k) + (l.getD k []).length := by
 rw [take_getD (d := []) h]; simp [sumT]
theorem sumT_le {l : List (List LTerm)} {k : Nat} : sumT (l.take k) ≤ sumT l := by
 have h : (l.take k ++ l.drop k).flatten.length = l.flatten.length := by rw [List.take_append_drop]
 unfold sumT
 rw [List.flatten_append, List.length_append] at h
 omega
theorem sumT_at {l : List (List LTerm)} {k : Nat} (h : k < l.length) : sumT (l.take k) + (l.getD k []).length ≤ sumT l := by
 rw [← sumT_succ h]; exact sumT_le
theorem ctr268 (l : List (List LTerm)) (hl : l.length ≤ 1000) (hs : sumT l ≤ 1000000): CT 121 [.sl (l.map avt) l.length] (avt l.flatten) := by
 refine sem_introB mixed Tryz.func121 g0 ?_
 · skip
   refine x_loopJ (fun (k : Nat) => [.k, .k, .k, .v (.i .i64 (sumT (l.take k) : Nat)), .k, .j, .k, .k, .k, .k, .k, .v (.i .i64 k), .j, .j, .j, .j, .j, .j, .j, .j, .j, .j, .j, .k, .k, .k, .k, .k, .k, .k, .k, .k, .k, .k, .k, .k]) (fun k => []) (fun k => k ≤ l.length) (fun k => l.length - k) (0) (Nat.zero_le _) rfl (by simp [Fits]) ?_
   rintro k j hk
   have hat : k < l.length → sumT (l.take k) + (l.getD k []).length ≤ sumT l := sumT_at
   have hkk := sumT_le (l := l) (k := k)
   simp -implicitDefEqProofs (disch := omega) only [go_sem, simprocAttr]
   (repeat' (first | refine gT ?_ ?_ | refine gF ?_ ?_ | refine gC ?_ ?_ | refine And.intro (by omega) ?_ | (intro hr; have hc := hr; (try simp only [zda, zdb, zdc, zdd] at hc); simp -implicitDefEqProofs (disch := omega) only [hr, go_sem, simprocAttr]; (try clear hr))))
   · exfalso; omega
   · refine ⟨k + 1, by omega, by omega, ?_, by simp⟩
     rw [sumT_succ (by omega)]; simp
   · have h1 : k = l.length := by omega
     subst h1
     refine c_ctr0 (ctr286 (sumT l) (by omega)) (by simp -implicitDefEqProofs (disch := omega) only [snap0, go_sem, simprocAttr]) ?_
     simp -implicitDefEqProofs (disch := omega) only [go_sem, simprocAttr]
     refine x_loopJ (fun (t : Nat × AV × List AObj) => [.k, .k, .k, .k, .k, .k, .v (t.2.1), .k, .j, .k, .k, .k, .k, .k, .k, .k, .k, .k, .k, .k, .k, .k, .k, .k, .k, .k, .k, .v (.i .i64 (t.1 : Nat)), .j, .j, .j, .j, .j, .j, .j, .k]) (fun t => t.2.2) (fun t => t.1 ≤ l.length ∧ OutIs 6 0 t.2.2 t.2.1 ((l.take t.1).flatten.flatMap termCells) (sumT (l.take t.1))) (fun t => l.length - t.1) ((0, .hs 0 0 0 false, [.arr false 6 []])) ⟨Nat.zero_le _, .inr ⟨0, rfl, rfl, rfl⟩⟩ rfl (by simp [Fits]) ?_
     rintro ⟨k, out, g⟩ j ⟨hk, ho⟩
     dsimp only at hk ho
     have hat : k < l.length → sumT (l.take k) + (l.getD k []).length ≤ sumT l := sumT_at
     simp -implicitDefEqProofs (disch := omega) only [go_sem, simprocAttr]
     (repeat' (first | refine gT ?_ ?_ | refine gF ?_ ?_ | refine gC ?_ ?_ | refine And.intro (by omega) ?_ | (intro hr; have hc := hr; (try simp only [zda, zdb, zdc, zdd] at hc); simp -implicitDefEqProofs (disch := omega) only [hr, go_sem, simprocAttr]; (try clear hr))))
     · refine app_intro' (more := []) (pre := []) (news := (l.getD k []).flatMap termCells) (m := (l.getD k []).length) ho rfl (by simp) el27 zo32 sz32 by32 rfl (by decide) (by simp -implicitDefEqProofs (disch := omega) only [go_sem, simprocAttr]) (by simp -implicitDefEqProofs (disch := omega) only [go_sem, simprocAttr]) ⟨by omega, by omega⟩ ?_
       intro out' g' ho' _
       simp -implicitDefEqProofs (disch := omega) only [go_sem, simprocAttr]
       refine ⟨(k + 1, out', g'), ⟨by omega, ?_⟩, by simp; omega, rfl, by simp⟩
       dsimp only
       rw [sumT_succ (by omega), take_getD (d := []) (by omega), List.flatten_append, List.flatMap_append]
       simpa using ho'
     · have h1 : k = l.length := by omega
       subst h1
       rw [List.take_length] at ho
       exact fin_rd (out_rd ho rfl)

abbrev Ent := LTerm × LTerm
def flat (es : List Ent) : List LTerm := es.flatMap fun e => [e.1, e.2]
theorem flat_cons {e : Ent} {es : List Ent} : flat (e :: es) = e.1 :: e.2 :: flat es := rfl
theorem flat_append {a b : List Ent} : flat (a ++ b) = flat a ++ flat b := List.flatMap_append
theorem flat_len {es : List Ent} : (flat es).length = 2 * es.length := by
 induction es with
 | nil => rfl
 | cons e es ih => rw [flat_cons, List.length_cons, List.length_cons, ih, List.length_cons]; omega
theorem flat_key {es : List Ent} : ∀ {i : Nat}, i < es.length → (flat es).getD (2 * i) default = (es.getD i default).1 := by
 induction es with
 | nil => intro i h; cases h
 | cons e es ih =>
   intro i h
   cases i with
   | zero => rfl
   | succ i => rw [flat_cons, show 2 * (i + 1) = 2 * i + 1 + 1 by omega, List.getD_cons_succ, List.getD_cons_succ, ih (by simpa using h), List.getD_cons_succ]
theorem flat_val {es : List Ent} : ∀ {i : Nat}, i < es.length → (flat es).getD (2 * i + 1) default = (es.getD i default).2 := by
 induction es with
 | nil => intro i h; cases h
 | cons e es ih =>
   intro i h
   cases i with
   | zero => rfl
   | succ i => rw [flat_cons, show 2 * (i + 1) + 1 = (2 * i + 1) + 1 + 1 by omega, List.getD_cons_succ, List.getD_cons_succ, ih (by simpa using h), List.getD_cons_succ]
theorem flat_take {es : List Ent} : ∀ {i : Nat}, (flat es).take (2 * i) = flat (es.take i) := by
 induction es with
 | nil => intro i; simp [flat]
 | cons e es ih =>
   intro i
   cases i with
   | zero => simp [flat]
   | succ i => rw [flat_cons, show 2 * (i + 1) = 2 * i + 1 + 1 by omega, List.take_succ_cons, List.take_succ_cons, ih, List.take_succ_cons, flat_cons]
theorem flat_drop {es : List Ent} : ∀ {i : Nat}, (flat es).drop (2 * i) = flat (es.drop i) := by
 induction es with
 | nil => intro i; simp [flat]
 | cons e es ih =>
   intro i
   cases i with
   | zero => simp
   | succ i => rw [flat_cons, show 2 * (i + 1) = 2 * i + 1 + 1 by omega, List.drop_succ_cons, List.drop_succ_cons, ih, List.drop_succ_cons]
theorem flat_ex : ∀ {l : List LTerm}, l.length % 2 = 0 → ∃ es, l = flat es
 | [], _ => ⟨[], rfl⟩
 | [a], h => by simp at h
 | a :: b :: l, h => by
   obtain ⟨es, rfl⟩ := flat_ex (l := l) (by simp only [List.length_cons] at h; omega)
   exact ⟨(a, b) :: es, rfl⟩
theorem flat_mem {es : List Ent} {x : LTerm} : x ∈ flat es ↔ ∃ e ∈ es, x = e.1 ∨ x = e.2 := by
 simp [flat]
def posK (k : LTerm) : List Ent → Nat
 | [] => 0
 | e :: l => if ordP e.1 k < 0 then posK k l + 1 else 0
def hasK (k : LTerm) : List Ent → Bool
 | [] => false
 | e :: l => if ordP e.1 k < 0 then hasK k l else decide (ordP e.1 k = 0)
theorem pos_at {k : LTerm} : ∀ {es : List Ent} {i : Nat}, i < es.length → (∀ j, j < i → ordP (es.getD j default).1 k < 0) → 0 ≤ ordP (es.getD i default).1 k → posK k es = i ∧ hasK k es = decide (ordP (es.getD i default).1 k = 0)
 | [], i, h, _, _ => by cases h
 | e :: es, 0, _, _, h0 => by
   simp only [List.getD_cons_zero] at h0 ⊢
   rw [posK, hasK, if_neg (by omega), if_neg (by omega)]; exact ⟨rfl, rfl⟩
 | e :: es, i + 1, h, ha, h0 => by
   have h1 := ha 0 (by omega)
   simp only [List.getD_cons_zero] at h1
   have h2 := pos_at (es := es) (i := i) (by simpa using h) (fun j hj => by have := ha (j + 1) (by omega); simpa using this) (by simpa using h0)
   rw [posK, hasK, if_pos h1, if_pos h1, h2.1, h2.2, List.getD_cons_succ]; exact ⟨rfl, rfl⟩
theorem pos_end {k : LTerm} : ∀ {es : List Ent}, (∀ j, j < es.length → ordP (es.getD j default).1 k < 0) → posK k es = es.length ∧ hasK k es = false
 | [], _ => ⟨rfl, rfl⟩
 | e :: es, ha => by
   have h1 := ha 0 (by simp)
   simp only [List.getD_cons_zero] at h1
   have h2 := pos_end (es := es) (fun j hj => by have := ha (j + 1) (by simpa using hj); simpa using this)
   rw [posK, hasK, if_pos h1, if_pos h1, h2.1, h2.2]; exact ⟨rfl, rfl⟩
theorem pos_le {k : LTerm} {es : List Ent} : posK k es ≤ es.length := by
 induction es with
 | nil => exact Nat.le_refl _
 | cons e es ih => rw [posK]; split <;> simp <;> omega
theorem pos_has {k : LTerm} {es : List Ent} (h : hasK k es = true) : posK k es < es.length ∧ (es.getD (posK k es) default).1 = k := by
 induction es with
 | nil => cases h
 | cons e es ih =>
   rw [hasK] at h; rw [posK]
   split at h
   · rename_i hc
     rw [if_pos hc]
     have := ih h
     exact ⟨by simp; omega, by simpa using this.2⟩
   · rename_i hc
     rw [if_neg hc]
     exact ⟨by simp, by simpa [ord_zero] using h⟩
theorem ctr272 (m k : LTerm) (es : List Ent) (hm : m.kids = flat es) (om : OkT m) (ok : OkT k): CT 126 [elT m, elT k] (.tup [.i .i64 ((2 * posK k es : Nat) : Int), .b (hasK k es)]) := by
 refine sem_introB mixed Tryz.func126 g0 ?_
 · skip
   have hk1 := om.kids
   have hl : m.kids.length = 2 * es.length := by rw [hm, flat_len]
   refine x_loopJ (fun (i : Nat) => [.k, .k, .k, .k, .j, .j, .v (.i .i64 ((2 * i : Nat) : Int)), .j, .j, .j, .j, .j, .j, .j, .j, .j, .j, .j, .j, .j, .j, .j, .j, .j, .j, .j, .j, .k]) (fun i => [.box false [.i .i64 (m).kind, .i .i64 (m).n, .s (m).text, .s (m).sort, .sl ((m).kids.flatMap termCells) (m).kids.length, .sl ((m).rest.flatMap termCells) (m).rest.length], .box false [.i .i64 (k).kind, .i .i64 (k).n, .s (k).text, .s (k).sort, .sl ((k).kids.flatMap termCells) (k).kids.length, .sl ((k).rest.flatMap termCells) (k).rest.length]]) (fun i => i ≤ es.length ∧ ∀ j, j < i → ordP (es.getD j default).1 k < 0) (fun i => es.length - i) (0) ⟨Nat.zero_le _, fun j h => by omega⟩ rfl (by simp [Fits]) ?_
   rintro i j ⟨hi, ha⟩
   have o1 : i < es.length → CT 113 [elT (m.kids.getD (2 * i) default), elT k] (.i .i64 (ordP (m.kids.getD (2 * i) default) k)) := fun h => ctr260 _ _ (om.kid _ (mem_getD (by omega))) ok
   have o2 : i < es.length → m.kids.getD (2 * i) default = (es.getD i default).1 := fun h => by rw [hm, flat_key h]
   simp -implicitDefEqProofs (disch := omega) only [go_sem, simprocAttr]
   (repeat' (first | refine gT ?_ ?_ | refine gF ?_ ?_ | refine gC ?_ ?_ | ((refine c_ctrE ((o1 (by omega))) ?_ ?_; (focus (simp -implicitDefEqProofs (disch := omega) only [avs, avb, avi, avo, sigCells, opCells, pairCells, elT, avt, termCells_eq, go_sem, simprocAttr]; done))); simp -implicitDefEqProofs (disch := omega) only [go_sem, simprocAttr]) | refine And.intro (by omega) ?_ | (intro hr; have hc := hr; (try simp only [zda, zdb, zdc, zdd] at hc); simp -implicitDefEqProofs (disch := omega) only [hr, go_sem, simprocAttr]; (try clear hr))))
   · rw [o2 (by omega)] at *
     have := pos_at (by omega) ha hc
     exact fin_eq (by rw [this.1, this.2]) rfl
   · rw [o2 (by omega)] at *
     exact ⟨i + 1, ⟨by omega, fun j hj => by rcases Nat.lt_succ_iff_lt_or_eq.1 hj with h | h; exact ha j h; rw [h]; omega⟩, by omega, by rw [show ((2 * (i + 1) : Nat) : Int) = ((2 * i : Nat) : Int) + 2 by omega]⟩
   · have := pos_end (es := es) (k := k) (fun j hj => ha j (by omega))
     have h1 : i = es.length := by omega
     exact fin_eq (by rw [this.1, this.2, h1]) rfl

theorem tdiv2 {n : Nat} : Int.tdiv ((2 * n : Nat) : Int) 2 = n := by
 rw [Int.tdiv_eq_ediv_of_nonneg (by omega)]; omega
theorem rd6_snapk {H : List AObj} {v : AV} {l : List LTerm} {k : Nat} (h : Rd6 H v l) : snap (k + 1) H v = avt l := by
 rcases h with ⟨rfl, rfl⟩ | rfl | ⟨i, off, fz, t, cells, rfl, h1, h2, h3⟩
 · rfl
 · rw [snap, pers_avt, if_pos rfl]
 · simp only [snap, pers, h1, h3, persTs, if_true, Bool.false_eq_true, if_false, if_pos h2]
   rfl
theorem snap_t {H : List AObj} {k n : Int} {t s : Str} {v4 v5 : AV} {ks rs : List LTerm} (r4 : Rd6 H v4 ks) (r5 : Rd6 H v5 rs) : snap dep H (.agg [.i .i64 k, .i .i64 n, .s t, .s s, v4, v5]) = .agg (termCells (.mk k n t s ks rs)) := by
 have e4 := rd6_snapk (k := 7) r4
 have e5 := rd6_snapk (k := 7) r5
 rw [snap_dep]
 have hp : ∀ a, pers a = true → snap 8 H a = a := fun a h => by rw [snap_8, if_pos h]
 by_cases hx : persL [.i .i64 k, .i .i64 n, .s t, .s s, v4, v5] = true
 · have hx' : pers (.agg [.i .i64 k, .i .i64 n, .s t, .s s, v4, v5]) = true := hx
   rw [if_pos hx', termCells_eq]
   simp only [persL, pers, Bool.true_and, Bool.and_true, Bool.and_eq_true] at hx
   rw [hp _ hx.1] at e4
   rw [hp _ hx.2] at e5
   rw [e4, e5]; rfl
 · have hx' : ¬ pers (.agg [.i .i64 k, .i .i64 n, .s t, .s s, v4, v5]) = true := hx
   rw [if_neg hx', termCells_eq]
   simp only [snapS, hx, if_false, List.map_cons, List.map_nil, e4, e5]
   rfl
def idsOf : AV → List Nat
 | .hs i _ _ _ => [i]
 | _ => []
theorem reach_rd {H : List AObj} {v : AV} {l : List LTerm} {k : Nat} (h : Rd6 H v l) : reach (k + 1) H v = idsOf v := by
 rcases h with ⟨rfl, rfl⟩ | rfl | ⟨i, off, fz, t, cells, rfl, h1, h2, h3⟩
 · rfl
 · rw [reach, pers_avt, if_pos rfl]; rfl
 · simp only [reach, pers, h1, h3, persTs, if_true, Bool.false_eq_true, if_false, idsOf]
theorem reach_p {H : List AObj} {v : AV} {k : Nat} (h : pers v = true) : reach k H v = [] := by
 cases k with
 | zero => rfl
 | succ k => rw [reach, if_pos h]
theorem reach_t {H : List AObj} {k n : Int} {t s : Str} {v4 v5 : AV} {ks rs : List LTerm} (r4 : Rd6 H v4 ks) (r5 : Rd6 H v5 rs) : reach dep H (.agg [.i .i64 k, .i .i64 n, .s t, .s s, v4, v5]) = idsOf v4 ++ idsOf v5 := by
 have e4 := reach_rd (k := 7) r4
 have e5 := reach_rd (k := 7) r5
 by_cases hx : persL [.i .i64 k, .i .i64 n, .s t, .s s, v4, v5] = true
 · have hx' : pers (.agg [.i .i64 k, .i .i64 n, .s t, .s s, v4, v5]) = true := hx
   simp only [persL, pers, Bool.true_and, Bool.and_true, Bool.and_eq_true] at hx
   rw [reach_p hx', ← e4, ← e5, reach_p hx.1, reach_p hx.2]; rfl
 · have hx' : ¬ pers (.agg [.i .i64 k, .i .i64 n, .s t, .s s, v4, v5]) = true := hx
   have e : reach dep H (.agg [.i .i64 k, .i .i64 n, .s t, .s s, v4, v5]) = [AV.i .i64 k, .i .i64 n, .s t, .s s, v4, v5].flatMap (reach 8 H) := by
     show (if pers (.agg [.i .i64 k, .i .i64 n, .s t, .s s, v4, v5]) then [] else (if persL [.i .i64 k, .i .i64 n, .s t, .s s, v4, v5] then [] else [AV.i .i64 k, .i .i64 n, .s t, .s s, v4, v5].flatMap (reach 8 H))) = _
     rw [if_neg hx', if_neg hx]
   rw [e]
   simp only [List.flatMap_cons, List.flatMap_nil, e4, e5, List.append_nil]
   rw [reach_p rfl, reach_p rfl, reach_p rfl, reach_p rfl]; rfl
theorem after_t {H : List AObj} {k n : Int} {t s : Str} {v4 v5 r : AV} {ks rs : List LTerm} (r4 : Rd6 H v4 ks) (r5 : Rd6 H v5 rs) : hAfter r H [.agg [.i .i64 k, .i .i64 n, .s t, .s s, v4, v5]] = if Vo.flat r then H else Vo.freeze (idsOf v4 ++ idsOf v5) H := by
 rw [hAfter, List.flatMap_cons, List.flatMap_nil, List.append_nil, reach_t r4 r5]
theorem out_rd3 {a b c : AObj} {g : List AObj} {out : AV} {l : List LTerm} {n : Nat} (h : OutIs 6 3 g out (l.flatMap termCells) n) (hn : n = l.length) : Rd6 (a :: b :: c :: g) out l := by
 subst hn
 rcases h with ⟨rfl, hn, h0⟩ | ⟨i, rfl, hi, hl⟩
 · exact .inl ⟨rfl, List.length_eq_zero_iff.1 (by omega)⟩
 · refine .inr (.inr ⟨i + 3, 0, _, _, _, rfl, (by simpa using hi), by omega, ?_⟩)
   rw [List.drop_zero, List.take_of_length_le (by omega)]
theorem after_t3 {a b c : AObj} {g : List AObj} {out r : AV} {l : List LTerm} {m : Nat} {k n : Int} {t s : Str} (h : OutIs 6 3 g out (l.flatMap termCells) m) (hn : m = l.length) : ∃ g', hAfter r (a :: b :: c :: g) [.agg [.i .i64 k, .i .i64 n, .s t, .s s, out, .e0]] = a :: b :: c :: g' := by
 rw [after_t (out_rd3 h hn) rd6_e0]
 split
 · exact ⟨_, rfl⟩
 · rcases h with ⟨rfl, _, _⟩ | ⟨i, rfl, _, _⟩
   · exact ⟨_, rfl⟩
   · exact ⟨g.modify i AObj.fz, by simp [idsOf, Vo.freeze]⟩
theorem ctr250size (x : Str) (m : LTerm) (es : List Ent) (hx : x = nsize) (hm : m.kids = flat es) (om : OkT m): CT 78 [.s x, avt [m]] (resV (tInt es.length, 0)) := by
 refine sem_introA mixed Tryz.func78 g0 ?_
 · generalize hR : ((resV (tInt es.length, 0)) : AV) = R
   simp -implicitDefEqProofs (disch := omega) only [Tryz.f78, go_sem, List.replicate, ↓reduceIte, reduceAdd, reduceSub, reduceMul, reduceLeDiff, reduceLT, reduceEqDiff, reduceNeg, Nat.reduceBEq, avt, List.flatMap_cons, List.flatMap_nil, termCells_eq, List.cons_append, List.nil_append, List.append_nil, List.length_cons, List.length_nil, Nat.reduceAdd]
   have hk1 := om.kids
   have hl : m.kids.length = 2 * es.length := by rw [hm, flat_len]
   have e2 := tdiv2 (n := es.length)
   rw [← hl] at e2
   simp -implicitDefEqProofs (disch := omega) only [zt hx, go_sem, ↓reduceIte, reduceAdd, reduceSub, reduceMul, reduceLeDiff, reduceLT, reduceEqDiff, reduceNeg, Nat.reduceBEq]
   (repeat' (first | refine gT ?_ ?_ | refine gF ?_ ?_ | refine gC ?_ ?_ | ((first | (refine c_ctrE (ctr267 es.length) ?_ ?_; (focus (simp -implicitDefEqProofs (disch := omega) only [zt hx, e2, avs, avb, avi, avo, sigCells, opCells, pairCells, elT, avt, termCells_eq, go_sem, ↓reduceIte, reduceAdd, reduceSub, reduceMul, reduceLeDiff, reduceLT, reduceEqDiff, reduceNeg, Nat.reduceBEq]; done))) | (refine c_ctrE (ctr262 (tInt es.length)) ?_ ?_; (focus (simp -implicitDefEqProofs (disch := omega) only [zt hx, e2, avs, avb, avi, avo, sigCells, opCells, pairCells, elT, avt, termCells_eq, go_sem, ↓reduceIte, reduceAdd, reduceSub, reduceMul, reduceLeDiff, reduceLT, reduceEqDiff, reduceNeg, Nat.reduceBEq]; done)))); simp -implicitDefEqProofs (disch := omega) only [zt hx, e2, go_sem, ↓reduceIte, reduceAdd, reduceSub, reduceMul, reduceLeDiff, reduceLT, reduceEqDiff, reduceNeg, Nat.reduceBEq]) | refine And.intro (by omega) ?_ | (intro hr; have hc := hr; (try simp only [zda, zdb, zdc, zdd] at hc); simp -implicitDefEqProofs (disch := omega) only [hr, zt hx, e2, go_sem, ↓reduceIte, reduceAdd, reduceSub, reduceMul, reduceLeDiff, reduceLT, reduceEqDiff, reduceNeg, Nat.reduceBEq]; (try clear hr))))
   subst hR
   exact fin_res rfl (rd6_sl (l := [])) (rd6_sl (l := []))
theorem ctr250keys (x : Str) (m : LTerm) (es : List Ent) (hx : x = nkeys) (hm : m.kids = flat es) (om : OkT m): CT 78 [.s x, avt [m]] (resV (.mk 7 0 [] [] (es.map (·.1)) [], 0)) := by
 refine sem_introA mixed Tryz.func78 g0 ?_
 · generalize hR : ((resV (.mk 7 0 [] [] (es.map (·.1)) [], 0)) : AV) = R
   simp -implicitDefEqProofs (disch := omega) only [Tryz.f78, go_sem, List.replicate, ↓reduceIte, reduceAdd, reduceSub, reduceMul, reduceLeDiff, reduceLT, reduceEqDiff, reduceNeg, Nat.reduceBEq, avt, List.flatMap_cons, List.flatMap_nil, termCells_eq, List.cons_append, List.nil_append, List.append_nil, List.length_cons, List.length_nil, Nat.reduceAdd]
   have hk1 := om.kids
   have hl : m.kids.length = 2 * es.length := by rw [hm, flat_len]
   have n1 : ¬ x = nsize := by rw [hx]; decide
   simp -implicitDefEqProofs (disch := omega) only [zf n1, zt hx, go_sem, ↓reduceIte, reduceAdd, reduceSub, reduceMul, reduceLeDiff, reduceLT, reduceEqDiff, reduceNeg, Nat.reduceBEq]
   refine ⟨by omega, ?_⟩
   refine x_loopJ (fun (s : Nat × AV × List AObj) => [.k, .k, .k, .k, .k, .k, .k, .k, .v (.i .i64 ((2 * s.1 : Nat) : Int)), .k, .k, .k, .k, .k, .k, .k, .k, .k, .k, .k, .k, .k, .k, .k, .k, .k, .k, .k, .k, .k, .j, .j, .j, .j, .j, .j, .j, .j, .j, .j, .j, .j, .j, .j, .j, .j, .j, .k, .k, .k, .k, .k, .k, .k, .k, .k, .k, .k, .k, .k, .k, .k, .k, .k, .k, .k, .k, .k, .k, .k, .k, .k, .k, .k, .k, .k, .k, .k, .k, .k, .k, .k, .k, .k, .k, .k, .k, .k, .k, .k, .k, .k, .k, .k, .k, .k, .k, .k, .k, .k, .k, .k, .k, .k, .k, .k, .k, .k, .k, .k, .k, .k, .k, .k, .k, .k, .k, .k, .k, .k, .k, .k, .k, .k, .k, .k, .k, .k, .k, .k, .k, .k, .k]) (fun s => (.box false [.i .i64 0, .i .i64 0, .s [], .s [], .e0, .e0] :: .box false [.i .i64 (m).kind, .i .i64 (m).n, .s (m).text, .s (m).sort, .sl ((m).kids.flatMap termCells) (m).kids.length, .sl ((m).rest.flatMap termCells) (m).rest.length] :: .box false [.i .i64 7, .i .i64 0, .s [], .s [], s.2.1, .e0] :: s.2.2)) (fun s => s.1 ≤ es.length ∧ OutIs 6 3 s.2.2 s.2.1 (((es.take s.1).map (·.1)).flatMap termCells) s.1) (fun s => es.length - s.1) ((0, .e0, [])) ⟨Nat.zero_le _, outIs_e0⟩ rfl (by simp [Fits]) ?_
   rintro ⟨i, out, g⟩ j ⟨hi, ho⟩
   dsimp only at hi ho
   have o2 : i < es.length → m.kids.getD (2 * i) default = (es.getD i default).1 := fun h => by rw [hm, flat_key h]
   simp -implicitDefEqProofs (disch := omega) only [go_sem, ↓reduceIte, reduceAdd, reduceSub, reduceMul, reduceLeDiff, reduceLT, reduceEqDiff, reduceNeg, Nat.reduceBEq]
   (repeat' (first | refine gT ?_ ?_ | refine gF ?_ ?_ | refine gC ?_ ?_ | refine And.intro (by omega) ?_ | (intro hr; have hc := hr; (try simp only [zda, zdb, zdc, zdd] at hc); simp -implicitDefEqProofs (disch := omega) only [hr, rep1t, go_sem, ↓reduceIte, reduceAdd, reduceSub, reduceMul, reduceLeDiff, reduceLT, reduceEqDiff, reduceNeg, Nat.reduceBEq]; (try clear hr))))
   · try simp -implicitDefEqProofs (disch := omega) only [rep1t, go_sem, ↓reduceIte, reduceAdd, reduceSub, reduceMul, reduceLeDiff, reduceLT, reduceEqDiff, reduceNeg, Nat.reduceBEq]
     refine app_intro' (pre := [_, _, _]) (news := [.i .i64 (m.kids.getD (2 * i) default).kind, .i .i64 (m.kids.getD (2 * i) default).n, .s (m.kids.getD (2 * i) default).text, .s (m.kids.getD (2 * i) default).sort, .sl ((m.kids.getD (2 * i) default).kids.flatMap termCells) (m.kids.getD (2 * i) default).kids.length, .sl ((m.kids.getD (2 * i) default).rest.flatMap termCells) (m.kids.getD (2 * i) default).rest.length]) (m := 1) ho rfl rfl el27 zo32 sz32 by32 rfl (by decide) (by simp -implicitDefEqProofs (disch := omega) only [go_sem, ↓reduceIte, reduceAdd, reduceSub, reduceMul, reduceLeDiff, reduceLT, reduceEqDiff, reduceNeg, Nat.reduceBEq]) (by simp -implicitDefEqProofs (disch := omega) only [go_sem, ↓reduceIte, reduceAdd, reduceSub, reduceMul, reduceLeDiff, reduceLT, reduceEqDiff, reduceNeg, Nat.reduceBEq]) ⟨by omega, by omega⟩ ?_
     intro out' g' ho' _
     have ho2 := ho'
     rcases ho' with ⟨rfl, hn, _⟩ | ⟨i', rfl, _, _⟩
     · exfalso; simp at hn
     · simp -implicitDefEqProofs (disch := omega) only [go_sem, ↓reduceIte, reduceAdd, reduceSub, reduceMul, reduceLeDiff, reduceLT, reduceEqDiff, reduceNeg, Nat.reduceBEq]
       refine ⟨(i + 1, _, g'), ⟨by dsimp only; omega, ?_⟩, by dsimp only; omega, rfl, ?_⟩
       · dsimp only
         rw [take_getD (d := default) (by omega), List.map_append, List.flatMap_append]
         rw [o2 (by omega)] at ho2
         simp only [List.map_cons, List.map_nil, List.flatMap_cons, List.flatMap_nil, List.append_nil, termCells_eq]
         exact ho2
       · dsimp only; rw [show ((2 * (i + 1) : Nat) : Int) = ((2 * i : Nat) : Int) + 2 by omega]
   · have h1 : i = es.length := by omega
     subst h1
     rw [List.take_length] at ho
     obtain ⟨t, ht⟩ : ∃ t, t = LTerm.mk 7 0 [] [] (es.map (·.1)) [] := ⟨_, rfl⟩
     refine c_ctrE (ctr262 t) ?_ ?_
     · rw [List.map_cons, List.map_nil, snap_t (out_rd3 ho (by simp)) rd6_e0, ht]; rfl
     · obtain ⟨g', hg⟩ := after_t3 (a := .box false [.i .i64 0, .i .i64 0, .s [], .s [], .e0, .e0]) (b := .box false [.i .i64 (m).kind, .i .i64 (m).n, .s (m).text, .s (m).sort, .sl ((m).kids.flatMap termCells) (m).kids.length, .sl ((m).rest.flatMap termCells) (m).rest.length]) (c := .box false [.i .i64 7, .i .i64 0, .s [], .s [], out, .e0]) (r := resT t 0) (k := 7) (n := 0) (t := []) (s := []) ho (by simp)
       rw [hg]
       simp -implicitDefEqProofs (disch := omega) only [go_sem, ↓reduceIte, reduceAdd, reduceSub, reduceMul, reduceLeDiff, reduceLT, reduceEqDiff, reduceNeg, Nat.reduceBEq]
       subst hR
       rw [← ht]
       exact fin_resP (q := (t, 0)) rfl
theorem ctr250has (x : Str) (m k : LTerm) (es : List Ent) (hx : x = nhas) (hm : m.kids = flat es) (om : OkT m) (ok : OkT k): CT 78 [.s x, avt [m, k]] (resV (tBool (hasK k es), 0)) := by
 refine sem_introA mixed Tryz.func78 g0 ?_
 · generalize hR : ((resV (tBool (hasK k es), 0)) : AV) = R
   simp -implicitDefEqProofs (disch := omega) only [Tryz.f78, go_sem, List.replicate, ↓reduceIte, reduceAdd, reduceSub, reduceMul, reduceLeDiff, reduceLT, reduceEqDiff, reduceNeg, Nat.reduceBEq, avt, List.flatMap_cons, List.flatMap_nil, termCells_eq, List.cons_append, List.nil_append, List.append_nil, List.length_cons, List.length_nil, Nat.reduceAdd]
   have hk1 := om.kids
   have n1 : ¬ x = nsize := by rw [hx]; decide
   have n2 : ¬ x = nkeys := by rw [hx]; decide
   simp -implicitDefEqProofs (disch := omega) only [zf n1, zf n2, zt hx, go_sem, ↓reduceIte, reduceAdd, reduceSub, reduceMul, reduceLeDiff, reduceLT, reduceEqDiff, reduceNeg, Nat.reduceBEq]
   (repeat' (first | refine gT ?_ ?_ | refine gF ?_ ?_ | refine gC ?_ ?_ | ((first | (refine c_ctrE (ctr272 m k es hm om ok) ?_ ?_; (focus (simp -implicitDefEqProofs (disch := omega) only [zf n1, zf n2, zt hx, avs, avb, avi, avo, sigCells, opCells, pairCells, elT, avt, termCells_eq, go_sem, ↓reduceIte, reduceAdd, reduceSub, reduceMul, reduceLeDiff, reduceLT, reduceEqDiff, reduceNeg, Nat.reduceBEq]; done))) | (refine c_ctrE (ctr263 (hasK k es)) ?_ ?_; (focus (simp -implicitDefEqProofs (disch := omega) only [zf n1, zf n2, zt hx, avs, avb, avi, avo, sigCells, opCells, pairCells, elT, avt, termCells_eq, go_sem, ↓reduceIte, reduceAdd, reduceSub, reduceMul, reduceLeDiff, reduceLT, reduceEqDiff, reduceNeg, Nat.reduceBEq]; done))) | (refine c_ctrE (ctr262 (tBool (hasK k es))) ?_ ?_; (focus (simp -implicitDefEqProofs (disch := omega) only [zf n1, zf n2, zt hx, avs, avb, avi, avo, sigCells, opCells, pairCells, elT, avt, termCells_eq, go_sem, ↓reduceIte, reduceAdd, reduceSub, reduceMul, reduceLeDiff, reduceLT, reduceEqDiff, reduceNeg, Nat.reduceBEq]; done)))); simp -implicitDefEqProofs (disch := omega) only [zf n1, zf n2, zt hx, go_sem, ↓reduceIte, reduceAdd, reduceSub, reduceMul, reduceLeDiff, reduceLT, reduceEqDiff, reduceNeg, Nat.reduceBEq]) | refine And.intro (by omega) ?_ | (intro hr; have hc := hr; (try simp only [zda, zdb, zdc, zdd] at hc); simp -implicitDefEqProofs (disch := omega) only [hr, zf n1, zf n2, zt hx, go_sem, ↓reduceIte, reduceAdd, reduceSub, reduceMul, reduceLeDiff, reduceLT, reduceEqDiff, reduceNeg, Nat.reduceBEq]; (try clear hr))))
   subst hR
   exact fin_res rfl (rd6_sl (l := [])) (rd6_sl (l := []))

theorem dropC {l : List LTerm} {k : Nat} : (l.flatMap termCells).drop (k * 6) = (l.drop k).flatMap termCells := Vo.flat_drop (fun t => by rw [termCells_eq]; rfl) l k
theorem hA_y {r : AV} {H : List AObj} {A : List AV} (h : Vo.flat r = true) : hAfter r H A = H := if_pos h
theorem hA_n {r : AV} {H : List AObj} {A : List AV} (h : Vo.flat r = false) : hAfter r H A = Vo.freeze (A.flatMap (reach dep H)) H := if_neg (by rw [h]; simp)
theorem after_t0 {H : List AObj} {k n : Int} {t s : Str} {r : AV} {ks : List LTerm} : hAfter r H [.agg [.i .i64 k, .i .i64 n, .s t, .s s, .sl (ks.flatMap termCells) ks.length, .e0]] = H := by
 rw [after_t rd6_sl rd6_e0]
 split
 · rfl
 · rfl
theorem toNat3 : Int.toNat 3 = 3 := rfl
theorem ctr250get_n (x : Str) (m k : LTerm) (es : List Ent) (hx : x = nget) (hm : m.kids = flat es) (om : OkT m) (ok : OkT k) (hh : hasK k es = false): CT 78 [.s x, avt [m, k]] (resV (tZ, 4)) := by
 refine sem_introA mixed Tryz.func78 g0 ?_
 · generalize hR : ((resV (tZ, 4)) : AV) = R
   simp -implicitDefEqProofs (disch := omega) only [Tryz.f78, go_sem, List.replicate, ↓reduceIte, reduceAdd, reduceSub, reduceMul, reduceLeDiff, reduceLT, reduceEqDiff, reduceNeg, Nat.reduceBEq, avt, List.flatMap_cons, List.flatMap_nil, termCells_eq, List.cons_append, List.nil_append, List.append_nil, List.length_cons, List.length_nil, Nat.reduceAdd]
   have hk1 := om.kids
   have n1 : ¬ x = nsize := by rw [hx]; decide
   have n2 : ¬ x = nkeys := by rw [hx]; decide
   have n3 : ¬ x = nhas := by rw [hx]; decide
   simp -implicitDefEqProofs (disch := omega) only [zf n1, zf n2, zf n3, zt hx, go_sem, ↓reduceIte, reduceAdd, reduceSub, reduceMul, reduceLeDiff, reduceLT, reduceEqDiff, reduceNeg, Nat.reduceBEq]
   (repeat' (first | refine gT ?_ ?_ | refine gF ?_ ?_ | refine gC ?_ ?_ | ((refine c_ctrE (ctr272 m k es hm om ok) ?_ ?_; (focus (simp -implicitDefEqProofs (disch := omega) only [zf n1, zf n2, zf n3, zt hx, hh, avs, avb, avi, avo, sigCells, opCells, pairCells, elT, avt, termCells_eq, go_sem, ↓reduceIte, reduceAdd, reduceSub, reduceMul, reduceLeDiff, reduceLT, reduceEqDiff, reduceNeg, Nat.reduceBEq]; done))); simp -implicitDefEqProofs (disch := omega) only [zf n1, zf n2, zf n3, zt hx, hh, go_sem, ↓reduceIte, reduceAdd, reduceSub, reduceMul, reduceLeDiff, reduceLT, reduceEqDiff, reduceNeg, Nat.reduceBEq]) | refine And.intro (by omega) ?_ | (intro hr; have hc := hr; (try simp only [zda, zdb, zdc, zdd] at hc); simp -implicitDefEqProofs (disch := omega) only [hr, zf n1, zf n2, zf n3, zt hx, hh, go_sem, ↓reduceIte, reduceAdd, reduceSub, reduceMul, reduceLeDiff, reduceLT, reduceEqDiff, reduceNeg, Nat.reduceBEq]; (try clear hr))))
   subst hR
   exact fin_res rfl rd6_e0 rd6_e0
theorem ctr250get_y (x : Str) (m k : LTerm) (es : List Ent) (hx : x = nget) (hm : m.kids = flat es) (om : OkT m) (ok : OkT k) (hh : hasK k es = true): CT 78 [.s x, avt [m, k]] (resV ((es.getD (posK k es) default).2, 0)) := by
 refine sem_introA mixed Tryz.func78 g0 ?_
 · generalize hR : ((resV ((es.getD (posK k es) default).2, 0)) : AV) = R
   simp -implicitDefEqProofs (disch := omega) only [Tryz.f78, go_sem, List.replicate, ↓reduceIte, reduceAdd, reduceSub, reduceMul, reduceLeDiff, reduceLT, reduceEqDiff, reduceNeg, Nat.reduceBEq, avt, List.flatMap_cons, List.flatMap_nil, termCells_eq, List.cons_append, List.nil_append, List.append_nil, List.length_cons, List.length_nil, Nat.reduceAdd]
   have hk1 := om.kids
   have hl : m.kids.length = 2 * es.length := by rw [hm, flat_len]
   have hp := (pos_has hh).1
   have hv : m.kids.getD (2 * posK k es + 1) default = (es.getD (posK k es) default).2 := by rw [hm, flat_val hp]
   have n1 : ¬ x = nsize := by rw [hx]; decide
   have n2 : ¬ x = nkeys := by rw [hx]; decide
   have n3 : ¬ x = nhas := by rw [hx]; decide
   have hi : (((2 * posK k es : Nat) : Int) + 1).toNat = 2 * posK k es + 1 := by omega
   simp -implicitDefEqProofs (disch := omega) only [zf n1, zf n2, zf n3, zt hx, go_sem, ↓reduceIte, reduceAdd, reduceSub, reduceMul, reduceLeDiff, reduceLT, reduceEqDiff, reduceNeg, Nat.reduceBEq]
   (repeat' (first | refine gT ?_ ?_ | refine gF ?_ ?_ | refine gC ?_ ?_ | ((first | (refine c_ctrE (ctr272 m k es hm om ok) ?_ ?_; (focus (simp -implicitDefEqProofs (disch := omega) only [zf n1, zf n2, zf n3, zt hx, hh, hi, avs, avb, avi, avo, sigCells, opCells, pairCells, elT, avt, termCells_eq, go_sem, ↓reduceIte, reduceAdd, reduceSub, reduceMul, reduceLeDiff, reduceLT, reduceEqDiff, reduceNeg, Nat.reduceBEq]; done))) | (refine c_ctrE (ctr262 (m.kids.getD (2 * posK k es + 1) default)) ?_ ?_; (focus (simp -implicitDefEqProofs (disch := omega) only [zf n1, zf n2, zf n3, zt hx, hh, hi, avs, avb, avi, avo, sigCells, opCells, pairCells, elT, avt, termCells_eq, go_sem, ↓reduceIte, reduceAdd, reduceSub, reduceMul, reduceLeDiff, reduceLT, reduceEqDiff, reduceNeg, Nat.reduceBEq]; done)))); simp -implicitDefEqProofs (disch := omega) only [zf n1, zf n2, zf n3, zt hx, hh, hi, go_sem, ↓reduceIte, reduceAdd, reduceSub, reduceMul, reduceLeDiff, reduceLT, reduceEqDiff, reduceNeg, Nat.reduceBEq]) | refine And.intro (by omega) ?_ | (intro hr; have hc := hr; (try simp only [zda, zdb, zdc, zdd] at hc); simp -implicitDefEqProofs (disch := omega) only [hr, zf n1, zf n2, zf n3, zt hx, hh, hi, go_sem, ↓reduceIte, reduceAdd, reduceSub, reduceMul, reduceLeDiff, reduceLT, reduceEqDiff, reduceNeg, Nat.reduceBEq]; (try clear hr))))
   subst hR
   rw [← hv]
   exact fin_resP (q := (m.kids.getD (2 * posK k es + 1) default, 0)) rfl
theorem ctr250del_y (x : Str) (m k : LTerm) (es : List Ent) (hx : x = ndel) (hm : m.kids = flat es) (om : OkT m) (ok : OkT k) (hl2 : es.length ≤ 1000) (hh : hasK k es = true): CT 78 [.s x, avt [m, k]] (resV (.mk 8 0 [] [] (flat (es.take (posK k es) ++ es.drop (posK k es + 1))) [], 0)) := by
 refine sem_introA mixed Tryz.func78 g0 ?_
 · generalize hR : ((resV (.mk 8 0 [] [] (flat (es.take (posK k es) ++ es.drop (posK k es + 1))) [], 0)) : AV) = R
   simp -implicitDefEqProofs (disch := omega) only [Tryz.f78, go_sem, List.replicate, ↓reduceIte, reduceAdd, reduceSub, reduceMul, reduceLeDiff, reduceLT, reduceEqDiff, reduceNeg, Nat.reduceBEq, avt, List.flatMap_cons, List.flatMap_nil, termCells_eq, List.cons_append, List.nil_append, List.append_nil, List.length_cons, List.length_nil, Nat.reduceAdd]
   have hk1 := om.kids
   have hl : m.kids.length = 2 * es.length := by rw [hm, flat_len]
   have hp := (pos_has hh).1
   have n1 : ¬ x = nsize := by rw [hx]; decide
   have n2 : ¬ x = nkeys := by rw [hx]; decide
   have n3 : ¬ x = nhas := by rw [hx]; decide
   have n4 : ¬ x = nget := by rw [hx]; decide
   have hi : (((2 * posK k es : Nat) : Int) + 2).toNat = 2 * posK k es + 2 := by omega
   simp -implicitDefEqProofs (disch := omega) only [zf n1, zf n2, zf n3, zf n4, zt hx, go_sem, ↓reduceIte, reduceAdd, reduceSub, reduceMul, reduceLeDiff, reduceLT, reduceEqDiff, reduceNeg, Nat.reduceBEq]
   (repeat' (first | refine gT ?_ ?_ | refine gF ?_ ?_ | refine gC ?_ ?_ | ((refine c_ctrE (ctr272 m k es hm om ok) ?_ ?_; (focus (simp -implicitDefEqProofs (disch := omega) only [zf n1, zf n2, zf n3, zf n4, zt hx, hh, hi, avs, avb, avi, avo, sigCells, opCells, pairCells, elT, avt, termCells_eq, go_sem, ↓reduceIte, reduceAdd, reduceSub, reduceMul, reduceLeDiff, reduceLT, reduceEqDiff, reduceNeg, Nat.reduceBEq]; done))); simp -implicitDefEqProofs (disch := omega) only [zf n1, zf n2, zf n3, zf n4, zt hx, hh, hi, go_sem, ↓reduceIte, reduceAdd, reduceSub, reduceMul, reduceLeDiff, reduceLT, reduceEqDiff, reduceNeg, Nat.reduceBEq]) | refine And.intro (by omega) ?_ | (intro hr; have hc := hr; (try simp only [zda, zdb, zdc, zdd] at hc); simp -implicitDefEqProofs (disch := omega) only [hr, zf n1, zf n2, zf n3, zf n4, zt hx, hh, hi, go_sem, ↓reduceIte, reduceAdd, reduceSub, reduceMul, reduceLeDiff, reduceLT, reduceEqDiff, reduceNeg, Nat.reduceBEq]; (try clear hr))))
   have hL : sumT [m.kids.take (2 * posK k es), m.kids.drop (2 * posK k es + 2)] ≤ 1000000 := by
     simp [sumT]; omega
   refine c_ctrE (ctr268 [m.kids.take (2 * posK k es), m.kids.drop (2 * posK k es + 2)] (by simp) hL) ?_ ?_
   · simp -implicitDefEqProofs (disch := omega) only [List.map_cons, List.map_nil, List.length_cons, List.length_nil, avt, dropC, List.length_take, List.length_drop, Nat.min_eq_left, go_sem, ↓reduceIte, reduceAdd, reduceSub, reduceMul, reduceLeDiff, reduceLT, reduceEqDiff, reduceNeg, Nat.reduceBEq]
   · obtain ⟨q, hq⟩ : ∃ q, q = [m.kids.take (2 * posK k es), m.kids.drop (2 * posK k es + 2)].flatten := ⟨_, rfl⟩
     rw [← hq]
     rcases bool_em (Vo.flat (avt q)) with hf | hf
     all_goals first | rw [hA_y hf] | rw [hA_n hf]
     all_goals simp -implicitDefEqProofs (disch := omega) only [dropC, go_sem, ↓reduceIte, reduceAdd, reduceSub, reduceMul, reduceLeDiff, reduceLT, reduceEqDiff, reduceNeg, Nat.reduceBEq]
     all_goals
       obtain ⟨t, ht⟩ : ∃ t, t = LTerm.mk 8 0 [] [] q [] := ⟨_, rfl⟩
       refine c_ctrE (ctr262 t) ?_ ?_
       · rw [List.map_cons, List.map_nil, snap_t rd6_sl rd6_e0, ht]; rfl
       · rw [after_t0]
         simp -implicitDefEqProofs (disch := omega) only [go_sem, ↓reduceIte, reduceAdd, reduceSub, reduceMul, reduceLeDiff, reduceLT, reduceEqDiff, reduceNeg, Nat.reduceBEq]
         subst hR
         exact fin_resP (q := (t, 0)) (by rw [ht, hq, hm]; simp only [flat_take, flat_append, show 2 * posK k es + 2 = 2 * (posK k es + 1) by omega, flat_drop, List.flatten_cons, List.flatten_nil, List.append_nil])
theorem ctr250del_n (x : Str) (m k : LTerm) (es : List Ent) (hx : x = ndel) (hm : m.kids = flat es) (om : OkT m) (ok : OkT k) (hh : hasK k es = false): CT 78 [.s x, avt [m, k]] (resV (.mk 8 0 [] [] (flat es) [], 0)) := by
 refine sem_introA mixed Tryz.func78 g0 ?_
 · generalize hR : ((resV (.mk 8 0 [] [] (flat es) [], 0)) : AV) = R
   simp -implicitDefEqProofs (disch := omega) only [Tryz.f78, go_sem, List.replicate, ↓reduceIte, reduceAdd, reduceSub, reduceMul, reduceLeDiff, reduceLT, reduceEqDiff, reduceNeg, Nat.reduceBEq, avt, List.flatMap_cons, List.flatMap_nil, termCells_eq, List.cons_append, List.nil_append, List.append_nil, List.length_cons, List.length_nil, Nat.reduceAdd]
   have hk1 := om.kids
   have n1 : ¬ x = nsize := by rw [hx]; decide
   have n2 : ¬ x = nkeys := by rw [hx]; decide
   have n3 : ¬ x = nhas := by rw [hx]; decide
   have n4 : ¬ x = nget := by rw [hx]; decide
   simp -implicitDefEqProofs (disch := omega) only [zf n1, zf n2, zf n3, zf n4, zt hx, go_sem, ↓reduceIte, reduceAdd, reduceSub, reduceMul, reduceLeDiff, reduceLT, reduceEqDiff, reduceNeg, Nat.reduceBEq]
   (repeat' (first | refine gT ?_ ?_ | refine gF ?_ ?_ | refine gC ?_ ?_ | ((refine c_ctrE (ctr272 m k es hm om ok) ?_ ?_; (focus (simp -implicitDefEqProofs (disch := omega) only [zf n1, zf n2, zf n3, zf n4, zt hx, hh, avs, avb, avi, avo, sigCells, opCells, pairCells, elT, avt, termCells_eq, go_sem, ↓reduceIte, reduceAdd, reduceSub, reduceMul, reduceLeDiff, reduceLT, reduceEqDiff, reduceNeg, Nat.reduceBEq]; done))); simp -implicitDefEqProofs (disch := omega) only [zf n1, zf n2, zf n3, zf n4, zt hx, hh, go_sem, ↓reduceIte, reduceAdd, reduceSub, reduceMul, reduceLeDiff, reduceLT, reduceEqDiff, reduceNeg, Nat.reduceBEq]) | refine And.intro (by omega) ?_ | (intro hr; have hc := hr; (try simp only [zda, zdb, zdc, zdd] at hc); simp -implicitDefEqProofs (disch := omega) only [hr, zf n1, zf n2, zf n3, zf n4, zt hx, hh, go_sem, ↓reduceIte, reduceAdd, reduceSub, reduceMul, reduceLeDiff, reduceLT, reduceEqDiff, reduceNeg, Nat.reduceBEq]; (try clear hr))))
   all_goals
     obtain ⟨t, ht⟩ : ∃ t, t = LTerm.mk 8 0 [] [] m.kids [] := ⟨_, rfl⟩
     refine c_ctrE (ctr262 t) ?_ ?_
     · rw [List.map_cons, List.map_nil, snap_t rd6_sl rd6_e0, ht]; rfl
     · rw [after_t0]
       simp -implicitDefEqProofs (disch := omega) only [go_sem, ↓reduceIte, reduceAdd, reduceSub, reduceMul, reduceLeDiff, reduceLT, reduceEqDiff, reduceNeg, Nat.reduceBEq]
       subst hR
       exact fin_resP (q := (t, 0)) (by rw [ht, hm])
theorem ctr250put_k (x : Str) (m k v : LTerm) (es : List Ent) (hx : x = nput) (hm : m.kids = flat es) (om : OkT m) (ok : OkT k) (hk : isKey k = false): CT 78 [.s x, avt [m, k, v]] (resV (tZ, 15)) := by
 refine sem_introA mixed Tryz.func78 g0 ?_
 · generalize hR : ((resV (tZ, 15)) : AV) = R
   simp -implicitDefEqProofs (disch := omega) only [Tryz.f78, go_sem, List.replicate, ↓reduceIte, reduceAdd, reduceSub, reduceMul, reduceLeDiff, reduceLT, reduceEqDiff, reduceNeg, Nat.reduceBEq, avt, List.flatMap_cons, List.flatMap_nil, termCells_eq, List.cons_append, List.nil_append, List.append_nil, List.length_cons, List.length_nil, Nat.reduceAdd]
   have hk1 := om.kids
   have n1 : ¬ x = nsize := by rw [hx]; decide
   have n2 : ¬ x = nkeys := by rw [hx]; decide
   have n3 : ¬ x = nhas := by rw [hx]; decide
   have n4 : ¬ x = nget := by rw [hx]; decide
   have n5 : ¬ x = ndel := by rw [hx]; decide
   simp -implicitDefEqProofs (disch := omega) only [zf n1, zf n2, zf n3, zf n4, zf n5, go_sem, ↓reduceIte, reduceAdd, reduceSub, reduceMul, reduceLeDiff, reduceLT, reduceEqDiff, reduceNeg, Nat.reduceBEq]
   (repeat' (first | refine gT ?_ ?_ | refine gF ?_ ?_ | refine gC ?_ ?_ | ((first | (refine c_ctrE (ctr272 m k es hm om ok) ?_ ?_; (focus (simp -implicitDefEqProofs (disch := omega) only [zf n1, zf n2, zf n3, zf n4, zf n5, hk, avs, avb, avi, avo, sigCells, opCells, pairCells, elT, avt, termCells_eq, go_sem, ↓reduceIte, reduceAdd, reduceSub, reduceMul, reduceLeDiff, reduceLT, reduceEqDiff, reduceNeg, Nat.reduceBEq]; done))) | (refine c_ctrE (ctr259 k) ?_ ?_; (focus (simp -implicitDefEqProofs (disch := omega) only [zf n1, zf n2, zf n3, zf n4, zf n5, hk, avs, avb, avi, avo, sigCells, opCells, pairCells, elT, avt, termCells_eq, go_sem, ↓reduceIte, reduceAdd, reduceSub, reduceMul, reduceLeDiff, reduceLT, reduceEqDiff, reduceNeg, Nat.reduceBEq]; done)))); simp -implicitDefEqProofs (disch := omega) only [zf n1, zf n2, zf n3, zf n4, zf n5, hk, go_sem, ↓reduceIte, reduceAdd, reduceSub, reduceMul, reduceLeDiff, reduceLT, reduceEqDiff, reduceNeg, Nat.reduceBEq]) | refine And.intro (by omega) ?_ | (intro hr; have hc := hr; (try simp only [zda, zdb, zdc, zdd] at hc); simp -implicitDefEqProofs (disch := omega) only [hr, zf n1, zf n2, zf n3, zf n4, zf n5, hk, go_sem, ↓reduceIte, reduceAdd, reduceSub, reduceMul, reduceLeDiff, reduceLT, reduceEqDiff, reduceNeg, Nat.reduceBEq]; (try clear hr))))
   subst hR
   exact fin_res rfl rd6_e0 rd6_e0
theorem ctr250put_y (x : Str) (m k v : LTerm) (es : List Ent) (hx : x = nput) (hm : m.kids = flat es) (om : OkT m) (ok : OkT k) (hl2 : es.length ≤ 1000) (hk : isKey k = true) (hh : hasK k es = true): CT 78 [.s x, avt [m, k, v]] (resV (.mk 8 0 [] [] (flat (es.take (posK k es) ++ (k, v) :: es.drop (posK k es + 1))) [], 0)) := by
 refine sem_introA mixed Tryz.func78 g0 ?_
 · generalize hR : ((resV (.mk 8 0 [] [] (flat (es.take (posK k es) ++ (k, v) :: es.drop (posK k es + 1))) [], 0)) : AV) = R
   simp -implicitDefEqProofs (disch := omega) only [Tryz.f78, go_sem, List.replicate, ↓reduceIte, reduceAdd, reduceSub, reduceMul, reduceLeDiff, reduceLT, reduceEqDiff, reduceNeg, Nat.reduceBEq, avt, List.flatMap_cons, List.flatMap_nil, termCells_eq, List.cons_append, List.nil_append, List.append_nil, List.length_cons, List.length_nil, Nat.reduceAdd]
   have hk1 := om.kids
   have hl : m.kids.length = 2 * es.length := by rw [hm, flat_len]
   have hp := (pos_has hh).1
   have hi : (((2 * posK k es : Nat) : Int) + 2).toNat = 2 * posK k es + 2 := by omega
   have n1 : ¬ x = nsize := by rw [hx]; decide
   have n2 : ¬ x = nkeys := by rw [hx]; decide
   have n3 : ¬ x = nhas := by rw [hx]; decide
   have n4 : ¬ x = nget := by rw [hx]; decide
   have n5 : ¬ x = ndel := by rw [hx]; decide
   simp -implicitDefEqProofs (disch := omega) only [zf n1, zf n2, zf n3, zf n4, zf n5, go_sem, ↓reduceIte, reduceAdd, reduceSub, reduceMul, reduceLeDiff, reduceLT, reduceEqDiff, reduceNeg, Nat.reduceBEq]
   (repeat' (first | refine gT ?_ ?_ | refine gF ?_ ?_ | refine gC ?_ ?_ | ((first | (refine c_ctrE (ctr272 m k es hm om ok) ?_ ?_; (focus (simp -implicitDefEqProofs (disch := omega) only [zf n1, zf n2, zf n3, zf n4, zf n5, hk, hh, hi, toNat3, List.take_succ_cons, List.drop_succ_cons, List.take_zero, List.drop_zero, List.take_nil, List.drop_nil, avs, avb, avi, avo, sigCells, opCells, pairCells, elT, avt, termCells_eq, go_sem, ↓reduceIte, reduceAdd, reduceSub, reduceMul, reduceLeDiff, reduceLT, reduceEqDiff, reduceNeg, Nat.reduceBEq]; done))) | (refine c_ctrE (ctr259 k) ?_ ?_; (focus (simp -implicitDefEqProofs (disch := omega) only [zf n1, zf n2, zf n3, zf n4, zf n5, hk, hh, hi, toNat3, List.take_succ_cons, List.drop_succ_cons, List.take_zero, List.drop_zero, List.take_nil, List.drop_nil, avs, avb, avi, avo, sigCells, opCells, pairCells, elT, avt, termCells_eq, go_sem, ↓reduceIte, reduceAdd, reduceSub, reduceMul, reduceLeDiff, reduceLT, reduceEqDiff, reduceNeg, Nat.reduceBEq]; done)))); simp -implicitDefEqProofs (disch := omega) only [zf n1, zf n2, zf n3, zf n4, zf n5, hk, hh, hi, toNat3, List.take_succ_cons, List.drop_succ_cons, List.take_zero, List.drop_zero, List.take_nil, List.drop_nil, go_sem, ↓reduceIte, reduceAdd, reduceSub, reduceMul, reduceLeDiff, reduceLT, reduceEqDiff, reduceNeg, Nat.reduceBEq]) | refine And.intro (by omega) ?_ | (intro hr; have hc := hr; (try simp only [zda, zdb, zdc, zdd] at hc); simp -implicitDefEqProofs (disch := omega) only [hr, zf n1, zf n2, zf n3, zf n4, zf n5, hk, hh, hi, toNat3, List.take_succ_cons, List.drop_succ_cons, List.take_zero, List.drop_zero, List.take_nil, List.drop_nil, go_sem, ↓reduceIte, reduceAdd, reduceSub, reduceMul, reduceLeDiff, reduceLT, reduceEqDiff, reduceNeg, Nat.reduceBEq]; (try clear hr))))
   have hL : sumT [m.kids.take (2 * posK k es), [k, v], m.kids.drop (2 * posK k es + 2)] ≤ 1000000 := by
     simp [sumT]; omega
   refine c_ctrE (ctr268 [m.kids.take (2 * posK k es), [k, v], m.kids.drop (2 * posK k es + 2)] (by simp) hL) ?_ ?_
   · simp -implicitDefEqProofs (disch := omega) only [List.map_cons, List.map_nil, List.length_cons, List.length_nil, avt, dropC, List.length_take, List.length_drop, Nat.min_eq_left, List.flatMap_cons, List.flatMap_nil, termCells_eq, List.cons_append, List.nil_append, List.append_nil, go_sem, ↓reduceIte, reduceAdd, reduceSub, reduceMul, reduceLeDiff, reduceLT, reduceEqDiff, reduceNeg, Nat.reduceBEq]
   · obtain ⟨q, hq⟩ : ∃ q, q = [m.kids.take (2 * posK k es), [k, v], m.kids.drop (2 * posK k es + 2)].flatten := ⟨_, rfl⟩
     rw [← hq]
     rcases bool_em (Vo.flat (avt q)) with hf | hf
     all_goals first | rw [hA_y hf] | rw [hA_n hf]
     all_goals simp -implicitDefEqProofs (disch := omega) only [dropC, go_sem, ↓reduceIte, reduceAdd, reduceSub, reduceMul, reduceLeDiff, reduceLT, reduceEqDiff, reduceNeg, Nat.reduceBEq]
     all_goals
       obtain ⟨t, ht⟩ : ∃ t, t = LTerm.mk 8 0 [] [] q [] := ⟨_, rfl⟩
       refine c_ctrE (ctr262 t) ?_ ?_
       · rw [List.map_cons, List.map_nil, snap_t rd6_sl rd6_e0, ht]; rfl
       · rw [after_t0]
         simp -implicitDefEqProofs (disch := omega) only [go_sem, ↓reduceIte, reduceAdd, reduceSub, reduceMul, reduceLeDiff, reduceLT, reduceEqDiff, reduceNeg, Nat.reduceBEq]
         subst hR
         exact fin_resP (q := (t, 0)) (by rw [ht, hq, hm]; simp only [flat_take, flat_append, flat_cons, flat_drop, List.flatten_cons, List.flatten_nil, List.append_nil, List.cons_append, List.nil_append, show 2 * posK k es + 2 = 2 * (posK k es + 1) by omega])
theorem ctr250put_n (x : Str) (m k v : LTerm) (es : List Ent) (hx : x = nput) (hm : m.kids = flat es) (om : OkT m) (ok : OkT k) (hl2 : es.length ≤ 1000) (hk : isKey k = true) (hh : hasK k es = false): CT 78 [.s x, avt [m, k, v]] (resV (.mk 8 0 [] [] (flat (es.take (posK k es) ++ (k, v) :: es.drop (posK k es))) [], 0)) := by
 refine sem_introA mixed Tryz.func78 g0 ?_
 · generalize hR : ((resV (.mk 8 0 [] [] (flat (es.take (posK k es) ++ (k, v) :: es.drop (posK k es))) [], 0)) : AV) = R
   simp -implicitDefEqProofs (disch := omega) only [Tryz.f78, go_sem, List.replicate, ↓reduceIte, reduceAdd, reduceSub, reduceMul, reduceLeDiff, reduceLT, reduceEqDiff, reduceNeg, Nat.reduceBEq, avt, List.flatMap_cons, List.flatMap_nil, termCells_eq, List.cons_append, List.nil_append, List.append_nil, List.length_cons, List.length_nil, Nat.reduceAdd]
   have hk1 := om.kids
   have hl : m.kids.length = 2 * es.length := by rw [hm, flat_len]
   have hp : posK k es ≤ es.length := pos_le
   have n1 : ¬ x = nsize := by rw [hx]; decide
   have n2 : ¬ x = nkeys := by rw [hx]; decide
   have n3 : ¬ x = nhas := by rw [hx]; decide
   have n4 : ¬ x = nget := by rw [hx]; decide
   have n5 : ¬ x = ndel := by rw [hx]; decide
   simp -implicitDefEqProofs (disch := omega) only [zf n1, zf n2, zf n3, zf n4, zf n5, go_sem, ↓reduceIte, reduceAdd, reduceSub, reduceMul, reduceLeDiff, reduceLT, reduceEqDiff, reduceNeg, Nat.reduceBEq]
   (repeat' (first | refine gT ?_ ?_ | refine gF ?_ ?_ | refine gC ?_ ?_ | ((first | (refine c_ctrE (ctr272 m k es hm om ok) ?_ ?_; (focus (simp -implicitDefEqProofs (disch := omega) only [zf n1, zf n2, zf n3, zf n4, zf n5, hk, hh, toNat3, List.take_succ_cons, List.drop_succ_cons, List.take_zero, List.drop_zero, List.take_nil, List.drop_nil, avs, avb, avi, avo, sigCells, opCells, pairCells, elT, avt, termCells_eq, go_sem, ↓reduceIte, reduceAdd, reduceSub, reduceMul, reduceLeDiff, reduceLT, reduceEqDiff, reduceNeg, Nat.reduceBEq]; done))) | (refine c_ctrE (ctr259 k) ?_ ?_; (focus (simp -implicitDefEqProofs (disch := omega) only [zf n1, zf n2, zf n3, zf n4, zf n5, hk, hh, toNat3, List.take_succ_cons, List.drop_succ_cons, List.take_zero, List.drop_zero, List.take_nil, List.drop_nil, avs, avb, avi, avo, sigCells, opCells, pairCells, elT, avt, termCells_eq, go_sem, ↓reduceIte, reduceAdd, reduceSub, reduceMul, reduceLeDiff, reduceLT, reduceEqDiff, reduceNeg, Nat.reduceBEq]; done)))); simp -implicitDefEqProofs (disch := omega) only [zf n1, zf n2, zf n3, zf n4, zf n5, hk, hh, toNat3, List.take_succ_cons, List.drop_succ_cons, List.take_zero, List.drop_zero, List.take_nil, List.drop_nil, go_sem, ↓reduceIte, reduceAdd, reduceSub, reduceMul, reduceLeDiff, reduceLT, reduceEqDiff, reduceNeg, Nat.reduceBEq]) | refine And.intro (by omega) ?_ | (intro hr; have hc := hr; (try simp only [zda, zdb, zdc, zdd] at hc); simp -implicitDefEqProofs (disch := omega) only [hr, zf n1, zf n2, zf n3, zf n4, zf n5, hk, hh, toNat3, List.take_succ_cons, List.drop_succ_cons, List.take_zero, List.drop_zero, List.take_nil, List.drop_nil, go_sem, ↓reduceIte, reduceAdd, reduceSub, reduceMul, reduceLeDiff, reduceLT, reduceEqDiff, reduceNeg, Nat.reduceBEq]; (try clear hr))))
   have hL : sumT [m.kids.take (2 * posK k es), [k, v], m.kids.drop (2 * posK k es)] ≤ 1000000 := by
     simp [sumT]; omega
   refine c_ctrE (ctr268 [m.kids.take (2 * posK k es), [k, v], m.kids.drop (2 * posK k es)] (by simp) hL) ?_ ?_
   · simp -implicitDefEqProofs (disch := omega) only [List.map_cons, List.map_nil, List.length_cons, List.length_nil, avt, dropC, List.length_take, List.length_drop, Nat.min_eq_left, List.flatMap_cons, List.flatMap_nil, termCells_eq, List.cons_append, List.nil_append, List.append_nil, go_sem, ↓reduceIte, reduceAdd, reduceSub, reduceMul, reduceLeDiff, reduceLT, reduceEqDiff, reduceNeg, Nat.reduceBEq]
   · obtain ⟨q, hq⟩ : ∃ q, q = [m.kids.take (2 * posK k es), [k, v], m.kids.drop (2 * posK k es)].flatten := ⟨_, rfl⟩
     rw [← hq]
     rcases bool_em (Vo.flat (avt q)) with hf | hf
     all_goals first | rw [hA_y hf] | rw [hA_n hf]
     all_goals simp -implicitDefEqProofs (disch := omega) only [dropC, go_sem, ↓reduceIte, reduceAdd, reduceSub, reduceMul, reduceLeDiff, reduceLT, reduceEqDiff, reduceNeg, Nat.reduceBEq]
     all_goals
       obtain ⟨t, ht⟩ : ∃ t, t = LTerm.mk 8 0 [] [] q [] := ⟨_, rfl⟩
       refine c_ctrE (ctr262 t) ?_ ?_
       · rw [List.map_cons, List.map_nil, snap_t rd6_sl rd6_e0, ht]; rfl
       · rw [after_t0]
         simp -implicitDefEqProofs (disch := omega) only [go_sem, ↓reduceIte, reduceAdd, reduceSub, reduceMul, reduceLeDiff, reduceLT, reduceEqDiff, reduceNeg, Nat.reduceBEq]
         subst hR
         exact fin_resP (q := (t, 0)) (by rw [ht, hq, hm]; simp only [flat_take, flat_append, flat_cons, flat_drop, List.flatten_cons, List.flatten_nil, List.append_nil, List.cons_append, List.nil_append])

theorem text_len {s : Str} (h : isText s = true) : s.length ≤ 200 := by
 simp only [isText, Bool.and_eq_true, decide_eq_true_eq] at h; omega
theorem ctr246eq (s : LSig) (x : Str) (a b : LTerm) (oa : OkT a) (ob : OkT b) (hx : x = neq): CT 74 [bookAV s, .s x, avt [a, b]] (resV (tBool (decide (a = b)), 0)) := by
 refine sem_introA mixed Tryz.func74 g0 ?_
 · generalize hR : ((resV (tBool (decide (a = b)), 0)) : AV) = R
   simp -implicitDefEqProofs (disch := omega) only [Tryz.f74, go_sem, List.replicate, simprocAttr, avt, List.flatMap_cons, List.flatMap_nil, termCells_eq, List.cons_append, List.nil_append, List.append_nil, List.length_cons, List.length_nil, Nat.reduceAdd]
   simp -implicitDefEqProofs (disch := omega) only [zt hx, go_sem, simprocAttr]
   (repeat' (first | refine gT ?_ ?_ | refine gF ?_ ?_ | refine gC ?_ ?_ | ((first | (refine c_ctrE (ctr264 a b oa ob) ?_ ?_; (focus (simp -implicitDefEqProofs (disch := omega) only [zt hx, Bool.decide_eq_true, Bool.decide_eq_false, avs, avb, avi, avo, sigCells, opCells, pairCells, elT, avt, termCells_eq, go_sem, simprocAttr]; done))) | (refine c_ctrE (ctr263 (decide (a = b))) ?_ ?_; (focus (simp -implicitDefEqProofs (disch := omega) only [zt hx, Bool.decide_eq_true, Bool.decide_eq_false, avs, avb, avi, avo, sigCells, opCells, pairCells, elT, avt, termCells_eq, go_sem, simprocAttr]; done))) | (refine c_ctrE (ctr262 (tBool (decide (a = b)))) ?_ ?_; (focus (simp -implicitDefEqProofs (disch := omega) only [zt hx, Bool.decide_eq_true, Bool.decide_eq_false, avs, avb, avi, avo, sigCells, opCells, pairCells, elT, avt, termCells_eq, go_sem, simprocAttr]; done))) | (refine c_ctrE (ctr263 (!decide (a = b))) ?_ ?_; (focus (simp -implicitDefEqProofs (disch := omega) only [zt hx, Bool.decide_eq_true, Bool.decide_eq_false, avs, avb, avi, avo, sigCells, opCells, pairCells, elT, avt, termCells_eq, go_sem, simprocAttr]; done))) | (refine c_ctrE (ctr262 (tBool (!decide (a = b)))) ?_ ?_; (focus (simp -implicitDefEqProofs (disch := omega) only [zt hx, Bool.decide_eq_true, Bool.decide_eq_false, avs, avb, avi, avo, sigCells, opCells, pairCells, elT, avt, termCells_eq, go_sem, simprocAttr]; done)))); simp -implicitDefEqProofs (disch := omega) only [zt hx, Bool.decide_eq_true, Bool.decide_eq_false, go_sem, simprocAttr]) | refine And.intro (by omega) ?_ | (intro hr; have hc := hr; (try simp only [zda, zdb, zdc, zdd] at hc); simp -implicitDefEqProofs (disch := omega) only [hr, zt hx, Bool.decide_eq_true, Bool.decide_eq_false, go_sem, simprocAttr]; (try clear hr))))
   all_goals subst hR
   all_goals first
     | exact fin_res rfl (rd6_sl (l := [])) (rd6_sl (l := []))
     | (refine fin_res ?_ (rd6_sl (l := [])) (rd6_sl (l := [])); simp only [hc, decide_true, decide_false, Bool.true_and, Bool.false_and, Bool.or_true, Bool.true_or, Bool.false_or, if_true, if_false, Bool.false_eq_true, reduceIte]; done)
     | (refine fin_res ?_ (rd6_sl (l := [])) (rd6_sl (l := [])); rw [zf hc]; rfl)
     | (refine fin_res ?_ (rd6_sl (l := [])) (rd6_sl (l := [])); rw [zt hc]; rfl)
     | (refine fin_res ?_ rd6_e0 rd6_e0; simp only [hc, decide_true, decide_false, if_true, if_false, Bool.false_eq_true, reduceIte]; done)
theorem ctr246ne (s : LSig) (x : Str) (a b : LTerm) (oa : OkT a) (ob : OkT b) (hx : x = nne): CT 74 [bookAV s, .s x, avt [a, b]] (resV (tBool (!decide (a = b)), 0)) := by
 refine sem_introA mixed Tryz.func74 g0 ?_
 · generalize hR : ((resV (tBool (!decide (a = b)), 0)) : AV) = R
   simp -implicitDefEqProofs (disch := omega) only [Tryz.f74, go_sem, List.replicate, simprocAttr, avt, List.flatMap_cons, List.flatMap_nil, termCells_eq, List.cons_append, List.nil_append, List.append_nil, List.length_cons, List.length_nil, Nat.reduceAdd]
   have m1 : ¬ x = neq := by rw [hx]; decide
   simp -implicitDefEqProofs (disch := omega) only [zf m1, zt hx, go_sem, simprocAttr]
   (repeat' (first | refine gT ?_ ?_ | refine gF ?_ ?_ | refine gC ?_ ?_ | ((first | (refine c_ctrE (ctr264 a b oa ob) ?_ ?_; (focus (simp -implicitDefEqProofs (disch := omega) only [zf m1, zt hx, Bool.decide_eq_true, Bool.decide_eq_false, avs, avb, avi, avo, sigCells, opCells, pairCells, elT, avt, termCells_eq, go_sem, simprocAttr]; done))) | (refine c_ctrE (ctr263 (decide (a = b))) ?_ ?_; (focus (simp -implicitDefEqProofs (disch := omega) only [zf m1, zt hx, Bool.decide_eq_true, Bool.decide_eq_false, avs, avb, avi, avo, sigCells, opCells, pairCells, elT, avt, termCells_eq, go_sem, simprocAttr]; done))) | (refine c_ctrE (ctr262 (tBool (decide (a = b)))) ?_ ?_; (focus (simp -implicitDefEqProofs (disch := omega) only [zf m1, zt hx, Bool.decide_eq_true, Bool.decide_eq_false, avs, avb, avi, avo, sigCells, opCells, pairCells, elT, avt, termCells_eq, go_sem, simprocAttr]; done))) | (refine c_ctrE (ctr263 (!decide (a = b))) ?_ ?_; (focus (simp -implicitDefEqProofs (disch := omega) only [zf m1, zt hx, Bool.decide_eq_true, Bool.decide_eq_false, avs, avb, avi, avo, sigCells, opCells, pairCells, elT, avt, termCells_eq, go_sem, simprocAttr]; done))) | (refine c_ctrE (ctr262 (tBool (!decide (a = b)))) ?_ ?_; (focus (simp -implicitDefEqProofs (disch := omega) only [zf m1, zt hx, Bool.decide_eq_true, Bool.decide_eq_false, avs, avb, avi, avo, sigCells, opCells, pairCells, elT, avt, termCells_eq, go_sem, simprocAttr]; done)))); simp -implicitDefEqProofs (disch := omega) only [zf m1, zt hx, Bool.decide_eq_true, Bool.decide_eq_false, go_sem, simprocAttr]) | refine And.intro (by omega) ?_ | (intro hr; have hc := hr; (try simp only [zda, zdb, zdc, zdd] at hc); simp -implicitDefEqProofs (disch := omega) only [hr, zf m1, zt hx, Bool.decide_eq_true, Bool.decide_eq_false, go_sem, simprocAttr]; (try clear hr))))
   all_goals subst hR
   all_goals first
     | exact fin_res rfl (rd6_sl (l := [])) (rd6_sl (l := []))
     | (refine fin_res ?_ (rd6_sl (l := [])) (rd6_sl (l := [])); simp only [hc, decide_true, decide_false, Bool.true_and, Bool.false_and, Bool.or_true, Bool.true_or, Bool.false_or, if_true, if_false, Bool.false_eq_true, reduceIte]; done)
     | (refine fin_res ?_ (rd6_sl (l := [])) (rd6_sl (l := [])); rw [zf hc]; rfl)
     | (refine fin_res ?_ (rd6_sl (l := [])) (rd6_sl (l := [])); rw [zt hc]; rfl)
     | (refine fin_res ?_ rd6_e0 rd6_e0; simp only [hc, decide_true, decide_false, if_true, if_false, Bool.false_eq_true, reduceIte]; done)
theorem ctr246and (s : LSig) (x : Str) (a b : LTerm) (hx : x = nand): CT 74 [bookAV s, .s x, avt [a, b]] (resV (tBool (decide (a.n = 1) && decide (b.n = 1)), 0)) := by
 refine sem_introA mixed Tryz.func74 g0 ?_
 · generalize hR : ((resV (tBool (decide (a.n = 1) && decide (b.n = 1)), 0)) : AV) = R
   simp -implicitDefEqProofs (disch := omega) only [Tryz.f74, go_sem, List.replicate, simprocAttr, avt, List.flatMap_cons, List.flatMap_nil, termCells_eq, List.cons_append, List.nil_append, List.append_nil, List.length_cons, List.length_nil, Nat.reduceAdd]
   have m1 : ¬ x = neq := by rw [hx]; decide
   have m2 : ¬ x = nne := by rw [hx]; decide
   simp -implicitDefEqProofs (disch := omega) only [zf m1, zf m2, zt hx, go_sem, simprocAttr]
   (repeat' (first | refine gT ?_ ?_ | refine gF ?_ ?_ | refine gC ?_ ?_ | ((first | (refine c_ctrE (ctr263 false) ?_ ?_; (focus (simp -implicitDefEqProofs (disch := omega) only [zf m1, zf m2, zt hx, avs, avb, avi, avo, sigCells, opCells, pairCells, elT, avt, termCells_eq, go_sem, simprocAttr]; done))) | (refine c_ctrE (ctr262 (tBool false)) ?_ ?_; (focus (simp -implicitDefEqProofs (disch := omega) only [zf m1, zf m2, zt hx, avs, avb, avi, avo, sigCells, opCells, pairCells, elT, avt, termCells_eq, go_sem, simprocAttr]; done))) | (refine c_ctrE (ctr263 true) ?_ ?_; (focus (simp -implicitDefEqProofs (disch := omega) only [zf m1, zf m2, zt hx, avs, avb, avi, avo, sigCells, opCells, pairCells, elT, avt, termCells_eq, go_sem, simprocAttr]; done))) | (refine c_ctrE (ctr262 (tBool true)) ?_ ?_; (focus (simp -implicitDefEqProofs (disch := omega) only [zf m1, zf m2, zt hx, avs, avb, avi, avo, sigCells, opCells, pairCells, elT, avt, termCells_eq, go_sem, simprocAttr]; done))) | (refine c_ctrE (ctr263 (decide (b.n = 1))) ?_ ?_; (focus (simp -implicitDefEqProofs (disch := omega) only [zf m1, zf m2, zt hx, avs, avb, avi, avo, sigCells, opCells, pairCells, elT, avt, termCells_eq, go_sem, simprocAttr]; done))) | (refine c_ctrE (ctr262 (tBool (decide (b.n = 1)))) ?_ ?_; (focus (simp -implicitDefEqProofs (disch := omega) only [zf m1, zf m2, zt hx, avs, avb, avi, avo, sigCells, opCells, pairCells, elT, avt, termCells_eq, go_sem, simprocAttr]; done)))); simp -implicitDefEqProofs (disch := omega) only [zf m1, zf m2, zt hx, go_sem, simprocAttr]) | refine And.intro (by omega) ?_ | (intro hr; have hc := hr; (try simp only [zda, zdb, zdc, zdd] at hc); simp -implicitDefEqProofs (disch := omega) only [hr, zf m1, zf m2, zt hx, go_sem, simprocAttr]; (try clear hr))))
   all_goals subst hR
   all_goals first
     | exact fin_res rfl (rd6_sl (l := [])) (rd6_sl (l := []))
     | (refine fin_res ?_ (rd6_sl (l := [])) (rd6_sl (l := [])); simp only [hc, decide_true, decide_false, Bool.true_and, Bool.false_and, Bool.or_true, Bool.true_or, Bool.false_or, if_true, if_false, Bool.false_eq_true, reduceIte]; done)
     | (refine fin_res ?_ (rd6_sl (l := [])) (rd6_sl (l := [])); rw [zf hc]; rfl)
     | (refine fin_res ?_ (rd6_sl (l := [])) (rd6_sl (l := [])); rw [zt hc]; rfl)
     | (refine fin_res ?_ rd6_e0 rd6_e0; simp only [hc, decide_true, decide_false, if_true, if_false, Bool.false_eq_true, reduceIte]; done)
theorem ctr246or (s : LSig) (x : Str) (a b : LTerm) (hx : x = nor): CT 74 [bookAV s, .s x, avt [a, b]] (resV (tBool (decide (a.n = 1) || decide (b.n = 1)), 0)) := by
 refine sem_introA mixed Tryz.func74 g0 ?_
 · generalize hR : ((resV (tBool (decide (a.n = 1) || decide (b.n = 1)), 0)) : AV) = R
   simp -implicitDefEqProofs (disch := omega) only [Tryz.f74, go_sem, List.replicate, simprocAttr, avt, List.flatMap_cons, List.flatMap_nil, termCells_eq, List.cons_append, List.nil_append, List.append_nil, List.length_cons, List.length_nil, Nat.reduceAdd]
   have m1 : ¬ x = neq := by rw [hx]; decide
   have m2 : ¬ x = nne := by rw [hx]; decide
   have m3 : ¬ x = nand := by rw [hx]; decide
   simp -implicitDefEqProofs (disch := omega) only [zf m1, zf m2, zf m3, zt hx, go_sem, simprocAttr]
   (repeat' (first | refine gT ?_ ?_ | refine gF ?_ ?_ | refine gC ?_ ?_ | ((first | (refine c_ctrE (ctr263 false) ?_ ?_; (focus (simp -implicitDefEqProofs (disch := omega) only [zf m1, zf m2, zf m3, zt hx, avs, avb, avi, avo, sigCells, opCells, pairCells, elT, avt, termCells_eq, go_sem, simprocAttr]; done))) | (refine c_ctrE (ctr262 (tBool false)) ?_ ?_; (focus (simp -implicitDefEqProofs (disch := omega) only [zf m1, zf m2, zf m3, zt hx, avs, avb, avi, avo, sigCells, opCells, pairCells, elT, avt, termCells_eq, go_sem, simprocAttr]; done))) | (refine c_ctrE (ctr263 true) ?_ ?_; (focus (simp -implicitDefEqProofs (disch := omega) only [zf m1, zf m2, zf m3, zt hx, avs, avb, avi, avo, sigCells, opCells, pairCells, elT, avt, termCells_eq, go_sem, simprocAttr]; done))) | (refine c_ctrE (ctr262 (tBool true)) ?_ ?_; (focus (simp -implicitDefEqProofs (disch := omega) only [zf m1, zf m2, zf m3, zt hx, avs, avb, avi, avo, sigCells, opCells, pairCells, elT, avt, termCells_eq, go_sem, simprocAttr]; done))) | (refine c_ctrE (ctr263 (decide (b.n = 1))) ?_ ?_; (focus (simp -implicitDefEqProofs (disch := omega) only [zf m1, zf m2, zf m3, zt hx, avs, avb, avi, avo, sigCells, opCells, pairCells, elT, avt, termCells_eq, go_sem, simprocAttr]; done))) | (refine c_ctrE (ctr262 (tBool (decide (b.n = 1)))) ?_ ?_; (focus (simp -implicitDefEqProofs (disch := omega) only [zf m1, zf m2, zf m3, zt hx, avs, avb, avi, avo, sigCells, opCells, pairCells, elT, avt, termCells_eq, go_sem, simprocAttr]; done)))); simp -implicitDefEqProofs (disch := omega) only [zf m1, zf m2, zf m3, zt hx, go_sem, simprocAttr]) | refine And.intro (by omega) ?_ | (intro hr; have hc := hr; (try simp only [zda, zdb, zdc, zdd] at hc); simp -implicitDefEqProofs (disch := omega) only [hr, zf m1, zf m2, zf m3, zt hx, go_sem, simprocAttr]; (try clear hr))))
   all_goals subst hR
   all_goals first
     | exact fin_res rfl (rd6_sl (l := [])) (rd6_sl (l := []))
     | (refine fin_res ?_ (rd6_sl (l := [])) (rd6_sl (l := [])); simp only [hc, decide_true, decide_false, Bool.true_and, Bool.false_and, Bool.or_true, Bool.true_or, Bool.false_or, if_true, if_false, Bool.false_eq_true, reduceIte]; done)
     | (refine fin_res ?_ (rd6_sl (l := [])) (rd6_sl (l := [])); rw [zf hc]; rfl)
     | (refine fin_res ?_ (rd6_sl (l := [])) (rd6_sl (l := [])); rw [zt hc]; rfl)
     | (refine fin_res ?_ rd6_e0 rd6_e0; simp only [hc, decide_true, decide_false, if_true, if_false, Bool.false_eq_true, reduceIte]; done)
theorem ctr246not (s : LSig) (x : Str) (a : LTerm) (hx : x = nnot): CT 74 [bookAV s, .s x, avt [a]] (resV (tBool (decide (a.n = 0)), 0)) := by
 refine sem_introA mixed Tryz.func74 g0 ?_
 · generalize hR : ((resV (tBool (decide (a.n = 0)), 0)) : AV) = R
   simp -implicitDefEqProofs (disch := omega) only [Tryz.f74, go_sem, List.replicate, simprocAttr, avt, List.flatMap_cons, List.flatMap_nil, termCells_eq, List.cons_append, List.nil_append, List.append_nil, List.length_cons, List.length_nil, Nat.reduceAdd]
   have m1 : ¬ x = neq := by rw [hx]; decide
   have m2 : ¬ x = nne := by rw [hx]; decide
   have m3 : ¬ x = nand := by rw [hx]; decide
   have m4 : ¬ x = nor := by rw [hx]; decide
   simp -implicitDefEqProofs (disch := omega) only [zf m1, zf m2, zf m3, zf m4, zt hx, go_sem, simprocAttr]
   (repeat' (first | refine gT ?_ ?_ | refine gF ?_ ?_ | refine gC ?_ ?_ | ((first | (refine c_ctrE (ctr263 (decide (a.n = 0))) ?_ ?_; (focus (simp -implicitDefEqProofs (disch := omega) only [zf m1, zf m2, zf m3, zf m4, zt hx, avs, avb, avi, avo, sigCells, opCells, pairCells, elT, avt, termCells_eq, go_sem, simprocAttr]; done))) | (refine c_ctrE (ctr262 (tBool (decide (a.n = 0)))) ?_ ?_; (focus (simp -implicitDefEqProofs (disch := omega) only [zf m1, zf m2, zf m3, zf m4, zt hx, avs, avb, avi, avo, sigCells, opCells, pairCells, elT, avt, termCells_eq, go_sem, simprocAttr]; done)))); simp -implicitDefEqProofs (disch := omega) only [zf m1, zf m2, zf m3, zf m4, zt hx, go_sem, simprocAttr]) | refine And.intro (by omega) ?_ | (intro hr; have hc := hr; (try simp only [zda, zdb, zdc, zdd] at hc); simp -implicitDefEqProofs (disch := omega) only [hr, zf m1, zf m2, zf m3, zf m4, zt hx, go_sem, simprocAttr]; (try clear hr))))
   all_goals subst hR
   all_goals first
     | exact fin_res rfl (rd6_sl (l := [])) (rd6_sl (l := []))
     | (refine fin_res ?_ (rd6_sl (l := [])) (rd6_sl (l := [])); simp only [hc, decide_true, decide_false, Bool.true_and, Bool.false_and, Bool.or_true, Bool.true_or, Bool.false_or, if_true, if_false, Bool.false_eq_true, reduceIte]; done)
     | (refine fin_res ?_ (rd6_sl (l := [])) (rd6_sl (l := [])); rw [zf hc]; rfl)
     | (refine fin_res ?_ (rd6_sl (l := [])) (rd6_sl (l := [])); rw [zt hc]; rfl)
     | (refine fin_res ?_ rd6_e0 rd6_e0; simp only [hc, decide_true, decide_false, if_true, if_false, Bool.false_eq_true, reduceIte]; done)
theorem ctr246pick0 (s : LSig) (x : Str) (c a b : LTerm) (hc0 : c.n = 0) (hx : x = npick): CT 74 [bookAV s, .s x, avt [c, a, b]] (resV (b, 0)) := by
 refine sem_introA mixed Tryz.func74 g0 ?_
 · generalize hR : ((resV (b, 0)) : AV) = R
   simp -implicitDefEqProofs (disch := omega) only [Tryz.f74, go_sem, List.replicate, simprocAttr, avt, List.flatMap_cons, List.flatMap_nil, termCells_eq, List.cons_append, List.nil_append, List.append_nil, List.length_cons, List.length_nil, Nat.reduceAdd]
   have hA : (2 - c.n).toNat * 6 = 12 := by omega
   have m1 : ¬ x = neq := by rw [hx]; decide
   have m2 : ¬ x = nne := by rw [hx]; decide
   have m3 : ¬ x = nand := by rw [hx]; decide
   have m4 : ¬ x = nor := by rw [hx]; decide
   have m5 : ¬ x = nnot := by rw [hx]; decide
   simp -implicitDefEqProofs (disch := omega) only [zf m1, zf m2, zf m3, zf m4, zf m5, zt hx, go_sem, simprocAttr]
   (repeat' (first | refine gT ?_ ?_ | refine gF ?_ ?_ | refine gC ?_ ?_ | ((refine c_ctrE (ctr262 b) ?_ ?_; (focus (simp -implicitDefEqProofs (disch := omega) only [zf m1, zf m2, zf m3, zf m4, zf m5, zt hx, hA, List.drop_succ_cons, List.take_succ_cons, List.take_zero, List.drop_zero, avs, avb, avi, avo, sigCells, opCells, pairCells, elT, avt, termCells_eq, go_sem, simprocAttr]; done))); simp -implicitDefEqProofs (disch := omega) only [zf m1, zf m2, zf m3, zf m4, zf m5, zt hx, hA, List.drop_succ_cons, List.take_succ_cons, List.take_zero, List.drop_zero, go_sem, simprocAttr]) | refine And.intro (by omega) ?_ | (intro hr; have hc := hr; (try simp only [zda, zdb, zdc, zdd] at hc); simp -implicitDefEqProofs (disch := omega) only [hr, zf m1, zf m2, zf m3, zf m4, zf m5, zt hx, hA, List.drop_succ_cons, List.take_succ_cons, List.take_zero, List.drop_zero, go_sem, simprocAttr]; (try clear hr))))
   all_goals subst hR
   all_goals exact fin_resP (q := (b, 0)) rfl
theorem ctr246pick1 (s : LSig) (x : Str) (c a b : LTerm) (hc1 : c.n = 1) (hx : x = npick): CT 74 [bookAV s, .s x, avt [c, a, b]] (resV (a, 0)) := by
 refine sem_introA mixed Tryz.func74 g0 ?_
 · generalize hR : ((resV (a, 0)) : AV) = R
   simp -implicitDefEqProofs (disch := omega) only [Tryz.f74, go_sem, List.replicate, simprocAttr, avt, List.flatMap_cons, List.flatMap_nil, termCells_eq, List.cons_append, List.nil_append, List.append_nil, List.length_cons, List.length_nil, Nat.reduceAdd]
   have hA : (2 - c.n).toNat * 6 = 6 := by omega
   have m1 : ¬ x = neq := by rw [hx]; decide
   have m2 : ¬ x = nne := by rw [hx]; decide
   have m3 : ¬ x = nand := by rw [hx]; decide
   have m4 : ¬ x = nor := by rw [hx]; decide
   have m5 : ¬ x = nnot := by rw [hx]; decide
   simp -implicitDefEqProofs (disch := omega) only [zf m1, zf m2, zf m3, zf m4, zf m5, zt hx, go_sem, simprocAttr]
   (repeat' (first | refine gT ?_ ?_ | refine gF ?_ ?_ | refine gC ?_ ?_ | ((refine c_ctrE (ctr262 a) ?_ ?_; (focus (simp -implicitDefEqProofs (disch := omega) only [zf m1, zf m2, zf m3, zf m4, zf m5, zt hx, hA, List.drop_succ_cons, List.take_succ_cons, List.take_zero, List.drop_zero, avs, avb, avi, avo, sigCells, opCells, pairCells, elT, avt, termCells_eq, go_sem, simprocAttr]; done))); simp -implicitDefEqProofs (disch := omega) only [zf m1, zf m2, zf m3, zf m4, zf m5, zt hx, hA, List.drop_succ_cons, List.take_succ_cons, List.take_zero, List.drop_zero, go_sem, simprocAttr]) | refine And.intro (by omega) ?_ | (intro hr; have hc := hr; (try simp only [zda, zdb, zdc, zdd] at hc); simp -implicitDefEqProofs (disch := omega) only [hr, zf m1, zf m2, zf m3, zf m4, zf m5, zt hx, hA, List.drop_succ_cons, List.take_succ_cons, List.take_zero, List.drop_zero, go_sem, simprocAttr]; (try clear hr))))
   all_goals subst hR
   all_goals exact fin_resP (q := (a, 0)) rfl
theorem ctr246cat (s : LSig) (x : Str) (a b : LTerm) (h1 : isText a.text = true) (h2 : isText b.text = true) (hx : x = ncat): CT 74 [bookAV s, .s x, avt [a, b]] (resV (if isText (a.text ++ b.text) = true then (tText (a.text ++ b.text), 0) else (tZ, 20))) := by
 refine sem_introA mixed Tryz.func74 g0 ?_
 · generalize hR : ((resV (if isText (a.text ++ b.text) = true then (tText (a.text ++ b.text), 0) else (tZ, 20))) : AV) = R
   simp -implicitDefEqProofs (disch := omega) only [Tryz.f74, go_sem, List.replicate, simprocAttr, avt, List.flatMap_cons, List.flatMap_nil, termCells_eq, List.cons_append, List.nil_append, List.append_nil, List.length_cons, List.length_nil, Nat.reduceAdd]
   have l1 := text_len h1
   have l2 := text_len h2
   have m1 : ¬ x = neq := by rw [hx]; decide
   have m2 : ¬ x = nne := by rw [hx]; decide
   have m3 : ¬ x = nand := by rw [hx]; decide
   have m4 : ¬ x = nor := by rw [hx]; decide
   have m5 : ¬ x = nnot := by rw [hx]; decide
   have m6 : ¬ x = npick := by rw [hx]; decide
   simp -implicitDefEqProofs (disch := omega) only [zf m1, zf m2, zf m3, zf m4, zf m5, zf m6, zt hx, go_sem, simprocAttr]
   (repeat' (first | refine gT ?_ ?_ | refine gF ?_ ?_ | refine gC ?_ ?_ | ((first | (refine c_ctrE (ctr265 (a.text ++ b.text) (by simp; omega)) ?_ ?_; (focus (simp -implicitDefEqProofs (disch := omega) only [zf m1, zf m2, zf m3, zf m4, zf m5, zf m6, zt hx, avs, avb, avi, avo, sigCells, opCells, pairCells, elT, avt, termCells_eq, go_sem, simprocAttr]; done))) | (refine c_ctrE (ctr266 (a.text ++ b.text)) ?_ ?_; (focus (simp -implicitDefEqProofs (disch := omega) only [zf m1, zf m2, zf m3, zf m4, zf m5, zf m6, zt hx, avs, avb, avi, avo, sigCells, opCells, pairCells, elT, avt, termCells_eq, go_sem, simprocAttr]; done))) | (refine c_ctrE (ctr262 (tText (a.text ++ b.text))) ?_ ?_; (focus (simp -implicitDefEqProofs (disch := omega) only [zf m1, zf m2, zf m3, zf m4, zf m5, zf m6, zt hx, avs, avb, avi, avo, sigCells, opCells, pairCells, elT, avt, termCells_eq, go_sem, simprocAttr]; done)))); simp -implicitDefEqProofs (disch := omega) only [zf m1, zf m2, zf m3, zf m4, zf m5, zf m6, zt hx, go_sem, simprocAttr]) | refine And.intro (by omega) ?_ | (intro hr; have hc := hr; (try simp only [zda, zdb, zdc, zdd] at hc); simp -implicitDefEqProofs (disch := omega) only [hr, zf m1, zf m2, zf m3, zf m4, zf m5, zf m6, zt hx, go_sem, simprocAttr]; (try clear hr))))
   all_goals subst hR
   all_goals first
     | exact fin_res rfl (rd6_sl (l := [])) (rd6_sl (l := []))
     | (refine fin_res ?_ (rd6_sl (l := [])) (rd6_sl (l := [])); simp only [hc, decide_true, decide_false, Bool.true_and, Bool.false_and, Bool.or_true, Bool.true_or, Bool.false_or, if_true, if_false, Bool.false_eq_true, reduceIte]; done)
     | (refine fin_res ?_ (rd6_sl (l := [])) (rd6_sl (l := [])); rw [zf hc]; rfl)
     | (refine fin_res ?_ (rd6_sl (l := [])) (rd6_sl (l := [])); rw [zt hc]; rfl)
     | (refine fin_res ?_ rd6_e0 rd6_e0; simp only [hc, decide_true, decide_false, if_true, if_false, Bool.false_eq_true, reduceIte]; done)
theorem ctr246length (s : LSig) (x : Str) (a : LTerm) (oa : OkT a) (hx : x = nlength): CT 74 [bookAV s, .s x, avt [a]] (resV (tInt a.kids.length, 0)) := by
 refine sem_introA mixed Tryz.func74 g0 ?_
 · generalize hR : ((resV (tInt a.kids.length, 0)) : AV) = R
   simp -implicitDefEqProofs (disch := omega) only [Tryz.f74, go_sem, List.replicate, simprocAttr, avt, List.flatMap_cons, List.flatMap_nil, termCells_eq, List.cons_append, List.nil_append, List.append_nil, List.length_cons, List.length_nil, Nat.reduceAdd]
   have l1 := oa.kids
   have m1 : ¬ x = neq := by rw [hx]; decide
   have m2 : ¬ x = nne := by rw [hx]; decide
   have m3 : ¬ x = nand := by rw [hx]; decide
   have m4 : ¬ x = nor := by rw [hx]; decide
   have m5 : ¬ x = nnot := by rw [hx]; decide
   have m6 : ¬ x = npick := by rw [hx]; decide
   have m7 : ¬ x = ncat := by rw [hx]; decide
   simp -implicitDefEqProofs (disch := omega) only [zf m1, zf m2, zf m3, zf m4, zf m5, zf m6, zf m7, zt hx, go_sem, simprocAttr]
   (repeat' (first | refine gT ?_ ?_ | refine gF ?_ ?_ | refine gC ?_ ?_ | ((first | (refine c_ctrE (ctr267 a.kids.length) ?_ ?_; (focus (simp -implicitDefEqProofs (disch := omega) only [zf m1, zf m2, zf m3, zf m4, zf m5, zf m6, zf m7, zt hx, avs, avb, avi, avo, sigCells, opCells, pairCells, elT, avt, termCells_eq, go_sem, simprocAttr]; done))) | (refine c_ctrE (ctr262 (tInt a.kids.length)) ?_ ?_; (focus (simp -implicitDefEqProofs (disch := omega) only [zf m1, zf m2, zf m3, zf m4, zf m5, zf m6, zf m7, zt hx, avs, avb, avi, avo, sigCells, opCells, pairCells, elT, avt, termCells_eq, go_sem, simprocAttr]; done)))); simp -implicitDefEqProofs (disch := omega) only [zf m1, zf m2, zf m3, zf m4, zf m5, zf m6, zf m7, zt hx, go_sem, simprocAttr]) | refine And.intro (by omega) ?_ | (intro hr; have hc := hr; (try simp only [zda, zdb, zdc, zdd] at hc); simp -implicitDefEqProofs (disch := omega) only [hr, zf m1, zf m2, zf m3, zf m4, zf m5, zf m6, zf m7, zt hx, go_sem, simprocAttr]; (try clear hr))))
   all_goals subst hR
   all_goals first
     | exact fin_res rfl (rd6_sl (l := [])) (rd6_sl (l := []))
     | (refine fin_res ?_ (rd6_sl (l := [])) (rd6_sl (l := [])); simp only [hc, decide_true, decide_false, Bool.true_and, Bool.false_and, Bool.or_true, Bool.true_or, Bool.false_or, if_true, if_false, Bool.false_eq_true, reduceIte]; done)
     | (refine fin_res ?_ (rd6_sl (l := [])) (rd6_sl (l := [])); rw [zf hc]; rfl)
     | (refine fin_res ?_ (rd6_sl (l := [])) (rd6_sl (l := [])); rw [zt hc]; rfl)
     | (refine fin_res ?_ rd6_e0 rd6_e0; simp only [hc, decide_true, decide_false, if_true, if_false, Bool.false_eq_true, reduceIte]; done)
theorem ctr246join (s : LSig) (x : Str) (a b : LTerm) (ha : a.kids.length ≤ 2000) (hb : b.kids.length ≤ 2000) (hx : x = njoin): CT 74 [bookAV s, .s x, avt [a, b]] (resV (.mk 7 0 [] [] (a.kids ++ b.kids) [], 0)) := by
 refine sem_introA mixed Tryz.func74 g0 ?_
 · generalize hR : ((resV (.mk 7 0 [] [] (a.kids ++ b.kids) [], 0)) : AV) = R
   simp -implicitDefEqProofs (disch := omega) only [Tryz.f74, go_sem, List.replicate, simprocAttr, avt, List.flatMap_cons, List.flatMap_nil, termCells_eq, List.cons_append, List.nil_append, List.append_nil, List.length_cons, List.length_nil, Nat.reduceAdd]
   have m1 : ¬ x = neq := by rw [hx]; decide
   have m2 : ¬ x = nne := by rw [hx]; decide
   have m3 : ¬ x = nand := by rw [hx]; decide
   have m4 : ¬ x = nor := by rw [hx]; decide
   have m5 : ¬ x = nnot := by rw [hx]; decide
   have m6 : ¬ x = npick := by rw [hx]; decide
   have m7 : ¬ x = ncat := by rw [hx]; decide
   have m8 : ¬ x = nlength := by rw [hx]; decide
   simp -implicitDefEqProofs (disch := omega) only [zf m1, zf m2, zf m3, zf m4, zf m5, zf m6, zf m7, zf m8, zt hx, go_sem, simprocAttr]
   (repeat' (first | refine gT ?_ ?_ | refine gF ?_ ?_ | refine gC ?_ ?_ | refine And.intro (by omega) ?_ | (intro hr; have hc := hr; (try simp only [zda, zdb, zdc, zdd] at hc); simp -implicitDefEqProofs (disch := omega) only [hr, zf m1, zf m2, zf m3, zf m4, zf m5, zf m6, zf m7, zf m8, zt hx, go_sem, simprocAttr]; (try clear hr))))
   refine c_ctrE (ctr268 [a.kids, b.kids] (by simp) (by simp [sumT]; omega)) ?_ ?_
   · simp -implicitDefEqProofs (disch := omega) only [List.map_cons, List.map_nil, List.length_cons, List.length_nil, avt, go_sem, simprocAttr]
   · obtain ⟨q, hq⟩ : ∃ q, q = [a.kids, b.kids].flatten := ⟨_, rfl⟩
     rw [← hq]
     rcases bool_em (Vo.flat (avt q)) with hf | hf
     all_goals first | rw [hA_y hf] | rw [hA_n hf]
     all_goals simp -implicitDefEqProofs (disch := omega) only [go_sem, simprocAttr]
     all_goals
       obtain ⟨t, ht⟩ : ∃ t, t = LTerm.mk 7 0 [] [] q [] := ⟨_, rfl⟩
       refine c_ctrE (ctr262 t) ?_ ?_
       · rw [List.map_cons, List.map_nil, snap_t rd6_sl rd6_e0, ht]; rfl
       · rw [after_t0]
         simp -implicitDefEqProofs (disch := omega) only [go_sem, simprocAttr]
         subst hR
         exact fin_resP (q := (t, 0)) (by rw [ht, hq]; simp)
theorem ctr246is (s : LSig) (x : Str) (a b : LTerm) (hs : Small s) (hx : x = nis): CT 74 [bookAV s, .s x, avt [a, b]] (resV (if existsA s b.text = true then (tBool (atMost s (sortP s a) b.text), 0) else (tZ, 13))) := by
 refine sem_introA mixed Tryz.func74 g0 ?_
 · generalize hR : ((resV (if existsA s b.text = true then (tBool (atMost s (sortP s a) b.text), 0) else (tZ, 13))) : AV) = R
   simp -implicitDefEqProofs (disch := omega) only [Tryz.f74, go_sem, List.replicate, simprocAttr, avt, List.flatMap_cons, List.flatMap_nil, termCells_eq, List.cons_append, List.nil_append, List.append_nil, List.length_cons, List.length_nil, Nat.reduceAdd]
   have m1 : ¬ x = neq := by rw [hx]; decide
   have m2 : ¬ x = nne := by rw [hx]; decide
   have m3 : ¬ x = nand := by rw [hx]; decide
   have m4 : ¬ x = nor := by rw [hx]; decide
   have m5 : ¬ x = nnot := by rw [hx]; decide
   have m6 : ¬ x = npick := by rw [hx]; decide
   have m7 : ¬ x = ncat := by rw [hx]; decide
   have m8 : ¬ x = nlength := by rw [hx]; decide
   have m9 : ¬ x = njoin := by rw [hx]; decide
   simp -implicitDefEqProofs (disch := omega) only [zf m1, zf m2, zf m3, zf m4, zf m5, zf m6, zf m7, zf m8, zf m9, zt hx, go_sem, simprocAttr]
   (repeat' (first | refine gT ?_ ?_ | refine gF ?_ ?_ | refine gC ?_ ?_ | ((first | (refine c_ctrE (ctr54 s b.text) ?_ ?_; (focus (simp -implicitDefEqProofs (disch := omega) only [zf m1, zf m2, zf m3, zf m4, zf m5, zf m6, zf m7, zf m8, zf m9, zt hx, bookAV, avs, avb, avi, avo, sigCells, opCells, pairCells, elT, avt, termCells_eq, go_sem, simprocAttr]; done))) | (refine c_ctrE (ctr244 s a) ?_ ?_; (focus (simp -implicitDefEqProofs (disch := omega) only [zf m1, zf m2, zf m3, zf m4, zf m5, zf m6, zf m7, zf m8, zf m9, zt hx, bookAV, avs, avb, avi, avo, sigCells, opCells, pairCells, elT, avt, termCells_eq, go_sem, simprocAttr]; done))) | (refine c_ctrE (ctr71 s (sortP s a) b.text hs) ?_ ?_; (focus (simp -implicitDefEqProofs (disch := omega) only [zf m1, zf m2, zf m3, zf m4, zf m5, zf m6, zf m7, zf m8, zf m9, zt hx, bookAV, avs, avb, avi, avo, sigCells, opCells, pairCells, elT, avt, termCells_eq, go_sem, simprocAttr]; done))) | (refine c_ctrE (ctr263 (atMost s (sortP s a) b.text)) ?_ ?_; (focus (simp -implicitDefEqProofs (disch := omega) only [zf m1, zf m2, zf m3, zf m4, zf m5, zf m6, zf m7, zf m8, zf m9, zt hx, bookAV, avs, avb, avi, avo, sigCells, opCells, pairCells, elT, avt, termCells_eq, go_sem, simprocAttr]; done))) | (refine c_ctrE (ctr262 (tBool (atMost s (sortP s a) b.text))) ?_ ?_; (focus (simp -implicitDefEqProofs (disch := omega) only [zf m1, zf m2, zf m3, zf m4, zf m5, zf m6, zf m7, zf m8, zf m9, zt hx, bookAV, avs, avb, avi, avo, sigCells, opCells, pairCells, elT, avt, termCells_eq, go_sem, simprocAttr]; done)))); simp -implicitDefEqProofs (disch := omega) only [zf m1, zf m2, zf m3, zf m4, zf m5, zf m6, zf m7, zf m8, zf m9, zt hx, bookAV, go_sem, simprocAttr]) | refine And.intro (by omega) ?_ | (intro hr; have hc := hr; (try simp only [zda, zdb, zdc, zdd] at hc); simp -implicitDefEqProofs (disch := omega) only [hr, zf m1, zf m2, zf m3, zf m4, zf m5, zf m6, zf m7, zf m8, zf m9, zt hx, bookAV, go_sem, simprocAttr]; (try clear hr))))
   all_goals subst hR
   all_goals first
     | exact fin_res rfl (rd6_sl (l := [])) (rd6_sl (l := []))
     | (refine fin_res ?_ (rd6_sl (l := [])) (rd6_sl (l := [])); simp only [hc, decide_true, decide_false, Bool.true_and, Bool.false_and, Bool.or_true, Bool.true_or, Bool.false_or, if_true, if_false, Bool.false_eq_true, reduceIte]; done)
     | (refine fin_res ?_ (rd6_sl (l := [])) (rd6_sl (l := [])); rw [zf hc]; rfl)
     | (refine fin_res ?_ (rd6_sl (l := [])) (rd6_sl (l := [])); rw [zt hc]; rfl)
     | (refine fin_res ?_ rd6_e0 rd6_e0; simp only [hc, decide_true, decide_false, if_true, if_false, Bool.false_eq_true, reduceIte]; done)
theorem ctr246isvalue (s : LSig) (x : Str) (a : LTerm) (hs : Small s) (hx : x = nisvalue): CT 74 [bookAV s, .s x, avt [a]] (resV (tBool (isValue s (sortP s a)), 0)) := by
 refine sem_introA mixed Tryz.func74 g0 ?_
 · generalize hR : ((resV (tBool (isValue s (sortP s a)), 0)) : AV) = R
   simp -implicitDefEqProofs (disch := omega) only [Tryz.f74, go_sem, List.replicate, simprocAttr, avt, List.flatMap_cons, List.flatMap_nil, termCells_eq, List.cons_append, List.nil_append, List.append_nil, List.length_cons, List.length_nil, Nat.reduceAdd]
   have m1 : ¬ x = neq := by rw [hx]; decide
   have m2 : ¬ x = nne := by rw [hx]; decide
   have m3 : ¬ x = nand := by rw [hx]; decide
   have m4 : ¬ x = nor := by rw [hx]; decide
   have m5 : ¬ x = nnot := by rw [hx]; decide
   have m6 : ¬ x = npick := by rw [hx]; decide
   have m7 : ¬ x = ncat := by rw [hx]; decide
   have m8 : ¬ x = nlength := by rw [hx]; decide
   have m9 : ¬ x = njoin := by rw [hx]; decide
   have m10 : ¬ x = nis := by rw [hx]; decide
   simp -implicitDefEqProofs (disch := omega) only [zf m1, zf m2, zf m3, zf m4, zf m5, zf m6, zf m7, zf m8, zf m9, zf m10, go_sem, simprocAttr]
   (repeat' (first | refine gT ?_ ?_ | refine gF ?_ ?_ | refine gC ?_ ?_ | ((first | (refine c_ctrE (ctr244 s a) ?_ ?_; (focus (simp -implicitDefEqProofs (disch := omega) only [zf m1, zf m2, zf m3, zf m4, zf m5, zf m6, zf m7, zf m8, zf m9, zf m10, bookAV, avs, avb, avi, avo, sigCells, opCells, pairCells, elT, avt, termCells_eq, go_sem, simprocAttr]; done))) | (refine c_ctrE (ctr77 s (sortP s a) hs) ?_ ?_; (focus (simp -implicitDefEqProofs (disch := omega) only [zf m1, zf m2, zf m3, zf m4, zf m5, zf m6, zf m7, zf m8, zf m9, zf m10, bookAV, avs, avb, avi, avo, sigCells, opCells, pairCells, elT, avt, termCells_eq, go_sem, simprocAttr]; done))) | (refine c_ctrE (ctr263 (isValue s (sortP s a))) ?_ ?_; (focus (simp -implicitDefEqProofs (disch := omega) only [zf m1, zf m2, zf m3, zf m4, zf m5, zf m6, zf m7, zf m8, zf m9, zf m10, bookAV, avs, avb, avi, avo, sigCells, opCells, pairCells, elT, avt, termCells_eq, go_sem, simprocAttr]; done))) | (refine c_ctrE (ctr262 (tBool (isValue s (sortP s a)))) ?_ ?_; (focus (simp -implicitDefEqProofs (disch := omega) only [zf m1, zf m2, zf m3, zf m4, zf m5, zf m6, zf m7, zf m8, zf m9, zf m10, bookAV, avs, avb, avi, avo, sigCells, opCells, pairCells, elT, avt, termCells_eq, go_sem, simprocAttr]; done)))); simp -implicitDefEqProofs (disch := omega) only [zf m1, zf m2, zf m3, zf m4, zf m5, zf m6, zf m7, zf m8, zf m9, zf m10, bookAV, go_sem, simprocAttr]) | refine And.intro (by omega) ?_ | (intro hr; have hc := hr; (try simp only [zda, zdb, zdc, zdd] at hc); simp -implicitDefEqProofs (disch := omega) only [hr, zf m1, zf m2, zf m3, zf m4, zf m5, zf m6, zf m7, zf m8, zf m9, zf m10, bookAV, go_sem, simprocAttr]; (try clear hr))))
   all_goals subst hR
   all_goals first
     | exact fin_res rfl (rd6_sl (l := [])) (rd6_sl (l := []))
     | (refine fin_res ?_ (rd6_sl (l := [])) (rd6_sl (l := [])); simp only [hc, decide_true, decide_false, Bool.true_and, Bool.false_and, Bool.or_true, Bool.true_or, Bool.false_or, if_true, if_false, Bool.false_eq_true, reduceIte]; done)
     | (refine fin_res ?_ (rd6_sl (l := [])) (rd6_sl (l := [])); rw [zf hc]; rfl)
     | (refine fin_res ?_ (rd6_sl (l := [])) (rd6_sl (l := [])); rw [zt hc]; rfl)
     | (refine fin_res ?_ rd6_e0 rd6_e0; simp only [hc, decide_true, decide_false, if_true, if_false, Bool.false_eq_true, reduceIte]; done)

def SortedE (es : List Ent) : Prop := ∀ i j, i < j → j < es.length → ordP (es.getD i default).1 (es.getD j default).1 < 0
theorem entry_at {k : LTerm} {es : List Ent} {i : Nat} (hs : SortedE es) (hi : i < es.length) (h : (es.getD i default).1 = k) : posK k es = i ∧ hasK k es = true := by
 have h0 : ordP (es.getD i default).1 k = 0 := (ord_zero _ _).2 h
 have := pos_at hi (fun j hj => by have := hs j i hj hi; rw [h] at this; exact this) (by omega)
 exact ⟨this.1, by rw [this.2, h0]; rfl⟩
def putE (k v : LTerm) (es : List Ent) : List Ent := es.take (posK k es) ++ (k, v) :: es.drop (posK k es + (if hasK k es then 1 else 0))
theorem SortedE.tail {e : Ent} {es : List Ent} (h : SortedE (e :: es)) : SortedE es := fun i j hij hj => by
 have := h (i + 1) (j + 1) (by omega) (by simpa using hj)
 simpa using this
theorem rep2t {α : Type} {l : List α} : (List.replicate 2 l).flatten = l ++ l := by simp [List.replicate]

theorem d1 {n : Nat} : decide (0 ≤ (n : Int)) = true := by simp
theorem d2 : decide (0 ≤ (-1 : Int)) = false := by decide




theorem ctr230 (s : LSig) (t : LTerm) (hs : Small s) (ht : OkT t): CT 36 [elT t, .box [bookAV s] 0] (.b (!plainV s t)) := by
 refine sem_introB mixed Tryz.func36 g0 ?_
 · skip
   (repeat' (first | refine gT ?_ ?_ | refine gF ?_ ?_ | refine gC ?_ ?_ | ((refine c_ctrE (ctr231 s t hs ht) ?_ ?_; (focus (simp -implicitDefEqProofs (disch := omega) only [avs, avb, avi, avo, sigCells, opCells, pairCells, elT, avt, termCells_eq, go_sem, ↓reduceIte, reduceAdd, reduceSub, reduceMul, reduceLeDiff, reduceLT, reduceEqDiff, reduceNeg, Nat.reduceBEq]; done))); simp -implicitDefEqProofs (disch := omega) only [go_sem, ↓reduceIte, reduceAdd, reduceSub, reduceMul, reduceLeDiff, reduceLT, reduceEqDiff, reduceNeg, Nat.reduceBEq]) | refine And.intro (by omega) ?_ | (intro hr; have hc := hr; (try simp only [zda, zdb, zdc, zdd] at hc); simp -implicitDefEqProofs (disch := omega) only [hr, go_sem, ↓reduceIte, reduceAdd, reduceSub, reduceMul, reduceLeDiff, reduceLT, reduceEqDiff, reduceNeg, Nat.reduceBEq]; (try clear hr))))
   all_goals exact fin_eq rfl rfl
theorem ctr241 (l : List LTerm) (f : FuncId) (a b : List AV) (p : LTerm → Bool) (hl : l.length ≤ 1466015503701) (ha : persL a = true) (hb : persL b = true) (hw : ∀ k, k < l.length → CT f (a ++ [elT (l.getD k default)] ++ b) (.b (p (l.getD k default)))): CT 68 [avt l, .fn f a b] (.i .i64 (idx p l)) := by
 refine sem_introB mixed Tryz.func68 g0 ?_
 · skip
   refine x_loopJ (fun (k : Nat) => [.k, .k, .k, .k, .j, .j, .k, .k, .v (.i .i64 k), .j, .j, .j, .j, .j, .j, .j, .j, .j, .j]) (fun k => []) (fun k => k ≤ l.length ∧ ∀ j, j < k → p (l.getD j default) = false) (fun k => l.length - k) (0) ⟨Nat.zero_le _, fun j h => by omega⟩ rfl (by simp [Fits]) ?_
   rintro k j ⟨hk, hn⟩
   simp -implicitDefEqProofs (disch := omega) only [go_sem, ↓reduceIte, reduceAdd, reduceSub, reduceMul, reduceLeDiff, reduceLT, reduceEqDiff, reduceNeg, Nat.reduceBEq]
   (repeat' (first | refine gT ?_ ?_ | refine gF ?_ ?_ | refine gC ?_ ?_ | refine And.intro (by omega) ?_ | (intro hr; have hc := hr; (try simp only [zda, zdb, zdc, zdd] at hc); simp -implicitDefEqProofs (disch := omega) only [hr, go_sem, ↓reduceIte, reduceAdd, reduceSub, reduceMul, reduceLeDiff, reduceLT, reduceEqDiff, reduceNeg, Nat.reduceBEq]; (try clear hr))))
   · refine c_ctrE (hw k (by omega)) ?_ ?_
     · simp -implicitDefEqProofs (disch := omega) only [List.map_append, snapL ha, snapL hb, elT, termCells_eq, go_sem, ↓reduceIte, reduceAdd, reduceSub, reduceMul, reduceLeDiff, reduceLT, reduceEqDiff, reduceNeg, Nat.reduceBEq]
     · simp -implicitDefEqProofs (disch := omega) only [go_sem, ↓reduceIte, reduceAdd, reduceSub, reduceMul, reduceLeDiff, reduceLT, reduceEqDiff, reduceNeg, Nat.reduceBEq]
       (repeat' (first | refine gT ?_ ?_ | refine gF ?_ ?_ | refine gC ?_ ?_ | refine And.intro (by omega) ?_ | (intro hr; have hc := hr; (try simp only [zda, zdb, zdc, zdd] at hc); simp -implicitDefEqProofs (disch := omega) only [hr, go_sem, ↓reduceIte, reduceAdd, reduceSub, reduceMul, reduceLeDiff, reduceLT, reduceEqDiff, reduceNeg, Nat.reduceBEq]; (try clear hr))))
       · refine fin_eq ?_ (by rfl)
         rw [idx_some (d := default) (k := k) (by omega) hc hn]
       · exact ⟨k + 1, ⟨by omega, below_succ hn hc⟩, by omega, by simp⟩
   · refine fin_eq ?_ (by rfl)
     have h1 : k = l.length := by omega
     rw [idx_none (h1 ▸ hn)]
theorem ctr229 (l : List LTerm) (f : FuncId) (a b : List AV) (p : LTerm → Bool) (hl : l.length ≤ 1466015503701) (ha : persL a = true) (hb : persL b = true) (hw : ∀ k, k < l.length → CT f (a ++ [elT (l.getD k default)] ++ b) (.b (p (l.getD k default)))): CT 35 [avt l, .fn f a b] (.b (l.any p)) := by
 refine sem_introB mixed Tryz.func35 g0 ?_
 · skip
   refine c_ctrE (ctr241 l f a b p hl ha hb hw) ?_ ?_
   · simp -implicitDefEqProofs (disch := omega) only [ha, hb, avt, go_sem, ↓reduceIte, reduceAdd, reduceSub, reduceMul, reduceLeDiff, reduceLT, reduceEqDiff, reduceNeg, Nat.reduceBEq]
   · simp -implicitDefEqProofs (disch := omega) only [go_sem, ↓reduceIte, reduceAdd, reduceSub, reduceMul, reduceLeDiff, reduceLT, reduceEqDiff, reduceNeg, Nat.reduceBEq]
     refine fin_eq ?_ (by rfl)
     rw [idx_any]

theorem ctr247 (x : Str) (l : List LTerm) (p : Res) (c : CT 76 [.s x, avt l] (resV p)): CT 75 [.box [.s x] 0, .box [avt l] 0] (resV p) := by
 refine sem_introA mixed Tryz.func75 g0 ?_
 · generalize hR : ((resV p) : AV) = R
   simp -implicitDefEqProofs (disch := omega) only [Tryz.f75, go_sem, List.replicate, ↓reduceIte, reduceAdd, reduceSub, reduceMul, reduceLeDiff, reduceLT, reduceEqDiff, reduceNeg, Nat.reduceBEq, avt]
   (repeat' (first | refine gT ?_ ?_ | refine gF ?_ ?_ | refine gC ?_ ?_ | ((refine c_ctrE (c) ?_ ?_; (focus (simp -implicitDefEqProofs (disch := omega) only [avs, avb, avi, avo, sigCells, opCells, pairCells, elT, avt, termCells_eq, go_sem, ↓reduceIte, reduceAdd, reduceSub, reduceMul, reduceLeDiff, reduceLT, reduceEqDiff, reduceNeg, Nat.reduceBEq]; done))); simp -implicitDefEqProofs (disch := omega) only [go_sem, ↓reduceIte, reduceAdd, reduceSub, reduceMul, reduceLeDiff, reduceLT, reduceEqDiff, reduceNeg, Nat.reduceBEq]) | refine And.intro (by omega) ?_ | (intro hr; have hc := hr; (try simp only [zda, zdb, zdc, zdd] at hc); simp -implicitDefEqProofs (disch := omega) only [hr, go_sem, ↓reduceIte, reduceAdd, reduceSub, reduceMul, reduceLeDiff, reduceLT, reduceEqDiff, reduceNeg, Nat.reduceBEq]; (try clear hr))))
   all_goals subst hR
   all_goals exact fin_resP rfl
theorem ctr249 (x : Str) (l : List LTerm) (p : Res) (c : CT 78 [.s x, avt l] (resV p)): CT 77 [.box [.s x] 0, .box [avt l] 0] (resV p) := by
 refine sem_introA mixed Tryz.func77 g0 ?_
 · generalize hR : ((resV p) : AV) = R
   simp -implicitDefEqProofs (disch := omega) only [Tryz.f77, go_sem, List.replicate, ↓reduceIte, reduceAdd, reduceSub, reduceMul, reduceLeDiff, reduceLT, reduceEqDiff, reduceNeg, Nat.reduceBEq, avt]
   (repeat' (first | refine gT ?_ ?_ | refine gF ?_ ?_ | refine gC ?_ ?_ | ((refine c_ctrE (c) ?_ ?_; (focus (simp -implicitDefEqProofs (disch := omega) only [avs, avb, avi, avo, sigCells, opCells, pairCells, elT, avt, termCells_eq, go_sem, ↓reduceIte, reduceAdd, reduceSub, reduceMul, reduceLeDiff, reduceLT, reduceEqDiff, reduceNeg, Nat.reduceBEq]; done))); simp -implicitDefEqProofs (disch := omega) only [go_sem, ↓reduceIte, reduceAdd, reduceSub, reduceMul, reduceLeDiff, reduceLT, reduceEqDiff, reduceNeg, Nat.reduceBEq]) | refine And.intro (by omega) ?_ | (intro hr; have hc := hr; (try simp only [zda, zdb, zdc, zdd] at hc); simp -implicitDefEqProofs (disch := omega) only [hr, go_sem, ↓reduceIte, reduceAdd, reduceSub, reduceMul, reduceLeDiff, reduceLT, reduceEqDiff, reduceNeg, Nat.reduceBEq]; (try clear hr))))
   all_goals subst hR
   all_goals exact fin_resP rfl
theorem ctr245 (s : LSig) (x : Str) (l : List LTerm) (p : Res) (c : CT 74 [bookAV s, .s x, avt l] (resV p)): CT 73 [.box [bookAV s] 0, .box [.s x] 0, .box [avt l] 0] (resV p) := by
 refine sem_introA mixed Tryz.func73 g0 ?_
 · generalize hR : ((resV p) : AV) = R
   simp -implicitDefEqProofs (disch := omega) only [Tryz.f73, go_sem, List.replicate, ↓reduceIte, reduceAdd, reduceSub, reduceMul, reduceLeDiff, reduceLT, reduceEqDiff, reduceNeg, Nat.reduceBEq, avt]
   (repeat' (first | refine gT ?_ ?_ | refine gF ?_ ?_ | refine gC ?_ ?_ | ((refine c_ctrE (c) ?_ ?_; (focus (simp -implicitDefEqProofs (disch := omega) only [avs, avb, avi, avo, sigCells, opCells, pairCells, elT, avt, termCells_eq, go_sem, ↓reduceIte, reduceAdd, reduceSub, reduceMul, reduceLeDiff, reduceLT, reduceEqDiff, reduceNeg, Nat.reduceBEq]; done))); simp -implicitDefEqProofs (disch := omega) only [go_sem, ↓reduceIte, reduceAdd, reduceSub, reduceMul, reduceLeDiff, reduceLT, reduceEqDiff, reduceNeg, Nat.reduceBEq]) | refine And.intro (by omega) ?_ | (intro hr; have hc := hr; (try simp only [zda, zdb, zdc, zdd] at hc); simp -implicitDefEqProofs (disch := omega) only [hr, go_sem, ↓reduceIte, reduceAdd, reduceSub, reduceMul, reduceLeDiff, reduceLT, reduceEqDiff, reduceNeg, Nat.reduceBEq]; (try clear hr))))
   all_goals subst hR
   all_goals exact fin_resP rfl

theorem ctr232_n (s : LSig) (x : Str) (l : List LTerm) (hb : builtIns.contains x = false): CT 38 [bookAV s, .s x, avt l] (resV (tZ, 4)) := by
 refine sem_introA mixed Tryz.func38 g0 ?_
 · generalize hR : ((resV (tZ, 4)) : AV) = R
   simp -implicitDefEqProofs (disch := omega) only [Tryz.f38, go_sem, List.replicate, simprocAttr, avt]
   have c := ctr237 x
   rw [built_no hb] at c
   (repeat' (first | refine gT ?_ ?_ | refine gF ?_ ?_ | refine gC ?_ ?_ | ((refine c_ctrE (c) ?_ ?_; (focus (simp -implicitDefEqProofs (disch := omega) only [avs, avb, avi, avo, sigCells, opCells, pairCells, elT, avt, termCells_eq, go_sem, simprocAttr]; done))); simp -implicitDefEqProofs (disch := omega) only [go_sem, simprocAttr]) | refine And.intro (by omega) ?_ | (intro hr; have hc := hr; (try simp only [zda, zdb, zdc, zdd] at hc); simp -implicitDefEqProofs (disch := omega) only [hr, go_sem, simprocAttr]; (try clear hr))))
   all_goals subst hR
   all_goals exact fin_res rfl rd6_e0 rd6_e0
theorem ctr232_l (s : LSig) (x : Str) (l : List LTerm) (hl : l.length ≤ 1466015503701) (hb : builtIns.contains x = true) (hn : ¬ l.length = (argsP x).length): CT 38 [bookAV s, .s x, avt l] (resV (tZ, 15)) := by
 refine sem_introA mixed Tryz.func38 g0 ?_
 · generalize hR : ((resV (tZ, 15)) : AV) = R
   simp -implicitDefEqProofs (disch := omega) only [Tryz.f38, go_sem, List.replicate, simprocAttr, avt]
   have c := ctr237 x
   rw [built_yes hb] at c
   (repeat' (first | refine gT ?_ ?_ | refine gF ?_ ?_ | refine gC ?_ ?_ | ((refine c_ctrE (c) ?_ ?_; (focus (simp -implicitDefEqProofs (disch := omega) only [avs, avb, avi, avo, sigCells, opCells, pairCells, elT, avt, termCells_eq, go_sem, simprocAttr]; done))); simp -implicitDefEqProofs (disch := omega) only [go_sem, simprocAttr]) | refine And.intro (by omega) ?_ | (intro hr; have hc := hr; (try simp only [zda, zdb, zdc, zdd] at hc); simp -implicitDefEqProofs (disch := omega) only [hr, go_sem, simprocAttr]; (try clear hr))))
   all_goals first
     | (subst hR; exact fin_res rfl rd6_e0 rd6_e0)
     | (exfalso; omega)
def calcFit (s : LSig) (x : Str) (l : List LTerm) : Bool := allN l.length (fun i => atMost s (sortP s (l.getD i default)) ((argsP x).getD i []))
theorem args_cons {x : Str} (hb : builtIns.contains x = true) : ∃ a m, argsP x = a :: m := by
 have h : ∀ y ∈ builtIns, (argsP y).length ≠ 0 := by decide +kernel
 have h := h x (by simpa using hb)
 cases hA : argsP x with
 | nil => rw [hA] at h; exact absurd rfl h
 | cons a m => exact ⟨a, m, rfl⟩
def limV (p : Res) : Res := if p.2 = 0 ∧ validT nodeB p.1 = false then (tZ, 3) else p
theorem ctr232_all (s : LSig) (x : Str) (l : List LTerm) (p : Res) (hs : Small s) (hl : l.length ≤ 1466015503701) (hb : builtIns.contains x = true) (hn : l.length = (argsP x).length) (ci : calcFit s x l = true → (argsP x).getD 0 [] = intS → CT 76 [.s x, avt l] (resV p)) (cm : calcFit s x l = true → (argsP x).getD 0 [] = mapS → CT 78 [.s x, avt l] (resV p)) (co : calcFit s x l = true → ¬ (argsP x).getD 0 [] = intS → ¬ (argsP x).getD 0 [] = mapS → CT 74 [bookAV s, .s x, avt l] (resV p)) (op : calcFit s x l = true → OkT p.1) (r : Res) (hp : r = if calcFit s x l = true then limV p else (tZ, 16)): CT 38 [bookAV s, .s x, avt l] (resV r) := by
 refine sem_introA mixed Tryz.func38 g0 ?_
 · generalize hR : ((resV r) : AV) = R
   simp -implicitDefEqProofs (disch := omega) only [Tryz.f38, go_sem, List.replicate, simprocAttr, avt]
   have c := ctr237 x
   rw [built_yes hb] at c
   (repeat' (first | refine gT ?_ ?_ | refine gF ?_ ?_ | refine gC ?_ ?_ | ((refine c_ctrE (c) ?_ ?_; (focus (simp -implicitDefEqProofs (disch := omega) only [avs, avb, avi, avo, sigCells, opCells, pairCells, elT, avt, termCells_eq, go_sem, simprocAttr]; done))); simp -implicitDefEqProofs (disch := omega) only [go_sem, simprocAttr]) | refine And.intro (by omega) ?_ | (intro hr; have hc := hr; (try simp only [zda, zdb, zdc, zdd] at hc); simp -implicitDefEqProofs (disch := omega) only [hr, go_sem, simprocAttr]; (try clear hr))))
   all_goals try (exfalso; omega)
   refine x_loopG (fun (k : Nat) => [.k, .k, .k, .k, .k, .k, .k, .j, .k, .k, .j, .j, .k, .k, .k, .k, .k, .k, .k, .k, .k, .k, .k, .k, .k, .k, .k, .k, .k, .k, .k, .k, .k, .k, .v (.i .i64 k), .j, .j, .j, .j, .j, .j, .j, .j, .j, .j, .j, .j, .j, .j, .j, .j, .j, .k, .k, .k, .k, .k, .k, .k, .k, .k, .k, .k, .k, .k, .k, .k, .k, .k, .k, .k, .k, .k, .k, .k, .k, .k, .k, .k, .k, .k, .k]) (fun k => [.box false [.box (bookCells s) 0], .box false [.s x], .box false [.sl (l.flatMap termCells) l.length], .box false [.i .i64 0, .i .i64 0, .s [], .s [], .e0, .e0], .box false (opCells ⟨x, argsP x, resultP x, [], 0, 0, []⟩)]) (fun k => k ≤ l.length ∧ ∀ j, j < k → atMost s (sortP s (l.getD j default)) ((argsP x).getD j []) = true) (fun k => l.length - k) (0) _ ⟨Nat.zero_le _, fun j h => by omega⟩ rfl (by simp [Fits]) ?_
   rintro k g j ⟨hk, ha⟩
   simp -implicitDefEqProofs (disch := omega) only [go_sem, simprocAttr]
   (repeat' (first | refine gT ?_ ?_ | refine gF ?_ ?_ | refine gC ?_ ?_ | ((first | (refine c_ctrE (ctr244 s (l.getD k default)) ?_ ?_; (focus (simp -implicitDefEqProofs (disch := omega) only [bookAV, avs, avb, avi, avo, sigCells, opCells, pairCells, elT, avt, termCells_eq, go_sem, simprocAttr]; done))) | (refine c_ctrE (ctr71 s (sortP s (l.getD k default)) ((argsP x).getD k []) hs) ?_ ?_; (focus (simp -implicitDefEqProofs (disch := omega) only [bookAV, avs, avb, avi, avo, sigCells, opCells, pairCells, elT, avt, termCells_eq, go_sem, simprocAttr]; done)))); simp -implicitDefEqProofs (disch := omega) only [bookAV, go_sem, simprocAttr]) | refine And.intro (by omega) ?_ | (intro hr; have hc := hr; (try simp only [zda, zdb, zdc, zdd] at hc); simp -implicitDefEqProofs (disch := omega) only [hr, bookAV, go_sem, simprocAttr]; (try clear hr))))
   · subst hR
     have e : calcFit s x l = false := allN_false k (by omega) hc
     exact fin_res (by rw [hp, e]; rfl) rd6_e0 rd6_e0
   · exact ⟨k + 1, _, ⟨by omega, below_succ ha hc⟩, by omega, rfl, by simp⟩
   · have e : calcFit s x l = true := allN_true (fun j hj => ha j (by omega))
     rw [e, if_pos rfl] at hp
     have ci := ci e
     have cm := cm e
     have co := co e
     have op := op e
     obtain ⟨a0, am, hA⟩ := args_cons hb
     rw [hA] at hn ci cm co ⊢
     refine ⟨by simp, ?_⟩
     simp -implicitDefEqProofs (disch := omega) only [List.map_cons, List.getElem?_cons_zero, go_sem, simprocAttr]
     (repeat' (first | refine gT ?_ ?_ | refine gF ?_ ?_ | refine gC ?_ ?_ | refine And.intro (by omega) ?_ | (intro hr; have hc := hr; (try simp only [zda, zdb, zdc, zdd] at hc); simp -implicitDefEqProofs (disch := omega) only [hr, go_sem, simprocAttr]; (try clear hr))))
     · refine c_ctrE (ctr247 x l p (ci (by rw [List.getD_cons_zero]; exact hc))) ?_ ?_
       · simp -implicitDefEqProofs (disch := omega) only [avt, bookAV, go_sem, simprocAttr]
       · rcases bool_em (Vo.flat (resV p)) with hf | hf
         all_goals first | rw [hA_y hf] | rw [hA_n hf]
         all_goals simp -implicitDefEqProofs (disch := omega) only [go_sem, simprocAttr]
         all_goals (repeat' (first | refine gT ?_ ?_ | refine gF ?_ ?_ | refine gC ?_ ?_ | ((refine c_ctrE (ctr242 p.1 op) ?_ ?_; (focus (simp -implicitDefEqProofs (disch := omega) only [avs, avb, avi, avo, sigCells, opCells, pairCells, elT, avt, termCells_eq, go_sem, simprocAttr]; done))); simp -implicitDefEqProofs (disch := omega) only [go_sem, simprocAttr]) | refine And.intro (by omega) ?_ | (intro hr; have hc := hr; (try simp only [zda, zdb, zdc, zdd] at hc); simp -implicitDefEqProofs (disch := omega) only [hr, go_sem, simprocAttr]; (try clear hr))))
         all_goals subst hR
         all_goals first
           | exact fin_res (hp.trans (if_pos ⟨‹p.2 = 0›, hc⟩)) rd6_e0 rd6_e0
           | exact fin_resP (hp.trans (if_neg (fun h => absurd h.1 hc)))
           | exact fin_resP (hp.trans (if_neg (fun h => Bool.noConfusion (hc.symm.trans h.2))))
     · refine c_ctrE (ctr249 x l p (cm (by rw [List.getD_cons_zero]; exact hc))) ?_ ?_
       · simp -implicitDefEqProofs (disch := omega) only [avt, bookAV, go_sem, simprocAttr]
       · rcases bool_em (Vo.flat (resV p)) with hf | hf
         all_goals first | rw [hA_y hf] | rw [hA_n hf]
         all_goals simp -implicitDefEqProofs (disch := omega) only [go_sem, simprocAttr]
         all_goals (repeat' (first | refine gT ?_ ?_ | refine gF ?_ ?_ | refine gC ?_ ?_ | ((refine c_ctrE (ctr242 p.1 op) ?_ ?_; (focus (simp -implicitDefEqProofs (disch := omega) only [avs, avb, avi, avo, sigCells, opCells, pairCells, elT, avt, termCells_eq, go_sem, simprocAttr]; done))); simp -implicitDefEqProofs (disch := omega) only [go_sem, simprocAttr]) | refine And.intro (by omega) ?_ | (intro hr; have hc := hr; (try simp only [zda, zdb, zdc, zdd] at hc); simp -implicitDefEqProofs (disch := omega) only [hr, go_sem, simprocAttr]; (try clear hr))))
         all_goals subst hR
         all_goals first
           | exact fin_res (hp.trans (if_pos ⟨‹p.2 = 0›, hc⟩)) rd6_e0 rd6_e0
           | exact fin_resP (hp.trans (if_neg (fun h => absurd h.1 hc)))
           | exact fin_resP (hp.trans (if_neg (fun h => Bool.noConfusion (hc.symm.trans h.2))))
     · refine c_ctrE (ctr245 s x l p (co (by rw [List.getD_cons_zero]; assumption) (by rw [List.getD_cons_zero]; exact hc))) ?_ ?_
       · simp -implicitDefEqProofs (disch := omega) only [avt, bookAV, go_sem, simprocAttr]
       · rcases bool_em (Vo.flat (resV p)) with hf | hf
         all_goals first | rw [hA_y hf] | rw [hA_n hf]
         all_goals simp -implicitDefEqProofs (disch := omega) only [go_sem, simprocAttr]
         all_goals (repeat' (first | refine gT ?_ ?_ | refine gF ?_ ?_ | refine gC ?_ ?_ | ((refine c_ctrE (ctr242 p.1 op) ?_ ?_; (focus (simp -implicitDefEqProofs (disch := omega) only [avs, avb, avi, avo, sigCells, opCells, pairCells, elT, avt, termCells_eq, go_sem, simprocAttr]; done))); simp -implicitDefEqProofs (disch := omega) only [go_sem, simprocAttr]) | refine And.intro (by omega) ?_ | (intro hr; have hc := hr; (try simp only [zda, zdb, zdc, zdd] at hc); simp -implicitDefEqProofs (disch := omega) only [hr, go_sem, simprocAttr]; (try clear hr))))
         all_goals subst hR
         all_goals first
           | exact fin_res (hp.trans (if_pos ⟨‹p.2 = 0›, hc⟩)) rd6_e0 rd6_e0
           | exact fin_resP (hp.trans (if_neg (fun h => absurd h.1 hc)))
           | exact fin_resP (hp.trans (if_neg (fun h => Bool.noConfusion (hc.symm.trans h.2))))


def plainA (s : LSig) (l : List LTerm) : Bool := l.all (plainV s)
theorem any_all {s : LSig} {l : List LTerm} : (l.any fun t => !plainV s t) = !plainA s l := by
 rw [plainA, List.all_eq_not_any_not, Bool.not_not]
theorem persL_bk0 {s : LSig} : persL [.box [bookAV s] 0] = true := by
 show (persL [bookAV s] && true) = true
 have hb : persL [bookAV s] = true := by
   show (pers (bookAV s) && true) = true
   rw [pers_book]; rfl
 rw [hb]; rfl
theorem ctr209_n (s : LSig) (x : Str) (l : List LTerm) (hs : Small s) (ho : OkS s) (hv : validB s = false): CT 12 [.agg (sigCells s), .s x, avt l] (resV (tZ, 2)) := by
 refine sem_introA mixed Tryz.func12 g0 ?_
 · generalize hR : ((resV (tZ, 2)) : AV) = R
   simp -implicitDefEqProofs (disch := omega) only [Tryz.f12, go_sem, List.replicate, simprocAttr, avt]
   (repeat' (first | refine gT ?_ ?_ | refine gF ?_ ?_ | refine gC ?_ ?_ | ((refine c_ctrE (ctr12 s hs ho) ?_ ?_; (focus (simp -implicitDefEqProofs (disch := omega) only [hv, avs, avb, avi, avo, sigCells, opCells, pairCells, elT, avt, termCells_eq, go_sem, simprocAttr]; done))); simp -implicitDefEqProofs (disch := omega) only [hv, go_sem, simprocAttr]) | refine And.intro (by omega) ?_ | (intro hr; have hc := hr; (try simp only [zda, zdb, zdc, zdd] at hc); simp -implicitDefEqProofs (disch := omega) only [hr, hv, go_sem, simprocAttr]; (try clear hr))))
   all_goals subst hR
   all_goals exact fin_res rfl rd6_e0 rd6_e0
theorem ctr209 (s : LSig) (x : Str) (l : List LTerm) (r : Res) (hs : Small s) (ho : OkS s) (hv : validB s = true) (hl : l.length ≤ 1466015503701) (ol : ∀ t ∈ l, OkT t) (or1 : plainA s l = true → OkT r.1) (c : plainA s l = true → CT 38 [bookAV s, .s x, avt l] (resV r)) (q : Res) (hq : q = if plainA s l = true then r else (tZ, 2)): CT 12 [.agg (sigCells s), .s x, avt l] (resV q) := by
 refine sem_introA mixed Tryz.func12 g0 ?_
 · generalize hR : ((resV q) : AV) = R
   simp -implicitDefEqProofs (disch := omega) only [Tryz.f12, go_sem, List.replicate, simprocAttr, avt]
   (repeat' (first | refine gT ?_ ?_ | refine gF ?_ ?_ | refine gC ?_ ?_ | ((first | (refine c_ctrE (ctr12 s hs ho) ?_ ?_; (focus (simp -implicitDefEqProofs (disch := omega) only [hv, avs, avb, avi, avo, sigCells, opCells, pairCells, elT, avt, termCells_eq, go_sem, simprocAttr]; done))) | (refine c_ctrE (ctr51 s hs (valid_distinct hv)) ?_ ?_; (focus (simp -implicitDefEqProofs (disch := omega) only [hv, avs, avb, avi, avo, sigCells, opCells, pairCells, elT, avt, termCells_eq, go_sem, simprocAttr]; done)))); simp -implicitDefEqProofs (disch := omega) only [hv, go_sem, simprocAttr]) | refine And.intro (by omega) ?_ | (intro hr; have hc := hr; (try simp only [zda, zdb, zdc, zdd] at hc); simp -implicitDefEqProofs (disch := omega) only [hr, hv, go_sem, simprocAttr]; (try clear hr))))
   refine c_ctrE (ctr229 l 36 [] [.box [bookAV s] 0] (fun t => !plainV s t) hl rfl persL_bk0 (fun k hk => ctr230 s (l.getD k default) hs (ol _ (mem_getD hk)))) ?_ ?_
   · simp -implicitDefEqProofs (disch := omega) only [avt, bookAV, go_sem, simprocAttr]
   · simp -implicitDefEqProofs (disch := omega) only [go_sem, simprocAttr]
     rw [any_all]
     rcases bool_em (plainA s l) with hp | hp
     · rw [hp] at hq ⊢
       simp -implicitDefEqProofs (disch := omega) only [go_sem, simprocAttr]
       refine c_ctrE (c hp) ?_ ?_
       · simp -implicitDefEqProofs (disch := omega) only [avt, bookAV, go_sem, simprocAttr]
       · rcases bool_em (Vo.flat (resV r)) with hf | hf
         all_goals first | rw [hA_y hf] | rw [hA_n hf]
         all_goals simp -implicitDefEqProofs (disch := omega) only [go_sem, simprocAttr]
         all_goals refine c_ctrE (ctr233 r.1 (or1 hp)) ?_ ?_
         all_goals try simp -implicitDefEqProofs (disch := omega) only [go_sem, simprocAttr]
         all_goals subst hR
         all_goals exact fin_resP (hq.trans (if_pos rfl))
     · rw [hp] at hq ⊢
       simp -implicitDefEqProofs (disch := omega) only [go_sem, simprocAttr]
       subst hR
       exact fin_res (hq.trans (if_neg (by simp))) rd6_e0 rd6_e0
end Go.Proofs.YtpilgabbgflbhaaGreatDoor

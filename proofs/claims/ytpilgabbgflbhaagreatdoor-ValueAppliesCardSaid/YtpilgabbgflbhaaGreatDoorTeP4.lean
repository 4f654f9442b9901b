/-
  What functions of the chapter return, as plain functions of what they are given; no condition beyond those that each theorem names.
-/
import Derived.Test.YtpilgabbgflbhaaGreatDoorTeP3
import Derived.Test.YtpilgabbgflbhaaGreatDoorSoP3
import Derived.Test.YtpilgabbgflbhaaGreatDoorVoP5
set_option maxRecDepth 100000
set_option linter.unusedSimpArgs false
set_option linter.unusedVariables false
set_option maxHeartbeats 4000000
namespace Go.Proofs.YtpilgabbgflbhaaGreatDoor
open Go Go.Vo
open Nat (reduceAdd reduceSub reduceMul reduceLeDiff reduceLT reduceEqDiff)
open Int (reduceNeg)

theorem ctr269 (n : Int) (h0 : -9223372036854775808 ≤ n) (h1 : n ≤ 9223372036854775807) : CT 123 [.i .i64 n] (.s (Lib.itoa n)) := by
 refine ⟨by kernel_rfl, g0, ?_⟩
 intro F w vs hF hgl hl hr
 obtain ⟨v0, rfl⟩ := one_of hl
 have e0 := int_ok (hr 0 _ v0 rfl rfl)
 subst e0
 refine (Tryz.strconv_Itoa n h0 h1 w (box_tab (by kernel_rfl) (hgl 2 (.box powCells 0) rfl))).mono ?_
 rintro e w' ⟨rfl, k, os, rfl⟩
 have hgr : Grew w (Sort.grow (w.drewN k) os) := by
   refine ⟨fun b hb => ?_, ?_, rfl, rfl, rfl⟩
   · simp only [Sort.grow, World.drewN]; rw [Array.getElem?_append_left hb]
   · simp only [Sort.grow, World.drewN, Array.size_append]; omega
 exact ⟨_, F, [], rfl, hgr, fun _ h => h, fun _ h => .inl h, fun b hb => Nat.lt_of_lt_of_le (hF b hb) hgr.size, RR.val (.s _), List.nodup_nil, by simp⟩
theorem itoa_nat {n : Nat} : Lib.itoa (n : Int) = Lib.decDigits n := by rw [Lib.itoa, if_neg (by omega)]; rfl
theorem itoa_neg {n : Nat} (h : 0 < n) : Lib.itoa (-(n : Int)) = 45 :: Lib.decDigits n := by
 rw [Lib.itoa, if_pos (by omega)]; simp
theorem dig_small {n : Nat} (h : n < 10) : Lib.decDigits n = [UInt8.ofNat (48 + n)] := by rw [Lib.decDigits, dif_pos h]
theorem dig_big {n : Nat} (h : 10 ≤ n) : Lib.decDigits n = Lib.decDigits (n / 10) ++ Lib.decDigits (n % 10) := by
 rw [Lib.decDigits, dif_neg (by omega), dig_small (n := n % 10) (by omega)]
theorem itoa_low {n : Int} (h : n ≤ -10) : Lib.itoa (n.tdiv 10) ++ Lib.itoa (-(n.tmod 10)) = Lib.itoa n := by
 obtain ⟨m, rfl⟩ : ∃ m : Nat, n = -(m : Int) := ⟨n.natAbs, by omega⟩
 have e1 : (-(m : Int)).tdiv 10 = -((m / 10 : Nat) : Int) := by rw [Int.neg_tdiv]; rfl
 have e2 : -((-(m : Int)).tmod 10) = ((m % 10 : Nat) : Int) := by rw [Int.neg_tmod]; simp only [Int.neg_neg]; rfl
 rw [e1, e2, itoa_neg (by omega), itoa_neg (by omega), itoa_nat, dig_big (n := m) (by omega)]; rfl
theorem itoa_mid {n : Int} (h : n < 0) : (45 : UInt8) :: Lib.itoa (-n) = Lib.itoa n := by
 obtain ⟨m, rfl⟩ : ∃ m : Nat, n = -(m : Int) := ⟨n.natAbs, by omega⟩
 rw [Int.neg_neg, itoa_nat, itoa_neg (by omega)]
theorem itoa_big {n : Int} (h : 10 ≤ n) : Lib.itoa (n.tdiv 10) ++ Lib.itoa (n.tmod 10) = Lib.itoa n := by
 obtain ⟨m, rfl⟩ : ∃ m : Nat, n = (m : Int) := ⟨n.natAbs, by omega⟩
 have e1 : (m : Int).tdiv 10 = ((m / 10 : Nat) : Int) := rfl
 have e2 : (m : Int).tmod 10 = ((m % 10 : Nat) : Int) := rfl
 rw [e1, e2, itoa_nat, itoa_nat, itoa_nat, dig_big (n := m) (by omega)]
theorem itoa_dig {n : Int} (h : 0 ≤ n) (h2 : n < 10) : (([48, 49, 50, 51, 52, 53, 54, 55, 56, 57] : Str).take (n + 1).toNat).drop n.toNat = Lib.itoa n := by
 obtain ⟨m, rfl⟩ : ∃ m : Nat, n = (m : Int) := ⟨n.natAbs, by omega⟩
 rw [itoa_nat, dig_small (by omega), Int.toNat_natCast, show ((m : Int) + 1).toNat = m + 1 by omega]
 have : ∀ k, k < 10 → (([48, 49, 50, 51, 52, 53, 54, 55, 56, 57] : Str).take (k + 1)).drop k = [UInt8.ofNat (48 + k)] := by decide
 exact this m (by omega)
theorem dig_len (u : Nat) : (Lib.decDigits u).length ≤ u + 1 := by
 induction u using Nat.strongRecOn with
 | _ u ih =>
   by_cases h : u < 10
   · rw [dig_small h]; simp
   · have h1 := ih (u / 10) (by omega)
     rw [dig_big (by omega), dig_small (n := u % 10) (by omega)]
     simp; omega
theorem itoa_len (n : Int) : (Lib.itoa n).length ≤ n.natAbs + 2 := by
 rw [Lib.itoa]; split
 · have := dig_len n.natAbs; simp; omega
 · have := dig_len n.toNat; omega
theorem i10 : ((10 : Int) = 0) = False := by decide
def wt (n : Int) : Nat := 2 * n.natAbs + (if n < 0 then 1 else 0)
theorem wt1 {n : Int} (h : n ≤ -10) (h1 : -4294967296 ≤ n) : wt (n.tdiv 10) < wt n ∧ wt (-(n.tmod 10)) < wt n ∧ -4294967296 ≤ n.tdiv 10 ∧ n.tdiv 10 ≤ 0 ∧ 0 ≤ -(n.tmod 10) ∧ -(n.tmod 10) ≤ 9 := by
 obtain ⟨m, rfl⟩ : ∃ m : Nat, n = -(m : Int) := ⟨n.natAbs, by omega⟩
 have e1 : (-(m : Int)).tdiv 10 = -((m / 10 : Nat) : Int) := by rw [Int.neg_tdiv]; rfl
 have e2 : -((-(m : Int)).tmod 10) = ((m % 10 : Nat) : Int) := by rw [Int.neg_tmod]; simp only [Int.neg_neg]; rfl
 rw [e1, e2]
 simp only [wt]
 refine ⟨?_, ?_, ?_⟩ <;> (repeat' split) <;> omega
theorem wt2 {n : Int} (h : 10 ≤ n) (h1 : n ≤ 4294967296) : wt (n.tdiv 10) < wt n ∧ wt (n.tmod 10) < wt n ∧ n.tdiv 10 ≤ 4294967296 ∧ 0 ≤ n.tdiv 10 ∧ 0 ≤ n.tmod 10 ∧ n.tmod 10 ≤ 9 := by
 obtain ⟨m, rfl⟩ : ∃ m : Nat, n = (m : Int) := ⟨n.natAbs, by omega⟩
 have e1 : (m : Int).tdiv 10 = ((m / 10 : Nat) : Int) := rfl
 have e2 : (m : Int).tmod 10 = ((m % 10 : Nat) : Int) := rfl
 rw [e1, e2]
 simp only [wt]
 refine ⟨?_, ?_, ?_⟩ <;> (repeat' split) <;> omega
theorem ctr275_1 (n : Int) (h1 : -4294967296 ≤ n) (h2 : n ≤ 4294967296) (ih : ∀ m : Int, wt m < wt n → -4294967296 ≤ m → m ≤ 4294967296 → CT 135 [.i .i64 m] (.s (Lib.itoa m))): CT 135 [.i .i64 n] (.s (Lib.itoa n)) := by
 refine sem_introB mixed Tryz.func135 g0 ?_
 · skip
   by_cases hl : n ≤ -10
   · obtain ⟨w1, w2, w3, w4, w5, w6⟩ := wt1 hl h1
     have e : (0 : Int) - n.tmod 10 = -(n.tmod 10) := by omega
     simp -implicitDefEqProofs (disch := omega) only [i10, e, zt hl, go_sem, simprocAttr]
     (repeat' (first | refine gT ?_ ?_ | refine gF ?_ ?_ | refine gC ?_ ?_ | ((first | (refine c_ctrE ((ih (n.tdiv 10) w1 (by omega) (by omega))) ?_ ?_; (focus (simp -implicitDefEqProofs (disch := omega) only [i10, e, zt hl, avs, avb, avi, avo, sigCells, opCells, pairCells, elT, avt, termCells_eq, go_sem, simprocAttr]; done))) | (refine c_ctrE ((ih (-(n.tmod 10)) w2 (by omega) (by omega))) ?_ ?_; (focus (simp -implicitDefEqProofs (disch := omega) only [i10, e, zt hl, avs, avb, avi, avo, sigCells, opCells, pairCells, elT, avt, termCells_eq, go_sem, simprocAttr]; done)))); simp -implicitDefEqProofs (disch := omega) only [i10, e, zt hl, go_sem, simprocAttr]) | refine And.intro (by omega) ?_ | (intro hr; have hc := hr; (try simp only [zda, zdb, zdc, zdd] at hc); simp -implicitDefEqProofs (disch := omega) only [hr, i10, e, zt hl, go_sem, simprocAttr]; (try clear hr))))
     all_goals exact ⟨by have a := itoa_len (n.tdiv 10); have b := itoa_len (-(n.tmod 10)); omega, fin_eq (congrArg AV.s (itoa_low hl).symm) rfl⟩
   by_cases hn : n < 0
   · have e : (0 : Int) - n = -n := by omega
     simp -implicitDefEqProofs (disch := omega) only [i10, e, zf hl, zt hn, go_sem, simprocAttr]
     (repeat' (first | refine gT ?_ ?_ | refine gF ?_ ?_ | refine gC ?_ ?_ | ((refine c_ctrE ((ih (-n) (by simp only [wt]; (repeat' split) <;> omega) (by omega) (by omega))) ?_ ?_; (focus (simp -implicitDefEqProofs (disch := omega) only [i10, e, zf hl, zt hn, avs, avb, avi, avo, sigCells, opCells, pairCells, elT, avt, termCells_eq, go_sem, simprocAttr]; done))); simp -implicitDefEqProofs (disch := omega) only [i10, e, zf hl, zt hn, go_sem, simprocAttr]) | refine And.intro (by omega) ?_ | (intro hr; have hc := hr; (try simp only [zda, zdb, zdc, zdd] at hc); simp -implicitDefEqProofs (disch := omega) only [hr, i10, e, zf hl, zt hn, go_sem, simprocAttr]; (try clear hr))))
     all_goals exact ⟨by have a := itoa_len (-n); omega, fin_eq (congrArg AV.s (itoa_mid hn).symm) rfl⟩
   by_cases hd : n < 10
   · simp -implicitDefEqProofs (disch := omega) only [i10, zf hl, zf hn, zt hd, go_sem, simprocAttr]
     (repeat' (first | refine gT ?_ ?_ | refine gF ?_ ?_ | refine gC ?_ ?_ | refine And.intro (by omega) ?_ | (intro hr; have hc := hr; (try simp only [zda, zdb, zdc, zdd] at hc); simp -implicitDefEqProofs (disch := omega) only [hr, i10, zf hl, zf hn, zt hd, go_sem, simprocAttr]; (try clear hr))))
     all_goals exact fin_eq (congrArg AV.s (itoa_dig (by omega) hd).symm) rfl
   · obtain ⟨w1, w2, w3, w4, w5, w6⟩ := wt2 (by omega) h2
     simp -implicitDefEqProofs (disch := omega) only [i10, zf hl, zf hn, zf hd, go_sem, simprocAttr]
     (repeat' (first | refine gT ?_ ?_ | refine gF ?_ ?_ | refine gC ?_ ?_ | ((first | (refine c_ctrE ((ih (n.tdiv 10) w1 (by omega) (by omega))) ?_ ?_; (focus (simp -implicitDefEqProofs (disch := omega) only [i10, zf hl, zf hn, zf hd, avs, avb, avi, avo, sigCells, opCells, pairCells, elT, avt, termCells_eq, go_sem, simprocAttr]; done))) | (refine c_ctrE ((ih (n.tmod 10) w2 (by omega) (by omega))) ?_ ?_; (focus (simp -implicitDefEqProofs (disch := omega) only [i10, zf hl, zf hn, zf hd, avs, avb, avi, avo, sigCells, opCells, pairCells, elT, avt, termCells_eq, go_sem, simprocAttr]; done)))); simp -implicitDefEqProofs (disch := omega) only [i10, zf hl, zf hn, zf hd, go_sem, simprocAttr]) | refine And.intro (by omega) ?_ | (intro hr; have hc := hr; (try simp only [zda, zdb, zdc, zdd] at hc); simp -implicitDefEqProofs (disch := omega) only [hr, i10, zf hl, zf hn, zf hd, go_sem, simprocAttr]; (try clear hr))))
     all_goals exact ⟨by have a := itoa_len (n.tdiv 10); have b := itoa_len (n.tmod 10); omega, fin_eq (congrArg AV.s (itoa_big (n := n) (by omega)).symm) rfl⟩
theorem ctr275 (n : Int) (h1 : -4294967296 ≤ n) (h2 : n ≤ 4294967296) : CT 135 [.i .i64 n] (.s (Lib.itoa n)) := by
 have : ∀ k, ∀ n : Int, wt n < k → -4294967296 ≤ n → n ≤ 4294967296 → CT 135 [.i .i64 n] (.s (Lib.itoa n)) := by
   intro k
   induction k with
   | zero => intro n h; omega
   | succ k ih => intro n h a b; exact ctr275_1 n a b fun m hm c d => ih m (by omega) c d
 exact this _ n (Nat.lt_succ_self _) h1 h2

abbrev nadd : Str := [97, 100, 100]
abbrev nand : Str := [97, 110, 100]
abbrev ncat : Str := [99, 97, 116]
abbrev ndel : Str := [100, 101, 108]
abbrev ndiv : Str := [100, 105, 118]
abbrev neq : Str := [101, 113]
abbrev nge : Str := [103, 101]
abbrev nget : Str := [103, 101, 116]
abbrev ngt : Str := [103, 116]
abbrev nhas : Str := [104, 97, 115]
abbrev nis : Str := [105, 115]
abbrev nisvalue : Str := [105, 115, 118, 97, 108, 117, 101]
abbrev njoin : Str := [106, 111, 105, 110]
abbrev nkeys : Str := [107, 101, 121, 115]
abbrev nle : Str := [108, 101]
abbrev nlength : Str := [108, 101, 110, 103, 116, 104]
abbrev nlt : Str := [108, 116]
abbrev nmod : Str := [109, 111, 100]
abbrev nmul : Str := [109, 117, 108]
abbrev nne : Str := [110, 101]
abbrev nneg : Str := [110, 101, 103]
abbrev nnot : Str := [110, 111, 116]
abbrev nor : Str := [111, 114]
abbrev npick : Str := [112, 105, 99, 107]
abbrev nput : Str := [112, 117, 116]
abbrev nsize : Str := [115, 105, 122, 101]
abbrev nsub : Str := [115, 117, 98]
abbrev ntext : Str := [116, 101, 120, 116]
abbrev Res := LTerm × Int
def resV (p : Res) : AV := resT p.1 p.2
attribute [go_sem] resV
def wholeV (n : Int) : Res := if isInt n then (tInt n, 0) else (tZ, 20)
theorem wholeV_eq (n : Int) : wholeR n = resV (wholeV n) := by rw [wholeR, wholeV]; split <;> rfl
theorem ctrW270 (n : Int) : CT 124 [.i .i64 n] (resV (wholeV n)) := wholeV_eq n ▸ ctr270 n
theorem ctrW295 (n : Int) : CT 172 [.i .i64 n] (resV (wholeV n)) := wholeV_eq n ▸ ctr295 n
theorem fin_res {H : List AObj} {p : Res} {k n e : Int} {t s : Str} {ks rs : List LTerm} {v4 v5 : AV} (h : p = (.mk k n t s ks rs, e)) (r4 : Rd6 H v4 ks) (r5 : Rd6 H v5 rs) : Fin H (.tup [.agg [.i .i64 k, .i .i64 n, .s t, .s s, v4, v5], .i .i64 e]) (resV p) := by
 subst h
 exact fin_tt (t := .mk k n t s ks rs) r4 r5
theorem fin_resP {H : List AObj} {p q : Res} (h : p = q) : Fin H (.tup [.agg [.i .i64 q.1.kind, .i .i64 q.1.n, .s q.1.text, .s q.1.sort, .sl (q.1.kids.flatMap termCells) q.1.kids.length, .sl (q.1.rest.flatMap termCells) q.1.rest.length], .i .i64 q.2]) (resV p) := by
 subst h
 exact fin_tt (t := p.1) rd6_sl rd6_sl
def numV (x : Str) (a b : Int) : Res :=
 if x = nadd then wholeV (a + b) else if x = nsub then wholeV (a - b) else if x = nmul then wholeV (a * b)
 else if x = nlt then (tBool (decide (a < b)), 0) else if x = nle then (tBool (decide (a ≤ b)), 0) else if x = ngt then (tBool (decide (b < a)), 0) else if x = nge then (tBool (decide (b ≤ a)), 0)
 else if b = 0 then (tZ, 21) else if x = ndiv then wholeV (flo a b) else wholeV (a - b * flo a b)
theorem mul_le {a b : Int} (h1 : isInt a = true) (h2 : isInt b = true) : -4611686018427387904 ≤ a * b ∧ a * b ≤ 4611686018427387904 := by
 simp only [isInt, Bool.and_eq_true, decide_eq_true_eq] at h1 h2
 have h : (a * b).natAbs ≤ 2147483648 * 2147483648 := by rw [Int.natAbs_mul]; exact Nat.mul_le_mul (by omega) (by omega)
 omega
theorem int_le {a : Int} (h1 : isInt a = true) : -2147483647 ≤ a ∧ a ≤ 2147483647 := by
 simpa only [isInt, Bool.and_eq_true, decide_eq_true_eq] using h1
theorem flo_rem {a b : Int} (hb : b ≠ 0) : (0 < b → 0 ≤ a - b * flo a b ∧ a - b * flo a b < b) ∧ (b < 0 → a - b * flo a b ≤ 0 ∧ b < a - b * flo a b) := by
 have e := Int.mul_tdiv_add_tmod a b
 have e2 : b * (a.tdiv b - 1) = b * a.tdiv b - b := by rw [Int.mul_sub, Int.mul_one]
 have m1 : (a.tmod b).natAbs < b.natAbs := by rw [Int.natAbs_tmod]; exact Nat.mod_lt _ (by omega)
 have m2 : 0 ≤ a → 0 ≤ a.tmod b := fun h => Int.tmod_nonneg _ h
 have m3 : a ≤ 0 → a.tmod b ≤ 0 := fun h => by
   have := Int.tmod_nonneg b (a := -a) (by omega)
   rw [Int.neg_tmod] at this; omega
 simp only [flo]
 split
 · rename_i hc
   obtain ⟨h0, hs⟩ := hc
   simp only [ne_eq, decide_eq_decide] at hs
   rw [e2]
   by_cases hb0 : b < 0
   · by_cases ha : a < 0
     · exact absurd ⟨fun _ => hb0, fun _ => ha⟩ hs
     · have := m2 (by omega); omega
   · by_cases ha : a < 0
     · have := m3 (by omega); omega
     · exact absurd ⟨fun h => absurd h ha, fun h => absurd h hb0⟩ hs
 · rename_i hc
   rw [not_and] at hc
   simp only [ne_eq, Classical.not_not, decide_eq_decide] at hc
   by_cases h0 : a.tmod b = 0
   · omega
   · have hs := hc h0
     by_cases hb0 : b < 0
     · have := m3 (by omega); omega
     · have := m2 (by omega); omega
theorem rem_int {a b : Int} (hb : b ≠ 0) (h2 : isInt b = true) : wholeV (a - b * flo a b) = (tInt (a - b * flo a b), 0) := by
 have h := flo_rem (a := a) hb
 have h2 := int_le h2
 rw [wholeV, if_pos]
 simp only [isInt, Bool.and_eq_true, decide_eq_true_eq]
 omega
theorem flo_le {a b : Int} (hb : b ≠ 0) (h1 : isInt a = true) (h2 : isInt b = true) : -4294967296 ≤ b * flo a b ∧ b * flo a b ≤ 4294967296 := by
 have h := flo_rem (a := a) hb
 have h1 := int_le h1
 have h2 := int_le h2
 omega
theorem posI {x y : Str} (h : x = y) : (x = y) = True := eq_true h
theorem ctr278_0 (x : Str) (a b : Int) (ha : isInt a = true) (hb : isInt b = true) (h0 : b = 0): CT 138 [.s x, .i .i64 a, .i .i64 b] (resV (numV x a b)) := by
 refine sem_introA mixed Tryz.func138 g0 ?_
 · generalize hR : ((resV (numV x a b)) : AV) = R
   simp -implicitDefEqProofs (disch := omega) only [Tryz.f138, go_sem, List.replicate, ↓reduceIte, reduceAdd, reduceSub, reduceMul, reduceLeDiff, reduceLT, reduceEqDiff, reduceNeg, Nat.reduceBEq]
   have h1 := int_le ha
   have h2 := int_le hb
   have h3 := mul_le ha hb
   have h5 := eq_true h0
   (repeat' (first | refine gT ?_ ?_ | refine gF ?_ ?_ | refine gC ?_ ?_ | ((first | (refine c_ctrE (ctrW295 (a + b)) ?_ ?_; (focus (simp -implicitDefEqProofs (disch := omega) only [zt h0, avs, avb, avi, avo, sigCells, opCells, pairCells, elT, avt, termCells_eq, go_sem, ↓reduceIte, reduceAdd, reduceSub, reduceMul, reduceLeDiff, reduceLT, reduceEqDiff, reduceNeg, Nat.reduceBEq]; done))) | (refine c_ctrE (ctrW295 (a - b)) ?_ ?_; (focus (simp -implicitDefEqProofs (disch := omega) only [zt h0, avs, avb, avi, avo, sigCells, opCells, pairCells, elT, avt, termCells_eq, go_sem, ↓reduceIte, reduceAdd, reduceSub, reduceMul, reduceLeDiff, reduceLT, reduceEqDiff, reduceNeg, Nat.reduceBEq]; done))) | (refine c_ctrE (ctrW295 (a * b)) ?_ ?_; (focus (simp -implicitDefEqProofs (disch := omega) only [zt h0, avs, avb, avi, avo, sigCells, opCells, pairCells, elT, avt, termCells_eq, go_sem, ↓reduceIte, reduceAdd, reduceSub, reduceMul, reduceLeDiff, reduceLT, reduceEqDiff, reduceNeg, Nat.reduceBEq]; done))) | (refine c_ctrE (ctr223 (decide (a < b))) ?_ ?_; (focus (simp -implicitDefEqProofs (disch := omega) only [zt h0, avs, avb, avi, avo, sigCells, opCells, pairCells, elT, avt, termCells_eq, go_sem, ↓reduceIte, reduceAdd, reduceSub, reduceMul, reduceLeDiff, reduceLT, reduceEqDiff, reduceNeg, Nat.reduceBEq]; done))) | (refine c_ctrE (ctr223 (decide (a ≤ b))) ?_ ?_; (focus (simp -implicitDefEqProofs (disch := omega) only [zt h0, avs, avb, avi, avo, sigCells, opCells, pairCells, elT, avt, termCells_eq, go_sem, ↓reduceIte, reduceAdd, reduceSub, reduceMul, reduceLeDiff, reduceLT, reduceEqDiff, reduceNeg, Nat.reduceBEq]; done))) | (refine c_ctrE (ctr223 (decide (b < a))) ?_ ?_; (focus (simp -implicitDefEqProofs (disch := omega) only [zt h0, avs, avb, avi, avo, sigCells, opCells, pairCells, elT, avt, termCells_eq, go_sem, ↓reduceIte, reduceAdd, reduceSub, reduceMul, reduceLeDiff, reduceLT, reduceEqDiff, reduceNeg, Nat.reduceBEq]; done))) | (refine c_ctrE (ctr223 (decide (b ≤ a))) ?_ ?_; (focus (simp -implicitDefEqProofs (disch := omega) only [zt h0, avs, avb, avi, avo, sigCells, opCells, pairCells, elT, avt, termCells_eq, go_sem, ↓reduceIte, reduceAdd, reduceSub, reduceMul, reduceLeDiff, reduceLT, reduceEqDiff, reduceNeg, Nat.reduceBEq]; done)))); simp -implicitDefEqProofs (disch := omega) only [zt h0, go_sem, ↓reduceIte, reduceAdd, reduceSub, reduceMul, reduceLeDiff, reduceLT, reduceEqDiff, reduceNeg, Nat.reduceBEq]) | refine And.intro (by omega) ?_ | (intro hr; have hc := hr; (try simp only [zda, zdb, zdc, zdd] at hc); simp -implicitDefEqProofs (disch := omega) only [hr, zt h0, go_sem, ↓reduceIte, reduceAdd, reduceSub, reduceMul, reduceLeDiff, reduceLT, reduceEqDiff, reduceNeg, Nat.reduceBEq]; (try clear hr))))
   clear h0
   all_goals subst hR
   all_goals first
     | (have ht := posI hc; clear hc; refine fin_resP ?_; simp only [numV, *, if_true, if_false]; done)
     | (have ht := posI hc; clear hc; refine fin_res ?_ (rd6_sl (l := [])) (rd6_sl (l := [])); simp only [numV, *, if_true, if_false]; done)
     | (have ht := posI hc; clear hc; refine fin_res ?_ rd6_e0 rd6_e0; simp only [numV, *, if_true, if_false]; done)
     | (refine fin_resP ?_; simp only [numV, *, if_true, if_false]; done)
     | (refine fin_res ?_ (rd6_sl (l := [])) (rd6_sl (l := [])); simp only [numV, *, if_true, if_false]; done)
     | (refine fin_res ?_ rd6_e0 rd6_e0; simp only [numV, *, if_true, if_false]; done)
theorem ctr278_1 (x : Str) (a b : Int) (ha : isInt a = true) (hb : isInt b = true) (h0 : ¬ b = 0): CT 138 [.s x, .i .i64 a, .i .i64 b] (resV (numV x a b)) := by
 refine sem_introA mixed Tryz.func138 g0 ?_
 · generalize hR : ((resV (numV x a b)) : AV) = R
   simp -implicitDefEqProofs (disch := omega) only [Tryz.f138, go_sem, List.replicate, ↓reduceIte, reduceAdd, reduceSub, reduceMul, reduceLeDiff, reduceLT, reduceEqDiff, reduceNeg, Nat.reduceBEq]
   have h1 := int_le ha
   have h2 := int_le hb
   have h3 := mul_le ha hb
   have h4 := flo_le h0 ha hb
   (repeat' (first | refine gT ?_ ?_ | refine gF ?_ ?_ | refine gC ?_ ?_ | ((first | (refine c_ctrE (ctrW295 (a + b)) ?_ ?_; (focus (simp -implicitDefEqProofs (disch := omega) only [zf h0, avs, avb, avi, avo, sigCells, opCells, pairCells, elT, avt, termCells_eq, go_sem, ↓reduceIte, reduceAdd, reduceSub, reduceMul, reduceLeDiff, reduceLT, reduceEqDiff, reduceNeg, Nat.reduceBEq]; done))) | (refine c_ctrE (ctrW295 (a - b)) ?_ ?_; (focus (simp -implicitDefEqProofs (disch := omega) only [zf h0, avs, avb, avi, avo, sigCells, opCells, pairCells, elT, avt, termCells_eq, go_sem, ↓reduceIte, reduceAdd, reduceSub, reduceMul, reduceLeDiff, reduceLT, reduceEqDiff, reduceNeg, Nat.reduceBEq]; done))) | (refine c_ctrE (ctrW295 (a * b)) ?_ ?_; (focus (simp -implicitDefEqProofs (disch := omega) only [zf h0, avs, avb, avi, avo, sigCells, opCells, pairCells, elT, avt, termCells_eq, go_sem, ↓reduceIte, reduceAdd, reduceSub, reduceMul, reduceLeDiff, reduceLT, reduceEqDiff, reduceNeg, Nat.reduceBEq]; done))) | (refine c_ctrE (ctr223 (decide (a < b))) ?_ ?_; (focus (simp -implicitDefEqProofs (disch := omega) only [zf h0, avs, avb, avi, avo, sigCells, opCells, pairCells, elT, avt, termCells_eq, go_sem, ↓reduceIte, reduceAdd, reduceSub, reduceMul, reduceLeDiff, reduceLT, reduceEqDiff, reduceNeg, Nat.reduceBEq]; done))) | (refine c_ctrE (ctr223 (decide (a ≤ b))) ?_ ?_; (focus (simp -implicitDefEqProofs (disch := omega) only [zf h0, avs, avb, avi, avo, sigCells, opCells, pairCells, elT, avt, termCells_eq, go_sem, ↓reduceIte, reduceAdd, reduceSub, reduceMul, reduceLeDiff, reduceLT, reduceEqDiff, reduceNeg, Nat.reduceBEq]; done))) | (refine c_ctrE (ctr223 (decide (b < a))) ?_ ?_; (focus (simp -implicitDefEqProofs (disch := omega) only [zf h0, avs, avb, avi, avo, sigCells, opCells, pairCells, elT, avt, termCells_eq, go_sem, ↓reduceIte, reduceAdd, reduceSub, reduceMul, reduceLeDiff, reduceLT, reduceEqDiff, reduceNeg, Nat.reduceBEq]; done))) | (refine c_ctrE (ctr223 (decide (b ≤ a))) ?_ ?_; (focus (simp -implicitDefEqProofs (disch := omega) only [zf h0, avs, avb, avi, avo, sigCells, opCells, pairCells, elT, avt, termCells_eq, go_sem, ↓reduceIte, reduceAdd, reduceSub, reduceMul, reduceLeDiff, reduceLT, reduceEqDiff, reduceNeg, Nat.reduceBEq]; done))) | (refine c_ctrE (ctr296 a b h0 (by omega) (by omega)) ?_ ?_; (focus (simp -implicitDefEqProofs (disch := omega) only [zf h0, avs, avb, avi, avo, sigCells, opCells, pairCells, elT, avt, termCells_eq, go_sem, ↓reduceIte, reduceAdd, reduceSub, reduceMul, reduceLeDiff, reduceLT, reduceEqDiff, reduceNeg, Nat.reduceBEq]; done))) | (refine c_ctrE (ctrW295 (flo a b)) ?_ ?_; (focus (simp -implicitDefEqProofs (disch := omega) only [zf h0, avs, avb, avi, avo, sigCells, opCells, pairCells, elT, avt, termCells_eq, go_sem, ↓reduceIte, reduceAdd, reduceSub, reduceMul, reduceLeDiff, reduceLT, reduceEqDiff, reduceNeg, Nat.reduceBEq]; done))) | (refine c_ctrE (ctrW295 (a - b * flo a b)) ?_ ?_; (focus (simp -implicitDefEqProofs (disch := omega) only [zf h0, avs, avb, avi, avo, sigCells, opCells, pairCells, elT, avt, termCells_eq, go_sem, ↓reduceIte, reduceAdd, reduceSub, reduceMul, reduceLeDiff, reduceLT, reduceEqDiff, reduceNeg, Nat.reduceBEq]; done)))); simp -implicitDefEqProofs (disch := omega) only [zf h0, go_sem, ↓reduceIte, reduceAdd, reduceSub, reduceMul, reduceLeDiff, reduceLT, reduceEqDiff, reduceNeg, Nat.reduceBEq]) | refine And.intro (by omega) ?_ | (intro hr; have hc := hr; (try simp only [zda, zdb, zdc, zdd] at hc); simp -implicitDefEqProofs (disch := omega) only [hr, zf h0, go_sem, ↓reduceIte, reduceAdd, reduceSub, reduceMul, reduceLeDiff, reduceLT, reduceEqDiff, reduceNeg, Nat.reduceBEq]; (try clear hr))))
   all_goals subst hR
   all_goals first
     | (have ht := posI hc; clear hc; refine fin_resP ?_; simp only [numV, *, if_true, if_false]; done)
     | (have ht := posI hc; clear hc; refine fin_res ?_ (rd6_sl (l := [])) (rd6_sl (l := [])); simp only [numV, *, if_true, if_false]; done)
     | (have ht := posI hc; clear hc; refine fin_res ?_ rd6_e0 rd6_e0; simp only [numV, *, if_true, if_false]; done)
     | (refine fin_resP ?_; simp only [numV, *, if_true, if_false]; done)
     | (refine fin_res ?_ (rd6_sl (l := [])) (rd6_sl (l := [])); simp only [numV, *, if_true, if_false]; done)
     | (refine fin_res ?_ rd6_e0 rd6_e0; simp only [numV, *, if_true, if_false]; done)
theorem ctr278 (x : Str) (a b : Int) (ha : isInt a = true) (hb : isInt b = true) : CT 138 [.s x, .i .i64 a, .i .i64 b] (resV (numV x a b)) := by
 by_cases h0 : b = 0
 · exact ctr278_0 x a b ha hb h0
 · exact ctr278_1 x a b ha hb h0
theorem ctr248n (x : Str) (t : LTerm) (hx : x = nneg) (h : isInt t.n = true): CT 76 [.s x, avt [t]] (resV (tInt (0 - t.n), 0)) := by
 refine sem_introA mixed Tryz.func76 g0 ?_
 · generalize hR : ((resV (tInt (0 - t.n), 0)) : AV) = R
   simp -implicitDefEqProofs (disch := omega) only [Tryz.f76, go_sem, List.replicate, ↓reduceIte, reduceAdd, reduceSub, reduceMul, reduceLeDiff, reduceLT, reduceEqDiff, reduceNeg, Nat.reduceBEq, avt, List.flatMap_cons, List.flatMap_nil, termCells_eq, List.cons_append, List.nil_append, List.append_nil, List.length_cons, List.length_nil, Nat.reduceAdd]
   have h1 := int_le h
   simp -implicitDefEqProofs (disch := omega) only [zt hx, go_sem, ↓reduceIte, reduceAdd, reduceSub, reduceMul, reduceLeDiff, reduceLT, reduceEqDiff, reduceNeg, Nat.reduceBEq]
   (repeat' (first | refine gT ?_ ?_ | refine gF ?_ ?_ | refine gC ?_ ?_ | ((first | (refine c_ctrE (ctr267 (0 - t.n)) ?_ ?_; (focus (simp -implicitDefEqProofs (disch := omega) only [zt hx, avs, avb, avi, avo, sigCells, opCells, pairCells, elT, avt, termCells_eq, go_sem, ↓reduceIte, reduceAdd, reduceSub, reduceMul, reduceLeDiff, reduceLT, reduceEqDiff, reduceNeg, Nat.reduceBEq]; done))) | (refine c_ctrE (ctr262 (tInt (0 - t.n))) ?_ ?_; (focus (simp -implicitDefEqProofs (disch := omega) only [zt hx, avs, avb, avi, avo, sigCells, opCells, pairCells, elT, avt, termCells_eq, go_sem, ↓reduceIte, reduceAdd, reduceSub, reduceMul, reduceLeDiff, reduceLT, reduceEqDiff, reduceNeg, Nat.reduceBEq]; done)))); simp -implicitDefEqProofs (disch := omega) only [zt hx, go_sem, ↓reduceIte, reduceAdd, reduceSub, reduceMul, reduceLeDiff, reduceLT, reduceEqDiff, reduceNeg, Nat.reduceBEq]) | refine And.intro (by omega) ?_ | (intro hr; have hc := hr; (try simp only [zda, zdb, zdc, zdd] at hc); simp -implicitDefEqProofs (disch := omega) only [hr, zt hx, go_sem, ↓reduceIte, reduceAdd, reduceSub, reduceMul, reduceLeDiff, reduceLT, reduceEqDiff, reduceNeg, Nat.reduceBEq]; (try clear hr))))
   subst hR
   exact fin_res rfl (rd6_sl (l := [])) (rd6_sl (l := []))
theorem ctr248t (x : Str) (t : LTerm) (hx : x = ntext) (h : isInt t.n = true): CT 76 [.s x, avt [t]] (resV (tText (Lib.itoa t.n), 0)) := by
 refine sem_introA mixed Tryz.func76 g0 ?_
 · generalize hR : ((resV (tText (Lib.itoa t.n), 0)) : AV) = R
   simp -implicitDefEqProofs (disch := omega) only [Tryz.f76, go_sem, List.replicate, ↓reduceIte, reduceAdd, reduceSub, reduceMul, reduceLeDiff, reduceLT, reduceEqDiff, reduceNeg, Nat.reduceBEq, avt, List.flatMap_cons, List.flatMap_nil, termCells_eq, List.cons_append, List.nil_append, List.append_nil, List.length_cons, List.length_nil, Nat.reduceAdd]
   have h1 := int_le h
   have hy : ¬ x = nneg := by rw [hx]; decide
   simp -implicitDefEqProofs (disch := omega) only [zf hy, zt hx, go_sem, ↓reduceIte, reduceAdd, reduceSub, reduceMul, reduceLeDiff, reduceLT, reduceEqDiff, reduceNeg, Nat.reduceBEq]
   (repeat' (first | refine gT ?_ ?_ | refine gF ?_ ?_ | refine gC ?_ ?_ | ((first | (refine c_ctrE (ctr269 t.n (by omega) (by omega)) ?_ ?_; (focus (simp -implicitDefEqProofs (disch := omega) only [zf hy, zt hx, avs, avb, avi, avo, sigCells, opCells, pairCells, elT, avt, termCells_eq, go_sem, ↓reduceIte, reduceAdd, reduceSub, reduceMul, reduceLeDiff, reduceLT, reduceEqDiff, reduceNeg, Nat.reduceBEq]; done))) | (refine c_ctrE (ctr266 (Lib.itoa t.n)) ?_ ?_; (focus (simp -implicitDefEqProofs (disch := omega) only [zf hy, zt hx, avs, avb, avi, avo, sigCells, opCells, pairCells, elT, avt, termCells_eq, go_sem, ↓reduceIte, reduceAdd, reduceSub, reduceMul, reduceLeDiff, reduceLT, reduceEqDiff, reduceNeg, Nat.reduceBEq]; done))) | (refine c_ctrE (ctr262 (tText (Lib.itoa t.n))) ?_ ?_; (focus (simp -implicitDefEqProofs (disch := omega) only [zf hy, zt hx, avs, avb, avi, avo, sigCells, opCells, pairCells, elT, avt, termCells_eq, go_sem, ↓reduceIte, reduceAdd, reduceSub, reduceMul, reduceLeDiff, reduceLT, reduceEqDiff, reduceNeg, Nat.reduceBEq]; done)))); simp -implicitDefEqProofs (disch := omega) only [zf hy, zt hx, go_sem, ↓reduceIte, reduceAdd, reduceSub, reduceMul, reduceLeDiff, reduceLT, reduceEqDiff, reduceNeg, Nat.reduceBEq]) | refine And.intro (by omega) ?_ | (intro hr; have hc := hr; (try simp only [zda, zdb, zdc, zdd] at hc); simp -implicitDefEqProofs (disch := omega) only [hr, zf hy, zt hx, go_sem, ↓reduceIte, reduceAdd, reduceSub, reduceMul, reduceLeDiff, reduceLT, reduceEqDiff, reduceNeg, Nat.reduceBEq]; (try clear hr))))
   subst hR
   exact fin_res rfl (rd6_sl (l := [])) (rd6_sl (l := []))
theorem ctr248_0 (x : Str) (t u : LTerm) (hx : ¬ x = nneg) (hy : ¬ x = ntext) (ha : isInt t.n = true) (hb : isInt u.n = true) (h0 : u.n = 0): CT 76 [.s x, avt [t, u]] (resV (numV x t.n u.n)) := by
 refine sem_introA mixed Tryz.func76 g0 ?_
 · generalize hR : ((resV (numV x t.n u.n)) : AV) = R
   simp -implicitDefEqProofs (disch := omega) only [Tryz.f76, go_sem, List.replicate, ↓reduceIte, reduceAdd, reduceSub, reduceMul, reduceLeDiff, reduceLT, reduceEqDiff, reduceNeg, Nat.reduceBEq, avt, List.flatMap_cons, List.flatMap_nil, termCells_eq, List.cons_append, List.nil_append, List.append_nil, List.length_cons, List.length_nil, Nat.reduceAdd]
   have h1 := int_le ha
   have h2 := int_le hb
   have h3 := mul_le ha hb
   have h5 := eq_true h0
   generalize t.n = a at *
   generalize u.n = b at *
   simp -implicitDefEqProofs (disch := omega) only [zf hx, zf hy, zt h0, go_sem, ↓reduceIte, reduceAdd, reduceSub, reduceMul, reduceLeDiff, reduceLT, reduceEqDiff, reduceNeg, Nat.reduceBEq]
   (repeat' (first | refine gT ?_ ?_ | refine gF ?_ ?_ | refine gC ?_ ?_ | ((first | (refine c_ctrE (ctrW270 (a + b)) ?_ ?_; (focus (simp -implicitDefEqProofs (disch := omega) only [zf hx, zf hy, zt h0, avs, avb, avi, avo, sigCells, opCells, pairCells, elT, avt, termCells_eq, go_sem, ↓reduceIte, reduceAdd, reduceSub, reduceMul, reduceLeDiff, reduceLT, reduceEqDiff, reduceNeg, Nat.reduceBEq]; done))) | (refine c_ctrE (ctrW270 (a - b)) ?_ ?_; (focus (simp -implicitDefEqProofs (disch := omega) only [zf hx, zf hy, zt h0, avs, avb, avi, avo, sigCells, opCells, pairCells, elT, avt, termCells_eq, go_sem, ↓reduceIte, reduceAdd, reduceSub, reduceMul, reduceLeDiff, reduceLT, reduceEqDiff, reduceNeg, Nat.reduceBEq]; done))) | (refine c_ctrE (ctrW270 (a * b)) ?_ ?_; (focus (simp -implicitDefEqProofs (disch := omega) only [zf hx, zf hy, zt h0, avs, avb, avi, avo, sigCells, opCells, pairCells, elT, avt, termCells_eq, go_sem, ↓reduceIte, reduceAdd, reduceSub, reduceMul, reduceLeDiff, reduceLT, reduceEqDiff, reduceNeg, Nat.reduceBEq]; done))) | (refine c_ctrE (ctr263 (decide (a < b))) ?_ ?_; (focus (simp -implicitDefEqProofs (disch := omega) only [zf hx, zf hy, zt h0, avs, avb, avi, avo, sigCells, opCells, pairCells, elT, avt, termCells_eq, go_sem, ↓reduceIte, reduceAdd, reduceSub, reduceMul, reduceLeDiff, reduceLT, reduceEqDiff, reduceNeg, Nat.reduceBEq]; done))) | (refine c_ctrE (ctr263 (decide (a ≤ b))) ?_ ?_; (focus (simp -implicitDefEqProofs (disch := omega) only [zf hx, zf hy, zt h0, avs, avb, avi, avo, sigCells, opCells, pairCells, elT, avt, termCells_eq, go_sem, ↓reduceIte, reduceAdd, reduceSub, reduceMul, reduceLeDiff, reduceLT, reduceEqDiff, reduceNeg, Nat.reduceBEq]; done))) | (refine c_ctrE (ctr263 (decide (b < a))) ?_ ?_; (focus (simp -implicitDefEqProofs (disch := omega) only [zf hx, zf hy, zt h0, avs, avb, avi, avo, sigCells, opCells, pairCells, elT, avt, termCells_eq, go_sem, ↓reduceIte, reduceAdd, reduceSub, reduceMul, reduceLeDiff, reduceLT, reduceEqDiff, reduceNeg, Nat.reduceBEq]; done))) | (refine c_ctrE (ctr263 (decide (b ≤ a))) ?_ ?_; (focus (simp -implicitDefEqProofs (disch := omega) only [zf hx, zf hy, zt h0, avs, avb, avi, avo, sigCells, opCells, pairCells, elT, avt, termCells_eq, go_sem, ↓reduceIte, reduceAdd, reduceSub, reduceMul, reduceLeDiff, reduceLT, reduceEqDiff, reduceNeg, Nat.reduceBEq]; done))) | (refine c_ctrE (ctr262 (tBool (decide (a < b)))) ?_ ?_; (focus (simp -implicitDefEqProofs (disch := omega) only [zf hx, zf hy, zt h0, avs, avb, avi, avo, sigCells, opCells, pairCells, elT, avt, termCells_eq, go_sem, ↓reduceIte, reduceAdd, reduceSub, reduceMul, reduceLeDiff, reduceLT, reduceEqDiff, reduceNeg, Nat.reduceBEq]; done))) | (refine c_ctrE (ctr262 (tBool (decide (a ≤ b)))) ?_ ?_; (focus (simp -implicitDefEqProofs (disch := omega) only [zf hx, zf hy, zt h0, avs, avb, avi, avo, sigCells, opCells, pairCells, elT, avt, termCells_eq, go_sem, ↓reduceIte, reduceAdd, reduceSub, reduceMul, reduceLeDiff, reduceLT, reduceEqDiff, reduceNeg, Nat.reduceBEq]; done))) | (refine c_ctrE (ctr262 (tBool (decide (b < a)))) ?_ ?_; (focus (simp -implicitDefEqProofs (disch := omega) only [zf hx, zf hy, zt h0, avs, avb, avi, avo, sigCells, opCells, pairCells, elT, avt, termCells_eq, go_sem, ↓reduceIte, reduceAdd, reduceSub, reduceMul, reduceLeDiff, reduceLT, reduceEqDiff, reduceNeg, Nat.reduceBEq]; done))) | (refine c_ctrE (ctr262 (tBool (decide (b ≤ a)))) ?_ ?_; (focus (simp -implicitDefEqProofs (disch := omega) only [zf hx, zf hy, zt h0, avs, avb, avi, avo, sigCells, opCells, pairCells, elT, avt, termCells_eq, go_sem, ↓reduceIte, reduceAdd, reduceSub, reduceMul, reduceLeDiff, reduceLT, reduceEqDiff, reduceNeg, Nat.reduceBEq]; done)))); simp -implicitDefEqProofs (disch := omega) only [zf hx, zf hy, zt h0, go_sem, ↓reduceIte, reduceAdd, reduceSub, reduceMul, reduceLeDiff, reduceLT, reduceEqDiff, reduceNeg, Nat.reduceBEq]) | refine And.intro (by omega) ?_ | (intro hr; have hc := hr; (try simp only [zda, zdb, zdc, zdd] at hc); simp -implicitDefEqProofs (disch := omega) only [hr, zf hx, zf hy, zt h0, go_sem, ↓reduceIte, reduceAdd, reduceSub, reduceMul, reduceLeDiff, reduceLT, reduceEqDiff, reduceNeg, Nat.reduceBEq]; (try clear hr))))
   clear h0
   all_goals subst hR
   all_goals first
     | (have ht := posI hc; clear hc; refine fin_resP ?_; simp only [numV, *, if_true, if_false]; done)
     | (have ht := posI hc; clear hc; refine fin_res ?_ (rd6_sl (l := [])) (rd6_sl (l := [])); simp only [numV, *, if_true, if_false]; done)
     | (have ht := posI hc; clear hc; refine fin_res ?_ rd6_e0 rd6_e0; simp only [numV, *, if_true, if_false]; done)
     | (refine fin_resP ?_; simp only [numV, *, if_true, if_false]; done)
     | (refine fin_res ?_ (rd6_sl (l := [])) (rd6_sl (l := [])); simp only [numV, *, if_true, if_false]; done)
     | (refine fin_res ?_ rd6_e0 rd6_e0; simp only [numV, *, if_true, if_false]; done)
theorem ctr248_1 (x : Str) (t u : LTerm) (hx : ¬ x = nneg) (hy : ¬ x = ntext) (ha : isInt t.n = true) (hb : isInt u.n = true) (h0 : ¬ u.n = 0): CT 76 [.s x, avt [t, u]] (resV (numV x t.n u.n)) := by
 refine sem_introA mixed Tryz.func76 g0 ?_
 · generalize hR : ((resV (numV x t.n u.n)) : AV) = R
   simp -implicitDefEqProofs (disch := omega) only [Tryz.f76, go_sem, List.replicate, ↓reduceIte, reduceAdd, reduceSub, reduceMul, reduceLeDiff, reduceLT, reduceEqDiff, reduceNeg, Nat.reduceBEq, avt, List.flatMap_cons, List.flatMap_nil, termCells_eq, List.cons_append, List.nil_append, List.append_nil, List.length_cons, List.length_nil, Nat.reduceAdd]
   have h1 := int_le ha
   have h2 := int_le hb
   have h3 := mul_le ha hb
   have h4 := flo_le h0 ha hb
   have h6 := rem_int (a := t.n) h0 hb
   generalize t.n = a at *
   generalize u.n = b at *
   simp -implicitDefEqProofs (disch := omega) only [zf hx, zf hy, zf h0, go_sem, ↓reduceIte, reduceAdd, reduceSub, reduceMul, reduceLeDiff, reduceLT, reduceEqDiff, reduceNeg, Nat.reduceBEq]
   (repeat' (first | refine gT ?_ ?_ | refine gF ?_ ?_ | refine gC ?_ ?_ | ((first | (refine c_ctrE (ctrW270 (a + b)) ?_ ?_; (focus (simp -implicitDefEqProofs (disch := omega) only [zf hx, zf hy, zf h0, avs, avb, avi, avo, sigCells, opCells, pairCells, elT, avt, termCells_eq, go_sem, ↓reduceIte, reduceAdd, reduceSub, reduceMul, reduceLeDiff, reduceLT, reduceEqDiff, reduceNeg, Nat.reduceBEq]; done))) | (refine c_ctrE (ctrW270 (a - b)) ?_ ?_; (focus (simp -implicitDefEqProofs (disch := omega) only [zf hx, zf hy, zf h0, avs, avb, avi, avo, sigCells, opCells, pairCells, elT, avt, termCells_eq, go_sem, ↓reduceIte, reduceAdd, reduceSub, reduceMul, reduceLeDiff, reduceLT, reduceEqDiff, reduceNeg, Nat.reduceBEq]; done))) | (refine c_ctrE (ctrW270 (a * b)) ?_ ?_; (focus (simp -implicitDefEqProofs (disch := omega) only [zf hx, zf hy, zf h0, avs, avb, avi, avo, sigCells, opCells, pairCells, elT, avt, termCells_eq, go_sem, ↓reduceIte, reduceAdd, reduceSub, reduceMul, reduceLeDiff, reduceLT, reduceEqDiff, reduceNeg, Nat.reduceBEq]; done))) | (refine c_ctrE (ctr263 (decide (a < b))) ?_ ?_; (focus (simp -implicitDefEqProofs (disch := omega) only [zf hx, zf hy, zf h0, avs, avb, avi, avo, sigCells, opCells, pairCells, elT, avt, termCells_eq, go_sem, ↓reduceIte, reduceAdd, reduceSub, reduceMul, reduceLeDiff, reduceLT, reduceEqDiff, reduceNeg, Nat.reduceBEq]; done))) | (refine c_ctrE (ctr263 (decide (a ≤ b))) ?_ ?_; (focus (simp -implicitDefEqProofs (disch := omega) only [zf hx, zf hy, zf h0, avs, avb, avi, avo, sigCells, opCells, pairCells, elT, avt, termCells_eq, go_sem, ↓reduceIte, reduceAdd, reduceSub, reduceMul, reduceLeDiff, reduceLT, reduceEqDiff, reduceNeg, Nat.reduceBEq]; done))) | (refine c_ctrE (ctr263 (decide (b < a))) ?_ ?_; (focus (simp -implicitDefEqProofs (disch := omega) only [zf hx, zf hy, zf h0, avs, avb, avi, avo, sigCells, opCells, pairCells, elT, avt, termCells_eq, go_sem, ↓reduceIte, reduceAdd, reduceSub, reduceMul, reduceLeDiff, reduceLT, reduceEqDiff, reduceNeg, Nat.reduceBEq]; done))) | (refine c_ctrE (ctr263 (decide (b ≤ a))) ?_ ?_; (focus (simp -implicitDefEqProofs (disch := omega) only [zf hx, zf hy, zf h0, avs, avb, avi, avo, sigCells, opCells, pairCells, elT, avt, termCells_eq, go_sem, ↓reduceIte, reduceAdd, reduceSub, reduceMul, reduceLeDiff, reduceLT, reduceEqDiff, reduceNeg, Nat.reduceBEq]; done))) | (refine c_ctrE (ctr262 (tBool (decide (a < b)))) ?_ ?_; (focus (simp -implicitDefEqProofs (disch := omega) only [zf hx, zf hy, zf h0, avs, avb, avi, avo, sigCells, opCells, pairCells, elT, avt, termCells_eq, go_sem, ↓reduceIte, reduceAdd, reduceSub, reduceMul, reduceLeDiff, reduceLT, reduceEqDiff, reduceNeg, Nat.reduceBEq]; done))) | (refine c_ctrE (ctr262 (tBool (decide (a ≤ b)))) ?_ ?_; (focus (simp -implicitDefEqProofs (disch := omega) only [zf hx, zf hy, zf h0, avs, avb, avi, avo, sigCells, opCells, pairCells, elT, avt, termCells_eq, go_sem, ↓reduceIte, reduceAdd, reduceSub, reduceMul, reduceLeDiff, reduceLT, reduceEqDiff, reduceNeg, Nat.reduceBEq]; done))) | (refine c_ctrE (ctr262 (tBool (decide (b < a)))) ?_ ?_; (focus (simp -implicitDefEqProofs (disch := omega) only [zf hx, zf hy, zf h0, avs, avb, avi, avo, sigCells, opCells, pairCells, elT, avt, termCells_eq, go_sem, ↓reduceIte, reduceAdd, reduceSub, reduceMul, reduceLeDiff, reduceLT, reduceEqDiff, reduceNeg, Nat.reduceBEq]; done))) | (refine c_ctrE (ctr262 (tBool (decide (b ≤ a)))) ?_ ?_; (focus (simp -implicitDefEqProofs (disch := omega) only [zf hx, zf hy, zf h0, avs, avb, avi, avo, sigCells, opCells, pairCells, elT, avt, termCells_eq, go_sem, ↓reduceIte, reduceAdd, reduceSub, reduceMul, reduceLeDiff, reduceLT, reduceEqDiff, reduceNeg, Nat.reduceBEq]; done))) | (refine c_ctrE (ctr271 a b h0 (by omega) (by omega)) ?_ ?_; (focus (simp -implicitDefEqProofs (disch := omega) only [zf hx, zf hy, zf h0, avs, avb, avi, avo, sigCells, opCells, pairCells, elT, avt, termCells_eq, go_sem, ↓reduceIte, reduceAdd, reduceSub, reduceMul, reduceLeDiff, reduceLT, reduceEqDiff, reduceNeg, Nat.reduceBEq]; done))) | (refine c_ctrE (ctrW270 (flo a b)) ?_ ?_; (focus (simp -implicitDefEqProofs (disch := omega) only [zf hx, zf hy, zf h0, avs, avb, avi, avo, sigCells, opCells, pairCells, elT, avt, termCells_eq, go_sem, ↓reduceIte, reduceAdd, reduceSub, reduceMul, reduceLeDiff, reduceLT, reduceEqDiff, reduceNeg, Nat.reduceBEq]; done))) | (refine c_ctrE (ctr267 (a - b * flo a b)) ?_ ?_; (focus (simp -implicitDefEqProofs (disch := omega) only [zf hx, zf hy, zf h0, avs, avb, avi, avo, sigCells, opCells, pairCells, elT, avt, termCells_eq, go_sem, ↓reduceIte, reduceAdd, reduceSub, reduceMul, reduceLeDiff, reduceLT, reduceEqDiff, reduceNeg, Nat.reduceBEq]; done))) | (refine c_ctrE (ctr262 (tInt (a - b * flo a b))) ?_ ?_; (focus (simp -implicitDefEqProofs (disch := omega) only [zf hx, zf hy, zf h0, avs, avb, avi, avo, sigCells, opCells, pairCells, elT, avt, termCells_eq, go_sem, ↓reduceIte, reduceAdd, reduceSub, reduceMul, reduceLeDiff, reduceLT, reduceEqDiff, reduceNeg, Nat.reduceBEq]; done)))); simp -implicitDefEqProofs (disch := omega) only [zf hx, zf hy, zf h0, go_sem, ↓reduceIte, reduceAdd, reduceSub, reduceMul, reduceLeDiff, reduceLT, reduceEqDiff, reduceNeg, Nat.reduceBEq]) | refine And.intro (by omega) ?_ | (intro hr; have hc := hr; (try simp only [zda, zdb, zdc, zdd] at hc); simp -implicitDefEqProofs (disch := omega) only [hr, zf hx, zf hy, zf h0, go_sem, ↓reduceIte, reduceAdd, reduceSub, reduceMul, reduceLeDiff, reduceLT, reduceEqDiff, reduceNeg, Nat.reduceBEq]; (try clear hr))))
   all_goals subst hR
   all_goals first
     | (have ht := posI hc; clear hc; refine fin_resP ?_; simp only [numV, *, if_true, if_false]; done)
     | (have ht := posI hc; clear hc; refine fin_res ?_ (rd6_sl (l := [])) (rd6_sl (l := [])); simp only [numV, *, if_true, if_false]; done)
     | (have ht := posI hc; clear hc; refine fin_res ?_ rd6_e0 rd6_e0; simp only [numV, *, if_true, if_false]; done)
     | (refine fin_resP ?_; simp only [numV, *, if_true, if_false]; done)
     | (refine fin_res ?_ (rd6_sl (l := [])) (rd6_sl (l := [])); simp only [numV, *, if_true, if_false]; done)
     | (refine fin_res ?_ rd6_e0 rd6_e0; simp only [numV, *, if_true, if_false]; done)
theorem ctr248 (x : Str) (t u : LTerm) (hx : ¬ x = nneg) (hy : ¬ x = ntext) (ha : isInt t.n = true) (hb : isInt u.n = true) : CT 76 [.s x, avt [t, u]] (resV (numV x t.n u.n)) := by
 by_cases h0 : u.n = 0
 · exact ctr248_0 x t u hx hy ha hb h0
 · exact ctr248_1 x t u hx hy ha hb h0

theorem neT_3 : (27 : Nat) ≠ 3 := by decide
theorem capT {h : List AObj} : abuiltin Tryz.prog h .cap #[27] [.e0] = some (.i .i64 0, h) := cap_e0 un27
theorem appZT {dr : Option Nat} {d : Option Nat} {os : List AOper} {K : List AV → List AObj → Prop} {env : List AV} {h : List AObj} {s x : Operand} : runOp Tryz.prog G0 dr (.call ⟨.builtin .append, #[s, x], #[27, 3]⟩) d os K env h = zerosC Tryz.prog G0 dr (Tryz.prog.underlying 3) (azeros Tryz.prog h 27 (aev G0 env s) (aev G0 env x)) d os K env := r_appendZ neT_3
attribute [go_sem] capT
attribute [go_sem ↓] appZT
theorem ctr286 (n : Nat) (hn : n ≤ 1000000): CT 156 [.e0, .i .i64 n] (.own 6 [] 0) := by
 refine sem_introB mixed Tryz.func156 g0 ?_
 · skip
   (repeat' (first | refine gT ?_ ?_ | refine gF ?_ ?_ | refine gC ?_ ?_ | refine And.intro (by omega) ?_ | (intro hr; have hc := hr; (try simp only [zda, zdb, zdc, zdd] at hc); simp -implicitDefEqProofs (disch := omega) only [hr, go_sem, simprocAttr]; (try clear hr))))
   · exfalso; omega
   · rw [if_pos (by omega), if_neg (by omega)]
     simp -implicitDefEqProofs (disch := omega) only [go_sem, simprocAttr]
     refine ⟨by simp [List.length_flatten], ?_⟩
     exact .inr ⟨⟨rfl, rfl, _, rfl, by simp, by simp, rfl⟩, by simp [finIds], by simp [finIds, finRch]⟩
   · exact .inr ⟨⟨rfl, rfl⟩, by simp [finIds], by simp [finIds]⟩
theorem map_avt_get {l : List (List LTerm)} {k : Nat} (h : k < l.length) : (l.map avt)[k]? = some (avt (l.getD k [])) := by simp [h]
theorem persL_avts {l : List (List LTerm)} : persL (l.map avt) = true := by
 induction l with
 | nil => rfl
 | cons x l ih => simp [persL, ih, pers_avt]
attribute [go_sem] map_avt_get persL_avts
def sumT (l : List (List LTerm)) : Nat := l.flatten.length
@[simp] theorem sumT_nil : sumT [] = 0 := rfl
theorem sumT_succ {l : List (List LTerm)} {k : Nat} (h : k < l.length) : sumT (l.take (k + 1)) = sumT (l.take k) + (l.getD k []).length := by
 rw [take_getD (d := []) h]; simp [sumT]
theorem sumT_le {l : List (List LTerm)} {k : Nat} : sumT (l.take k) ≤ sumT l := by
 have h : (l.take k ++ l.drop k).flatten.length = l.flatten.length := by rw [List.take_append_drop]
 unfold sumT
 rw [List.flatten_append, List.length_append] at h
 omega
theorem sumT_at {l : List (List LTerm)} {k : Nat} (h : k < l.length) : sumT (l.take k) + (l.getD k []).length ≤ sumT l := by
 rw [← sumT_succ h]; exact sumT_le
theorem ctr268 (l : List (List LTerm)) (hl : l.length ≤ 1000) (hs : sumT l ≤ 1000000): CT 121 [.sl (l.map avt) l.length] (avt l.flatten) := by
 refine sem_introB mixed Tryz.func121 g0 ?_
 · skip
   refine x_loopJ (fun (k : Nat) => [.k, .k, .k, .v (.i .i64 (sumT (l.take k) : Nat)), .k, .j, .k, .k, .k, .k, .k, .v (.i .i64 k), .j, .j, .j, .j, .j, .j, .j, .j, .j, .j, .j, .k, .k, .k, .k, .k, .k, .k, .k, .k, .k, .k, .k, .k]) (fun k => []) (fun k => k ≤ l.length) (fun k => l.length - k) (0) (Nat.zero_le _) rfl (by simp [Fits]) ?_
   rintro k j hk
   have hat : k < l.length → sumT (l.take k) + (l.getD k []).length ≤ sumT l := sumT_at
   have hkk := sumT_le (l := l) (k := k)
   simp -implicitDefEqProofs (disch := omega) only [go_sem, simprocAttr]
   (repeat' (first | refine gT ?_ ?_ | refine gF ?_ ?_ | refine gC ?_ ?_ | refine And.intro (by omega) ?_ | (intro hr; have hc := hr; (try simp only [zda, zdb, zdc, zdd] at hc); simp -implicitDefEqProofs (disch := omega) only [hr, go_sem, simprocAttr]; (try clear hr))))
   · exfalso; omega
   · refine ⟨k + 1, by omega, by omega, ?_, by simp⟩
     rw [sumT_succ (by omega)]; simp
   · have h1 : k = l.length := by omega
     subst h1
     refine c_ctr0 (ctr286 (sumT l) (by omega)) (by simp -implicitDefEqProofs (disch := omega) only [snap0, go_sem, simprocAttr]) ?_
     simp -implicitDefEqProofs (disch := omega) only [go_sem, simprocAttr]
     refine x_loopJ (fun (t : Nat × AV × List AObj) => [.k, .k, .k, .k, .k, .k, .v (t.2.1), .k, .j, .k, .k, .k, .k, .k, .k, .k, .k, .k, .k, .k, .k, .k, .k, .k, .k, .k, .k, .v (.i .i64 (t.1 : Nat)), .j, .j, .j, .j, .j, .j, .j, .k]) (fun t => t.2.2) (fun t => t.1 ≤ l.length ∧ OutIs 6 0 t.2.2 t.2.1 ((l.take t.1).flatten.flatMap termCells) (sumT (l.take t.1))) (fun t => l.length - t.1) ((0, .hs 0 0 0 false, [.arr false 6 []])) ⟨Nat.zero_le _, .inr ⟨0, rfl, rfl, rfl⟩⟩ rfl (by simp [Fits]) ?_
     rintro ⟨k, out, g⟩ j ⟨hk, ho⟩
     dsimp only at hk ho
     have hat : k < l.length → sumT (l.take k) + (l.getD k []).length ≤ sumT l := sumT_at
     simp -implicitDefEqProofs (disch := omega) only [go_sem, simprocAttr]
     (repeat' (first | refine gT ?_ ?_ | refine gF ?_ ?_ | refine gC ?_ ?_ | refine And.intro (by omega) ?_ | (intro hr; have hc := hr; (try simp only [zda, zdb, zdc, zdd] at hc); simp -implicitDefEqProofs (disch := omega) only [hr, go_sem, simprocAttr]; (try clear hr))))
     · refine app_intro' (more := []) (pre := []) (news := (l.getD k []).flatMap termCells) (m := (l.getD k []).length) ho rfl (by simp) el27 zo32 sz32 by32 rfl (by decide) (by simp -implicitDefEqProofs (disch := omega) only [go_sem, simprocAttr]) (by simp -implicitDefEqProofs (disch := omega) only [go_sem, simprocAttr]) ⟨by omega, by omega⟩ ?_
       intro out' g' ho' _
       simp -implicitDefEqProofs (disch := omega) only [go_sem, simprocAttr]
       refine ⟨(k + 1, out', g'), ⟨by omega, ?_⟩, by simp; omega, rfl, by simp⟩
       dsimp only
       rw [sumT_succ (by omega), take_getD (d := []) (by omega), List.flatten_append, List.flatMap_append]
       simpa using ho'
     · have h1 : k = l.length := by omega
       subst h1
       rw [List.take_length] at ho
       exact fin_rd (out_rd ho rfl)

abbrev Ent := LTerm × LTerm
def flat (es : List Ent) : List LTerm := es.flatMap fun e => [e.1, e.2]
theorem flat_cons {e : Ent} {es : List Ent} : flat (e :: es) = e.1 :: e.2 :: flat es := rfl
theorem flat_nil : flat [] = [] := rfl
theorem flat_append {a b : List Ent} : flat (a ++ b) = flat a ++ flat b := List.flatMap_append
theorem flat_len {es : List Ent} : (flat es).length = 2 * es.length := by
 induction es with
 | nil => rfl
 | cons e es ih => rw [flat_cons, List.length_cons, List.length_cons, ih, List.length_cons]; omega
theorem flat_key {es : List Ent} : ∀ {i : Nat}, i < es.length → (flat es).getD (2 * i) default = (es.getD i default).1 := by
 induction es with
 | nil => intro i h; cases h
 | cons e es ih =>
   intro i h
   cases i with
   | zero => rfl
   | succ i => rw [flat_cons, show 2 * (i + 1) = 2 * i + 1 + 1 by omega, List.getD_cons_succ, List.getD_cons_succ, ih (by simpa using h), List.getD_cons_succ]
theorem flat_val {es : List Ent} : ∀ {i : Nat}, i < es.length → (flat es).getD (2 * i + 1) default = (es.getD i default).2 := by
 induction es with
 | nil => intro i h; cases h
 | cons e es ih =>
   intro i h
   cases i with
   | zero => rfl
   | succ i => rw [flat_cons, show 2 * (i + 1) + 1 = (2 * i + 1) + 1 + 1 by omega, List.getD_cons_succ, List.getD_cons_succ, ih (by simpa using h), List.getD_cons_succ]
theorem flat_take {es : List Ent} : ∀ {i : Nat}, (flat es).take (2 * i) = flat (es.take i) := by
 induction es with
 | nil => intro i; simp [flat]
 | cons e es ih =>
   intro i
   cases i with
   | zero => simp [flat]
   | succ i => rw [flat_cons, show 2 * (i + 1) = 2 * i + 1 + 1 by omega, List.take_succ_cons, List.take_succ_cons, ih, List.take_succ_cons, flat_cons]
theorem flat_drop {es : List Ent} : ∀ {i : Nat}, (flat es).drop (2 * i) = flat (es.drop i) := by
 induction es with
 | nil => intro i; simp [flat]
 | cons e es ih =>
   intro i
   cases i with
   | zero => simp
   | succ i => rw [flat_cons, show 2 * (i + 1) = 2 * i + 1 + 1 by omega, List.drop_succ_cons, List.drop_succ_cons, ih, List.drop_succ_cons]
theorem flat_ex : ∀ {l : List LTerm}, l.length % 2 = 0 → ∃ es, l = flat es
 | [], _ => ⟨[], rfl⟩
 | [a], h => by simp at h
 | a :: b :: l, h => by
   obtain ⟨es, rfl⟩ := flat_ex (l := l) (by simp only [List.length_cons] at h; omega)
   exact ⟨(a, b) :: es, rfl⟩
theorem flat_mem {es : List Ent} {x : LTerm} : x ∈ flat es ↔ ∃ e ∈ es, x = e.1 ∨ x = e.2 := by
 simp [flat]
def posK (k : LTerm) : List Ent → Nat
 | [] => 0
 | e :: l => if ordP e.1 k < 0 then posK k l + 1 else 0
def hasK (k : LTerm) : List Ent → Bool
 | [] => false
 | e :: l => if ordP e.1 k < 0 then hasK k l else decide (ordP e.1 k = 0)
theorem pos_at {k : LTerm} : ∀ {es : List Ent} {i : Nat}, i < es.length → (∀ j, j < i → ordP (es.getD j default).1 k < 0) → 0 ≤ ordP (es.getD i default).1 k → posK k es = i ∧ hasK k es = decide (ordP (es.getD i default).1 k = 0)
 | [], i, h, _, _ => by cases h
 | e :: es, 0, _, _, h0 => by
   simp only [List.getD_cons_zero] at h0 ⊢
   rw [posK, hasK, if_neg (by omega), if_neg (by omega)]; exact ⟨rfl, rfl⟩
 | e :: es, i + 1, h, ha, h0 => by
   have h1 := ha 0 (by omega)
   simp only [List.getD_cons_zero] at h1
   have h2 := pos_at (es := es) (i := i) (by simpa using h) (fun j hj => by have := ha (j + 1) (by omega); simpa using this) (by simpa using h0)
   rw [posK, hasK, if_pos h1, if_pos h1, h2.1, h2.2, List.getD_cons_succ]; exact ⟨rfl, rfl⟩
theorem pos_end {k : LTerm} : ∀ {es : List Ent}, (∀ j, j < es.length → ordP (es.getD j default).1 k < 0) → posK k es = es.length ∧ hasK k es = false
 | [], _ => ⟨rfl, rfl⟩
 | e :: es, ha => by
   have h1 := ha 0 (by simp)
   simp only [List.getD_cons_zero] at h1
   have h2 := pos_end (es := es) (fun j hj => by have := ha (j + 1) (by simpa using hj); simpa using this)
   rw [posK, hasK, if_pos h1, if_pos h1, h2.1, h2.2]; exact ⟨rfl, rfl⟩
theorem pos_le {k : LTerm} {es : List Ent} : posK k es ≤ es.length := by
 induction es with
 | nil => exact Nat.le_refl _
 | cons e es ih => rw [posK]; split <;> simp <;> omega
theorem pos_has {k : LTerm} {es : List Ent} (h : hasK k es = true) : posK k es < es.length ∧ (es.getD (posK k es) default).1 = k := by
 induction es with
 | nil => cases h
 | cons e es ih =>
   rw [hasK] at h; rw [posK]
   split at h
   · rename_i hc
     rw [if_pos hc]
     have := ih h
     exact ⟨by simp; omega, by simpa using this.2⟩
   · rename_i hc
     rw [if_neg hc]
     exact ⟨by simp, by simpa [ord_zero] using h⟩
theorem ctr272 (m k : LTerm) (es : List Ent) (hm : m.kids = flat es) (om : OkT m) (ok : OkT k): CT 126 [elT m, elT k] (.tup [.i .i64 ((2 * posK k es : Nat) : Int), .b (hasK k es)]) := by
 refine sem_introB mixed Tryz.func126 g0 ?_
 · skip
   have hk1 := om.kids
   have hl : m.kids.length = 2 * es.length := by rw [hm, flat_len]
   refine x_loopJ (fun (i : Nat) => [.k, .k, .k, .k, .j, .j, .v (.i .i64 ((2 * i : Nat) : Int)), .j, .j, .j, .j, .j, .j, .j, .j, .j, .j, .j, .j, .j, .j, .j, .j, .j, .j, .j, .j, .k]) (fun i => [.box false [.i .i64 (m).kind, .i .i64 (m).n, .s (m).text, .s (m).sort, .sl ((m).kids.flatMap termCells) (m).kids.length, .sl ((m).rest.flatMap termCells) (m).rest.length], .box false [.i .i64 (k).kind, .i .i64 (k).n, .s (k).text, .s (k).sort, .sl ((k).kids.flatMap termCells) (k).kids.length, .sl ((k).rest.flatMap termCells) (k).rest.length]]) (fun i => i ≤ es.length ∧ ∀ j, j < i → ordP (es.getD j default).1 k < 0) (fun i => es.length - i) (0) ⟨Nat.zero_le _, fun j h => by omega⟩ rfl (by simp [Fits]) ?_
   rintro i j ⟨hi, ha⟩
   have o1 : i < es.length → CT 113 [elT (m.kids.getD (2 * i) default), elT k] (.i .i64 (ordP (m.kids.getD (2 * i) default) k)) := fun h => ctr260 _ _ (om.kid _ (mem_getD (by omega))) ok
   have o2 : i < es.length → m.kids.getD (2 * i) default = (es.getD i default).1 := fun h => by rw [hm, flat_key h]
   simp -implicitDefEqProofs (disch := omega) only [go_sem, simprocAttr]
   (repeat' (first | refine gT ?_ ?_ | refine gF ?_ ?_ | refine gC ?_ ?_ | ((refine c_ctrE ((o1 (by omega))) ?_ ?_; (focus (simp -implicitDefEqProofs (disch := omega) only [avs, avb, avi, avo, sigCells, opCells, pairCells, elT, avt, termCells_eq, go_sem, simprocAttr]; done))); simp -implicitDefEqProofs (disch := omega) only [go_sem, simprocAttr]) | refine And.intro (by omega) ?_ | (intro hr; have hc := hr; (try simp only [zda, zdb, zdc, zdd] at hc); simp -implicitDefEqProofs (disch := omega) only [hr, go_sem, simprocAttr]; (try clear hr))))
   · rw [o2 (by omega)] at *
     have := pos_at (by omega) ha hc
     exact fin_eq (by rw [this.1, this.2]) rfl
   · rw [o2 (by omega)] at *
     exact ⟨i + 1, ⟨by omega, fun j hj => by rcases Nat.lt_succ_iff_lt_or_eq.1 hj with h | h; exact ha j h; rw [h]; omega⟩, by omega, by rw [show ((2 * (i + 1) : Nat) : Int) = ((2 * i : Nat) : Int) + 2 by omega]⟩
   · have := pos_end (es := es) (k := k) (fun j hj => ha j (by omega))
     have h1 : i = es.length := by omega
     exact fin_eq (by rw [this.1, this.2, h1]) rfl

theorem tdiv2 {n : Nat} : Int.tdiv ((2 * n : Nat) : Int) 2 = n := by
 rw [Int.tdiv_eq_ediv_of_nonneg (by omega)]; omega
theorem rd6_snapk {H : List AObj} {v : AV} {l : List LTerm} {k : Nat} (h : Rd6 H v l) : snap (k + 1) H v = avt l := by
 rcases h with ⟨rfl, rfl⟩ | rfl | ⟨i, off, fz, t, cells, rfl, h1, h2, h3⟩
 · rfl
 · rw [snap, pers_avt, if_pos rfl]
 · simp only [snap, pers, h1, h3, persTs, if_true, Bool.false_eq_true, if_false, if_pos h2]
   rfl
theorem snap_t {H : List AObj} {k n : Int} {t s : Str} {v4 v5 : AV} {ks rs : List LTerm} (r4 : Rd6 H v4 ks) (r5 : Rd6 H v5 rs) : snap dep H (.agg [.i .i64 k, .i .i64 n, .s t, .s s, v4, v5]) = .agg (termCells (.mk k n t s ks rs)) := by
 have e4 := rd6_snapk (k := 7) r4
 have e5 := rd6_snapk (k := 7) r5
 rw [snap_dep]
 have hp : ∀ a, pers a = true → snap 8 H a = a := fun a h => by rw [snap_8, if_pos h]
 by_cases hx : persL [.i .i64 k, .i .i64 n, .s t, .s s, v4, v5] = true
 · have hx' : pers (.agg [.i .i64 k, .i .i64 n, .s t, .s s, v4, v5]) = true := hx
   rw [if_pos hx', termCells_eq]
   simp only [persL, pers, Bool.true_and, Bool.and_true, Bool.and_eq_true] at hx
   rw [hp _ hx.1] at e4
   rw [hp _ hx.2] at e5
   rw [e4, e5]; rfl
 · have hx' : ¬ pers (.agg [.i .i64 k, .i .i64 n, .s t, .s s, v4, v5]) = true := hx
   rw [if_neg hx', termCells_eq]
   simp only [snapS, hx, if_false, List.map_cons, List.map_nil, e4, e5]
   rfl
def idsOf : AV → List Nat
 | .hs i _ _ _ => [i]
 | _ => []
theorem reach_rd {H : List AObj} {v : AV} {l : List LTerm} {k : Nat} (h : Rd6 H v l) : reach (k + 1) H v = idsOf v := by
 rcases h with ⟨rfl, rfl⟩ | rfl | ⟨i, off, fz, t, cells, rfl, h1, h2, h3⟩
 · rfl
 · rw [reach, pers_avt, if_pos rfl]; rfl
 · simp only [reach, pers, h1, h3, persTs, if_true, Bool.false_eq_true, if_false, idsOf]
theorem reach_p {H : List AObj} {v : AV} {k : Nat} (h : pers v = true) : reach k H v = [] := by
 cases k with
 | zero => rfl
 | succ k => rw [reach, if_pos h]
theorem reach_t {H : List AObj} {k n : Int} {t s : Str} {v4 v5 : AV} {ks rs : List LTerm} (r4 : Rd6 H v4 ks) (r5 : Rd6 H v5 rs) : reach dep H (.agg [.i .i64 k, .i .i64 n, .s t, .s s, v4, v5]) = idsOf v4 ++ idsOf v5 := by
 have e4 := reach_rd (k := 7) r4
 have e5 := reach_rd (k := 7) r5
 by_cases hx : persL [.i .i64 k, .i .i64 n, .s t, .s s, v4, v5] = true
 · have hx' : pers (.agg [.i .i64 k, .i .i64 n, .s t, .s s, v4, v5]) = true := hx
   simp only [persL, pers, Bool.true_and, Bool.and_true, Bool.and_eq_true] at hx
   rw [reach_p hx', ← e4, ← e5, reach_p hx.1, reach_p hx.2]; rfl
 · have hx' : ¬ pers (.agg [.i .i64 k, .i .i64 n, .s t, .s s, v4, v5]) = true := hx
   have e : reach dep H (.agg [.i .i64 k, .i .i64 n, .s t, .s s, v4, v5]) = [AV.i .i64 k, .i .i64 n, .s t, .s s, v4, v5].flatMap (reach 8 H) := by
     show (if pers (.agg [.i .i64 k, .i .i64 n, .s t, .s s, v4, v5]) then [] else (if persL [.i .i64 k, .i .i64 n, .s t, .s s, v4, v5] then [] else [AV.i .i64 k, .i .i64 n, .s t, .s s, v4, v5].flatMap (reach 8 H))) = _
     rw [if_neg hx', if_neg hx]
   rw [e]
   simp only [List.flatMap_cons, List.flatMap_nil, e4, e5, List.append_nil]
   rw [reach_p rfl, reach_p rfl, reach_p rfl, reach_p rfl]; rfl
theorem after_t {H : List AObj} {k n : Int} {t s : Str} {v4 v5 r : AV} {ks rs : List LTerm} (r4 : Rd6 H v4 ks) (r5 : Rd6 H v5 rs) : hAfter r H [.agg [.i .i64 k, .i .i64 n, .s t, .s s, v4, v5]] = if Vo.flat r then H else Vo.freeze (idsOf v4 ++ idsOf v5) H := by
 rw [hAfter, List.flatMap_cons, List.flatMap_nil, List.append_nil, reach_t r4 r5]
theorem out_rd3 {a b c : AObj} {g : List AObj} {out : AV} {l : List LTerm} {n : Nat} (h : OutIs 6 3 g out (l.flatMap termCells) n) (hn : n = l.length) : Rd6 (a :: b :: c :: g) out l := by
 subst hn
 rcases h with ⟨rfl, hn, h0⟩ | ⟨i, rfl, hi, hl⟩
 · exact .inl ⟨rfl, List.length_eq_zero_iff.1 (by omega)⟩
 · refine .inr (.inr ⟨i + 3, 0, _, _, _, rfl, (by simpa using hi), by omega, ?_⟩)
   rw [List.drop_zero, List.take_of_length_le (by omega)]
theorem after_t3 {a b c : AObj} {g : List AObj} {out r : AV} {l : List LTerm} {m : Nat} {k n : Int} {t s : Str} (h : OutIs 6 3 g out (l.flatMap termCells) m) (hn : m = l.length) : ∃ g', hAfter r (a :: b :: c :: g) [.agg [.i .i64 k, .i .i64 n, .s t, .s s, out, .e0]] = a :: b :: c :: g' := by
 rw [after_t (out_rd3 h hn) rd6_e0]
 split
 · exact ⟨_, rfl⟩
 · rcases h with ⟨rfl, _, _⟩ | ⟨i, rfl, _, _⟩
   · exact ⟨_, rfl⟩
   · exact ⟨g.modify i AObj.fz, by simp [idsOf, Vo.freeze]⟩
theorem ctr250size (x : Str) (m : LTerm) (es : List Ent) (hx : x = nsize) (hm : m.kids = flat es) (om : OkT m): CT 78 [.s x, avt [m]] (resV (tInt es.length, 0)) := by
 refine sem_introA mixed Tryz.func78 g0 ?_
 · generalize hR : ((resV (tInt es.length, 0)) : AV) = R
   simp -implicitDefEqProofs (disch := omega) only [Tryz.f78, go_sem, List.replicate, ↓reduceIte, reduceAdd, reduceSub, reduceMul, reduceLeDiff, reduceLT, reduceEqDiff, reduceNeg, Nat.reduceBEq, avt, List.flatMap_cons, List.flatMap_nil, termCells_eq, List.cons_append, List.nil_append, List.append_nil, List.length_cons, List.length_nil, Nat.reduceAdd]
   have hk1 := om.kids
   have hl : m.kids.length = 2 * es.length := by rw [hm, flat_len]
   have e2 := tdiv2 (n := es.length)
   rw [← hl] at e2
   simp -implicitDefEqProofs (disch := omega) only [zt hx, go_sem, ↓reduceIte, reduceAdd, reduceSub, reduceMul, reduceLeDiff, reduceLT, reduceEqDiff, reduceNeg, Nat.reduceBEq]
   (repeat' (first | refine gT ?_ ?_ | refine gF ?_ ?_ | refine gC ?_ ?_ | ((first | (refine c_ctrE (ctr267 es.length) ?_ ?_; (focus (simp -implicitDefEqProofs (disch := omega) only [zt hx, e2, avs, avb, avi, avo, sigCells, opCells, pairCells, elT, avt, termCells_eq, go_sem, ↓reduceIte, reduceAdd, reduceSub, reduceMul, reduceLeDiff, reduceLT, reduceEqDiff, reduceNeg, Nat.reduceBEq]; done))) | (refine c_ctrE (ctr262 (tInt es.length)) ?_ ?_; (focus (simp -implicitDefEqProofs (disch := omega) only [zt hx, e2, avs, avb, avi, avo, sigCells, opCells, pairCells, elT, avt, termCells_eq, go_sem, ↓reduceIte, reduceAdd, reduceSub, reduceMul, reduceLeDiff, reduceLT, reduceEqDiff, reduceNeg, Nat.reduceBEq]; done)))); simp -implicitDefEqProofs (disch := omega) only [zt hx, e2, go_sem, ↓reduceIte, reduceAdd, reduceSub, reduceMul, reduceLeDiff, reduceLT, reduceEqDiff, reduceNeg, Nat.reduceBEq]) | refine And.intro (by omega) ?_ | (intro hr; have hc := hr; (try simp only [zda, zdb, zdc, zdd] at hc); simp -implicitDefEqProofs (disch := omega) only [hr, zt hx, e2, go_sem, ↓reduceIte, reduceAdd, reduceSub, reduceMul, reduceLeDiff, reduceLT, reduceEqDiff, reduceNeg, Nat.reduceBEq]; (try clear hr))))
   subst hR
   exact fin_res rfl (rd6_sl (l := [])) (rd6_sl (l := []))
theorem ctr250keys (x : Str) (m : LTerm) (es : List Ent) (hx : x = nkeys) (hm : m.kids = flat es) (om : OkT m): CT 78 [.s x, avt [m]] (resV (.mk 7 0 [] [] (es.map (·.1)) [], 0)) := by
 refine sem_introA mixed Tryz.func78 g0 ?_
 · generalize hR : ((resV (.mk 7 0 [] [] (es.map (·.1)) [], 0)) : AV) = R
   simp -implicitDefEqProofs (disch := omega) only [Tryz.f78, go_sem, List.replicate, ↓reduceIte, reduceAdd, reduceSub, reduceMul, reduceLeDiff, reduceLT, reduceEqDiff, reduceNeg, Nat.reduceBEq, avt, List.flatMap_cons, List.flatMap_nil, termCells_eq, List.cons_append, List.nil_append, List.append_nil, List.length_cons, List.length_nil, Nat.reduceAdd]
   have hk1 := om.kids
   have hl : m.kids.length = 2 * es.length := by rw [hm, flat_len]
   have n1 : ¬ x = nsize := by rw [hx]; decide
   simp -implicitDefEqProofs (disch := omega) only [zf n1, zt hx, go_sem, ↓reduceIte, reduceAdd, reduceSub, reduceMul, reduceLeDiff, reduceLT, reduceEqDiff, reduceNeg, Nat.reduceBEq]
   refine ⟨by omega, ?_⟩
   refine x_loopJ (fun (s : Nat × AV × List AObj) => [.k, .k, .k, .k, .k, .k, .k, .k, .v (.i .i64 ((2 * s.1 : Nat) : Int)), .k, .k, .k, .k, .k, .k, .k, .k, .k, .k, .k, .k, .k, .k, .k, .k, .k, .k, .k, .k, .k, .j, .j, .j, .j, .j, .j, .j, .j, .j, .j, .j, .j, .j, .j, .j, .j, .j, .k, .k, .k, .k, .k, .k, .k, .k, .k, .k, .k, .k, .k, .k, .k, .k, .k, .k, .k, .k, .k, .k, .k, .k, .k, .k, .k, .k, .k, .k, .k, .k, .k, .k, .k, .k, .k, .k, .k, .k, .k, .k, .k, .k, .k, .k, .k, .k, .k, .k, .k, .k, .k, .k, .k, .k, .k, .k, .k, .k, .k, .k, .k, .k, .k, .k, .k, .k, .k, .k, .k, .k, .k, .k, .k, .k, .k, .k, .k, .k, .k, .k, .k, .k, .k, .k]) (fun s => (.box false [.i .i64 0, .i .i64 0, .s [], .s [], .e0, .e0] :: .box false [.i .i64 (m).kind, .i .i64 (m).n, .s (m).text, .s (m).sort, .sl ((m).kids.flatMap termCells) (m).kids.length, .sl ((m).rest.flatMap termCells) (m).rest.length] :: .box false [.i .i64 7, .i .i64 0, .s [], .s [], s.2.1, .e0] :: s.2.2)) (fun s => s.1 ≤ es.length ∧ OutIs 6 3 s.2.2 s.2.1 (((es.take s.1).map (·.1)).flatMap termCells) s.1) (fun s => es.length - s.1) ((0, .e0, [])) ⟨Nat.zero_le _, outIs_e0⟩ rfl (by simp [Fits]) ?_
   rintro ⟨i, out, g⟩ j ⟨hi, ho⟩
   dsimp only at hi ho
   have o2 : i < es.length → m.kids.getD (2 * i) default = (es.getD i default).1 := fun h => by rw [hm, flat_key h]
   simp -implicitDefEqProofs (disch := omega) only [go_sem, ↓reduceIte, reduceAdd, reduceSub, reduceMul, reduceLeDiff, reduceLT, reduceEqDiff, reduceNeg, Nat.reduceBEq]
   (repeat' (first | refine gT ?_ ?_ | refine gF ?_ ?_ | refine gC ?_ ?_ | refine And.intro (by omega) ?_ | (intro hr; have hc := hr; (try simp only [zda, zdb, zdc, zdd] at hc); simp -implicitDefEqProofs (disch := omega) only [hr, rep1t, go_sem, ↓reduceIte, reduceAdd, reduceSub, reduceMul, reduceLeDiff, reduceLT, reduceEqDiff, reduceNeg, Nat.reduceBEq]; (try clear hr))))
   · try simp -implicitDefEqProofs (disch := omega) only [rep1t, go_sem, ↓reduceIte, reduceAdd, reduceSub, reduceMul, reduceLeDiff, reduceLT, reduceEqDiff, reduceNeg, Nat.reduceBEq]
     refine app_intro' (pre := [_, _, _]) (news := [.i .i64 (m.kids.getD (2 * i) default).kind, .i .i64 (m.kids.getD (2 * i) default).n, .s (m.kids.getD (2 * i) default).text, .s (m.kids.getD (2 * i) default).sort, .sl ((m.kids.getD (2 * i) default).kids.flatMap termCells) (m.kids.getD (2 * i) default).kids.length, .sl ((m.kids.getD (2 * i) default).rest.flatMap termCells) (m.kids.getD (2 * i) default).rest.length]) (m := 1) ho rfl rfl el27 zo32 sz32 by32 rfl (by decide) (by simp -implicitDefEqProofs (disch := omega) only [go_sem, ↓reduceIte, reduceAdd, reduceSub, reduceMul, reduceLeDiff, reduceLT, reduceEqDiff, reduceNeg, Nat.reduceBEq]) (by simp -implicitDefEqProofs (disch := omega) only [go_sem, ↓reduceIte, reduceAdd, reduceSub, reduceMul, reduceLeDiff, reduceLT, reduceEqDiff, reduceNeg, Nat.reduceBEq]) ⟨by omega, by omega⟩ ?_
     intro out' g' ho' _
     have ho2 := ho'
     rcases ho' with ⟨rfl, hn, _⟩ | ⟨i', rfl, _, _⟩
     · exfalso; simp at hn
     · simp -implicitDefEqProofs (disch := omega) only [go_sem, ↓reduceIte, reduceAdd, reduceSub, reduceMul, reduceLeDiff, reduceLT, reduceEqDiff, reduceNeg, Nat.reduceBEq]
       refine ⟨(i + 1, _, g'), ⟨by dsimp only; omega, ?_⟩, by dsimp only; omega, rfl, ?_⟩
       · dsimp only
         rw [take_getD (d := default) (by omega), List.map_append, List.flatMap_append]
         rw [o2 (by omega)] at ho2
         simp only [List.map_cons, List.map_nil, List.flatMap_cons, List.flatMap_nil, List.append_nil, termCells_eq]
         exact ho2
       · dsimp only; rw [show ((2 * (i + 1) : Nat) : Int) = ((2 * i : Nat) : Int) + 2 by omega]
   · have h1 : i = es.length := by omega
     subst h1
     rw [List.take_length] at ho
     obtain ⟨t, ht⟩ : ∃ t, t = LTerm.mk 7 0 [] [] (es.map (·.1)) [] := ⟨_, rfl⟩
     refine c_ctrE (ctr262 t) ?_ ?_
     · rw [List.map_cons, List.map_nil, snap_t (out_rd3 ho (by simp)) rd6_e0, ht]; rfl
     · obtain ⟨g', hg⟩ := after_t3 (a := .box false [.i .i64 0, .i .i64 0, .s [], .s [], .e0, .e0]) (b := .box false [.i .i64 (m).kind, .i .i64 (m).n, .s (m).text, .s (m).sort, .sl ((m).kids.flatMap termCells) (m).kids.length, .sl ((m).rest.flatMap termCells) (m).rest.length]) (c := .box false [.i .i64 7, .i .i64 0, .s [], .s [], out, .e0]) (r := resT t 0) (k := 7) (n := 0) (t := []) (s := []) ho (by simp)
       rw [hg]
       simp -implicitDefEqProofs (disch := omega) only [go_sem, ↓reduceIte, reduceAdd, reduceSub, reduceMul, reduceLeDiff, reduceLT, reduceEqDiff, reduceNeg, Nat.reduceBEq]
       subst hR
       rw [← ht]
       exact fin_resP (q := (t, 0)) rfl
theorem ctr250has (x : Str) (m k : LTerm) (es : List Ent) (hx : x = nhas) (hm : m.kids = flat es) (om : OkT m) (ok : OkT k): CT 78 [.s x, avt [m, k]] (resV (tBool (hasK k es), 0)) := by
 refine sem_introA mixed Tryz.func78 g0 ?_
 · generalize hR : ((resV (tBool (hasK k es), 0)) : AV) = R
   simp -implicitDefEqProofs (disch := omega) only [Tryz.f78, go_sem, List.replicate, ↓reduceIte, reduceAdd, reduceSub, reduceMul, reduceLeDiff, reduceLT, reduceEqDiff, reduceNeg, Nat.reduceBEq, avt, List.flatMap_cons, List.flatMap_nil, termCells_eq, List.cons_append, List.nil_append, List.append_nil, List.length_cons, List.length_nil, Nat.reduceAdd]
   have hk1 := om.kids
   have n1 : ¬ x = nsize := by rw [hx]; decide
   have n2 : ¬ x = nkeys := by rw [hx]; decide
   simp -implicitDefEqProofs (disch := omega) only [zf n1, zf n2, zt hx, go_sem, ↓reduceIte, reduceAdd, reduceSub, reduceMul, reduceLeDiff, reduceLT, reduceEqDiff, reduceNeg, Nat.reduceBEq]
   (repeat' (first | refine gT ?_ ?_ | refine gF ?_ ?_ | refine gC ?_ ?_ | ((first | (refine c_ctrE (ctr272 m k es hm om ok) ?_ ?_; (focus (simp -implicitDefEqProofs (disch := omega) only [zf n1, zf n2, zt hx, avs, avb, avi, avo, sigCells, opCells, pairCells, elT, avt, termCells_eq, go_sem, ↓reduceIte, reduceAdd, reduceSub, reduceMul, reduceLeDiff, reduceLT, reduceEqDiff, reduceNeg, Nat.reduceBEq]; done))) | (refine c_ctrE (ctr263 (hasK k es)) ?_ ?_; (focus (simp -implicitDefEqProofs (disch := omega) only [zf n1, zf n2, zt hx, avs, avb, avi, avo, sigCells, opCells, pairCells, elT, avt, termCells_eq, go_sem, ↓reduceIte, reduceAdd, reduceSub, reduceMul, reduceLeDiff, reduceLT, reduceEqDiff, reduceNeg, Nat.reduceBEq]; done))) | (refine c_ctrE (ctr262 (tBool (hasK k es))) ?_ ?_; (focus (simp -implicitDefEqProofs (disch := omega) only [zf n1, zf n2, zt hx, avs, avb, avi, avo, sigCells, opCells, pairCells, elT, avt, termCells_eq, go_sem, ↓reduceIte, reduceAdd, reduceSub, reduceMul, reduceLeDiff, reduceLT, reduceEqDiff, reduceNeg, Nat.reduceBEq]; done)))); simp -implicitDefEqProofs (disch := omega) only [zf n1, zf n2, zt hx, go_sem, ↓reduceIte, reduceAdd, reduceSub, reduceMul, reduceLeDiff, reduceLT, reduceEqDiff, reduceNeg, Nat.reduceBEq]) | refine And.intro (by omega) ?_ | (intro hr; have hc := hr; (try simp only [zda, zdb, zdc, zdd] at hc); simp -implicitDefEqProofs (disch := omega) only [hr, zf n1, zf n2, zt hx, go_sem, ↓reduceIte, reduceAdd, reduceSub, reduceMul, reduceLeDiff, reduceLT, reduceEqDiff, reduceNeg, Nat.reduceBEq]; (try clear hr))))
   subst hR
   exact fin_res rfl (rd6_sl (l := [])) (rd6_sl (l := []))

theorem dropC {l : List LTerm} {k : Nat} : (l.flatMap termCells).drop (k * 6) = (l.drop k).flatMap termCells := Vo.flat_drop (fun t => by rw [termCells_eq]; rfl) l k
theorem hA_y {r : AV} {H : List AObj} {A : List AV} (h : Vo.flat r = true) : hAfter r H A = H := if_pos h
theorem hA_n {r : AV} {H : List AObj} {A : List AV} (h : Vo.flat r = false) : hAfter r H A = Vo.freeze (A.flatMap (reach dep H)) H := if_neg (by rw [h]; simp)
theorem after_t0 {H : List AObj} {k n : Int} {t s : Str} {r : AV} {ks : List LTerm} : hAfter r H [.agg [.i .i64 k, .i .i64 n, .s t, .s s, .sl (ks.flatMap termCells) ks.length, .e0]] = H := by
 rw [after_t rd6_sl rd6_e0]
 split
 · rfl
 · rfl
theorem toNat3 : Int.toNat 3 = 3 := rfl
theorem ctr250get_n (x : Str) (m k : LTerm) (es : List Ent) (hx : x = nget) (hm : m.kids = flat es) (om : OkT m) (ok : OkT k) (hh : hasK k es = false): CT 78 [.s x, avt [m, k]] (resV (tZ, 4)) := by
 refine sem_introA mixed Tryz.func78 g0 ?_
 · generalize hR : ((resV (tZ, 4)) : AV) = R
   simp -implicitDefEqProofs (disch := omega) only [Tryz.f78, go_sem, List.replicate, ↓reduceIte, reduceAdd, reduceSub, reduceMul, reduceLeDiff, reduceLT, reduceEqDiff, reduceNeg, Nat.reduceBEq, avt, List.flatMap_cons, List.flatMap_nil, termCells_eq, List.cons_append, List.nil_append, List.append_nil, List.length_cons, List.length_nil, Nat.reduceAdd]
   have hk1 := om.kids
   have n1 : ¬ x = nsize := by rw [hx]; decide
   have n2 : ¬ x = nkeys := by rw [hx]; decide
   have n3 : ¬ x = nhas := by rw [hx]; decide
   simp -implicitDefEqProofs (disch := omega) only [zf n1, zf n2, zf n3, zt hx, go_sem, ↓reduceIte, reduceAdd, reduceSub, reduceMul, reduceLeDiff, reduceLT, reduceEqDiff, reduceNeg, Nat.reduceBEq]
   (repeat' (first | refine gT ?_ ?_ | refine gF ?_ ?_ | refine gC ?_ ?_ | ((refine c_ctrE (ctr272 m k es hm om ok) ?_ ?_; (focus (simp -implicitDefEqProofs (disch := omega) only [zf n1, zf n2, zf n3, zt hx, hh, avs, avb, avi, avo, sigCells, opCells, pairCells, elT, avt, termCells_eq, go_sem, ↓reduceIte, reduceAdd, reduceSub, reduceMul, reduceLeDiff, reduceLT, reduceEqDiff, reduceNeg, Nat.reduceBEq]; done))); simp -implicitDefEqProofs (disch := omega) only [zf n1, zf n2, zf n3, zt hx, hh, go_sem, ↓reduceIte, reduceAdd, reduceSub, reduceMul, reduceLeDiff, reduceLT, reduceEqDiff, reduceNeg, Nat.reduceBEq]) | refine And.intro (by omega) ?_ | (intro hr; have hc := hr; (try simp only [zda, zdb, zdc, zdd] at hc); simp -implicitDefEqProofs (disch := omega) only [hr, zf n1, zf n2, zf n3, zt hx, hh, go_sem, ↓reduceIte, reduceAdd, reduceSub, reduceMul, reduceLeDiff, reduceLT, reduceEqDiff, reduceNeg, Nat.reduceBEq]; (try clear hr))))
   subst hR
   exact fin_res rfl rd6_e0 rd6_e0
theorem ctr250get_y (x : Str) (m k : LTerm) (es : List Ent) (hx : x = nget) (hm : m.kids = flat es) (om : OkT m) (ok : OkT k) (hh : hasK k es = true): CT 78 [.s x, avt [m, k]] (resV ((es.getD (posK k es) default).2, 0)) := by
 refine sem_introA mixed Tryz.func78 g0 ?_
 · generalize hR : ((resV ((es.getD (posK k es) default).2, 0)) : AV) = R
   simp -implicitDefEqProofs (disch := omega) only [Tryz.f78, go_sem, List.replicate, ↓reduceIte, reduceAdd, reduceSub, reduceMul, reduceLeDiff, reduceLT, reduceEqDiff, reduceNeg, Nat.reduceBEq, avt, List.flatMap_cons, List.flatMap_nil, termCells_eq, List.cons_append, List.nil_append, List.append_nil, List.length_cons, List.length_nil, Nat.reduceAdd]
   have hk1 := om.kids
   have hl : m.kids.length = 2 * es.length := by rw [hm, flat_len]
   have hp := (pos_has hh).1
   have hv : m.kids.getD (2 * posK k es + 1) default = (es.getD (posK k es) default).2 := by rw [hm, flat_val hp]
   have n1 : ¬ x = nsize := by rw [hx]; decide
   have n2 : ¬ x = nkeys := by rw [hx]; decide
   have n3 : ¬ x = nhas := by rw [hx]; decide
   have hi : (((2 * posK k es : Nat) : Int) + 1).toNat = 2 * posK k es + 1 := by omega
   simp -implicitDefEqProofs (disch := omega) only [zf n1, zf n2, zf n3, zt hx, go_sem, ↓reduceIte, reduceAdd, reduceSub, reduceMul, reduceLeDiff, reduceLT, reduceEqDiff, reduceNeg, Nat.reduceBEq]
   (repeat' (first | refine gT ?_ ?_ | refine gF ?_ ?_ | refine gC ?_ ?_ | ((first | (refine c_ctrE (ctr272 m k es hm om ok) ?_ ?_; (focus (simp -implicitDefEqProofs (disch := omega) only [zf n1, zf n2, zf n3, zt hx, hh, hi, avs, avb, avi, avo, sigCells, opCells, pairCells, elT, avt, termCells_eq, go_sem, ↓reduceIte, reduceAdd, reduceSub, reduceMul, reduceLeDiff, reduceLT, reduceEqDiff, reduceNeg, Nat.reduceBEq]; done))) | (refine c_ctrE (ctr262 (m.kids.getD (2 * posK k es + 1) default)) ?_ ?_; (focus (simp -implicitDefEqProofs (disch := omega) only [zf n1, zf n2, zf n3, zt hx, hh, hi, avs, avb, avi, avo, sigCells, opCells, pairCells, elT, avt, termCells_eq, go_sem, ↓reduceIte, reduceAdd, reduceSub, reduceMul, reduceLeDiff, reduceLT, reduceEqDiff, reduceNeg, Nat.reduceBEq]; done)))); simp -implicitDefEqProofs (disch := omega) only [zf n1, zf n2, zf n3, zt hx, hh, hi, go_sem, ↓reduceIte, reduceAdd, reduceSub, reduceMul, reduceLeDiff, reduceLT, reduceEqDiff, reduceNeg, Nat.reduceBEq]) | refine And.intro (by omega) ?_ | (intro hr; have hc := hr; (try simp only [zda, zdb, zdc, zdd] at hc); simp -implicitDefEqProofs (disch := omega) only [hr, zf n1, zf n2, zf n3, zt hx, hh, hi, go_sem, ↓reduceIte, reduceAdd, reduceSub, reduceMul, reduceLeDiff, reduceLT, reduceEqDiff, reduceNeg, Nat.reduceBEq]; (try clear hr))))
   subst hR
   rw [← hv]
   exact fin_resP (q := (m.kids.getD (2 * posK k es + 1) default, 0)) rfl
theorem ctr250del_y (x : Str) (m k : LTerm) (es : List Ent) (hx : x = ndel) (hm : m.kids = flat es) (om : OkT m) (ok : OkT k) (hl2 : es.length ≤ 1000) (hh : hasK k es = true): CT 78 [.s x, avt [m, k]] (resV (.mk 8 0 [] [] (flat (es.take (posK k es) ++ es.drop (posK k es + 1))) [], 0)) := by
 refine sem_introA mixed Tryz.func78 g0 ?_
 · generalize hR : ((resV (.mk 8 0 [] [] (flat (es.take (posK k es) ++ es.drop (posK k es + 1))) [], 0)) : AV) = R
   simp -implicitDefEqProofs (disch := omega) only [Tryz.f78, go_sem, List.replicate, ↓reduceIte, reduceAdd, reduceSub, reduceMul, reduceLeDiff, reduceLT, reduceEqDiff, reduceNeg, Nat.reduceBEq, avt, List.flatMap_cons, List.flatMap_nil, termCells_eq, List.cons_append, List.nil_append, List.append_nil, List.length_cons, List.length_nil, Nat.reduceAdd]
   have hk1 := om.kids
   have hl : m.kids.length = 2 * es.length := by rw [hm, flat_len]
   have hp := (pos_has hh).1
   have n1 : ¬ x = nsize := by rw [hx]; decide
   have n2 : ¬ x = nkeys := by rw [hx]; decide
   have n3 : ¬ x = nhas := by rw [hx]; decide
   have n4 : ¬ x = nget := by rw [hx]; decide
   have hi : (((2 * posK k es : Nat) : Int) + 2).toNat = 2 * posK k es + 2 := by omega
   simp -implicitDefEqProofs (disch := omega) only [zf n1, zf n2, zf n3, zf n4, zt hx, go_sem, ↓reduceIte, reduceAdd, reduceSub, reduceMul, reduceLeDiff, reduceLT, reduceEqDiff, reduceNeg, Nat.reduceBEq]
   (repeat' (first | refine gT ?_ ?_ | refine gF ?_ ?_ | refine gC ?_ ?_ | ((refine c_ctrE (ctr272 m k es hm om ok) ?_ ?_; (focus (simp -implicitDefEqProofs (disch := omega) only [zf n1, zf n2, zf n3, zf n4, zt hx, hh, hi, avs, avb, avi, avo, sigCells, opCells, pairCells, elT, avt, termCells_eq, go_sem, ↓reduceIte, reduceAdd, reduceSub, reduceMul, reduceLeDiff, reduceLT, reduceEqDiff, reduceNeg, Nat.reduceBEq]; done))); simp -implicitDefEqProofs (disch := omega) only [zf n1, zf n2, zf n3, zf n4, zt hx, hh, hi, go_sem, ↓reduceIte, reduceAdd, reduceSub, reduceMul, reduceLeDiff, reduceLT, reduceEqDiff, reduceNeg, Nat.reduceBEq]) | refine And.intro (by omega) ?_ | (intro hr; have hc := hr; (try simp only [zda, zdb, zdc, zdd] at hc); simp -implicitDefEqProofs (disch := omega) only [hr, zf n1, zf n2, zf n3, zf n4, zt hx, hh, hi, go_sem, ↓reduceIte, reduceAdd, reduceSub, reduceMul, reduceLeDiff, reduceLT, reduceEqDiff, reduceNeg, Nat.reduceBEq]; (try clear hr))))
   have hL : sumT [m.kids.take (2 * posK k es), m.kids.drop (2 * posK k es + 2)] ≤ 1000000 := by
     simp [sumT]; omega
   refine c_ctrE (ctr268 [m.kids.take (2 * posK k es), m.kids.drop (2 * posK k es + 2)] (by simp) hL) ?_ ?_
   · simp -implicitDefEqProofs (disch := omega) only [List.map_cons, List.map_nil, List.length_cons, List.length_nil, avt, dropC, List.length_take, List.length_drop, Nat.min_eq_left, go_sem, ↓reduceIte, reduceAdd, reduceSub, reduceMul, reduceLeDiff, reduceLT, reduceEqDiff, reduceNeg, Nat.reduceBEq]
   · obtain ⟨q, hq⟩ : ∃ q, q = [m.kids.take (2 * posK k es), m.kids.drop (2 * posK k es + 2)].flatten := ⟨_, rfl⟩
     rw [← hq]
     rcases bool_em (Vo.flat (avt q)) with hf | hf
     all_goals first | rw [hA_y hf] | rw [hA_n hf]
     all_goals simp -implicitDefEqProofs (disch := omega) only [dropC, go_sem, ↓reduceIte, reduceAdd, reduceSub, reduceMul, reduceLeDiff, reduceLT, reduceEqDiff, reduceNeg, Nat.reduceBEq]
     all_goals
       obtain ⟨t, ht⟩ : ∃ t, t = LTerm.mk 8 0 [] [] q [] := ⟨_, rfl⟩
       refine c_ctrE (ctr262 t) ?_ ?_
       · rw [List.map_cons, List.map_nil, snap_t rd6_sl rd6_e0, ht]; rfl
       · rw [after_t0]
         simp -implicitDefEqProofs (disch := omega) only [go_sem, ↓reduceIte, reduceAdd, reduceSub, reduceMul, reduceLeDiff, reduceLT, reduceEqDiff, reduceNeg, Nat.reduceBEq]
         subst hR
         exact fin_resP (q := (t, 0)) (by rw [ht, hq, hm]; simp only [flat_take, flat_append, show 2 * posK k es + 2 = 2 * (posK k es + 1) by omega, flat_drop, List.flatten_cons, List.flatten_nil, List.append_nil])
theorem ctr250del_n (x : Str) (m k : LTerm) (es : List Ent) (hx : x = ndel) (hm : m.kids = flat es) (om : OkT m) (ok : OkT k) (hh : hasK k es = false): CT 78 [.s x, avt [m, k]] (resV (.mk 8 0 [] [] (flat es) [], 0)) := by
 refine sem_introA mixed Tryz.func78 g0 ?_
 · generalize hR : ((resV (.mk 8 0 [] [] (flat es) [], 0)) : AV) = R
   simp -implicitDefEqProofs (disch := omega) only [Tryz.f78, go_sem, List.replicate, ↓reduceIte, reduceAdd, reduceSub, reduceMul, reduceLeDiff, reduceLT, reduceEqDiff, reduceNeg, Nat.reduceBEq, avt, List.flatMap_cons, List.flatMap_nil, termCells_eq, List.cons_append, List.nil_append, List.append_nil, List.length_cons, List.length_nil, Nat.reduceAdd]
   have hk1 := om.kids
   have n1 : ¬ x = nsize := by rw [hx]; decide
   have n2 : ¬ x = nkeys := by rw [hx]; decide
   have n3 : ¬ x = nhas := by rw [hx]; decide
   have n4 : ¬ x = nget := by rw [hx]; decide
   simp -implicitDefEqProofs (disch := omega) only [zf n1, zf n2, zf n3, zf n4, zt hx, go_sem, ↓reduceIte, reduceAdd, reduceSub, reduceMul, reduceLeDiff, reduceLT, reduceEqDiff, reduceNeg, Nat.reduceBEq]
   (repeat' (first | refine gT ?_ ?_ | refine gF ?_ ?_ | refine gC ?_ ?_ | ((refine c_ctrE (ctr272 m k es hm om ok) ?_ ?_; (focus (simp -implicitDefEqProofs (disch := omega) only [zf n1, zf n2, zf n3, zf n4, zt hx, hh, avs, avb, avi, avo, sigCells, opCells, pairCells, elT, avt, termCells_eq, go_sem, ↓reduceIte, reduceAdd, reduceSub, reduceMul, reduceLeDiff, reduceLT, reduceEqDiff, reduceNeg, Nat.reduceBEq]; done))); simp -implicitDefEqProofs (disch := omega) only [zf n1, zf n2, zf n3, zf n4, zt hx, hh, go_sem, ↓reduceIte, reduceAdd, reduceSub, reduceMul, reduceLeDiff, reduceLT, reduceEqDiff, reduceNeg, Nat.reduceBEq]) | refine And.intro (by omega) ?_ | (intro hr; have hc := hr; (try simp only [zda, zdb, zdc, zdd] at hc); simp -implicitDefEqProofs (disch := omega) only [hr, zf n1, zf n2, zf n3, zf n4, zt hx, hh, go_sem, ↓reduceIte, reduceAdd, reduceSub, reduceMul, reduceLeDiff, reduceLT, reduceEqDiff, reduceNeg, Nat.reduceBEq]; (try clear hr))))
   all_goals
     obtain ⟨t, ht⟩ : ∃ t, t = LTerm.mk 8 0 [] [] m.kids [] := ⟨_, rfl⟩
     refine c_ctrE (ctr262 t) ?_ ?_
     · rw [List.map_cons, List.map_nil, snap_t rd6_sl rd6_e0, ht]; rfl
     · rw [after_t0]
       simp -implicitDefEqProofs (disch := omega) only [go_sem, ↓reduceIte, reduceAdd, reduceSub, reduceMul, reduceLeDiff, reduceLT, reduceEqDiff, reduceNeg, Nat.reduceBEq]
       subst hR
       exact fin_resP (q := (t, 0)) (by rw [ht, hm])
theorem ctr250put_k (x : Str) (m k v : LTerm) (es : List Ent) (hx : x = nput) (hm : m.kids = flat es) (om : OkT m) (ok : OkT k) (hk : isKey k = false): CT 78 [.s x, avt [m, k, v]] (resV (tZ, 15)) := by
 refine sem_introA mixed Tryz.func78 g0 ?_
 · generalize hR : ((resV (tZ, 15)) : AV) = R
   simp -implicitDefEqProofs (disch := omega) only [Tryz.f78, go_sem, List.replicate, ↓reduceIte, reduceAdd, reduceSub, reduceMul, reduceLeDiff, reduceLT, reduceEqDiff, reduceNeg, Nat.reduceBEq, avt, List.flatMap_cons, List.flatMap_nil, termCells_eq, List.cons_append, List.nil_append, List.append_nil, List.length_cons, List.length_nil, Nat.reduceAdd]
   have hk1 := om.kids
   have n1 : ¬ x = nsize := by rw [hx]; decide
   have n2 : ¬ x = nkeys := by rw [hx]; decide
   have n3 : ¬ x = nhas := by rw [hx]; decide
   have n4 : ¬ x = nget := by rw [hx]; decide
   have n5 : ¬ x = ndel := by rw [hx]; decide
   simp -implicitDefEqProofs (disch := omega) only [zf n1, zf n2, zf n3, zf n4, zf n5, go_sem, ↓reduceIte, reduceAdd, reduceSub, reduceMul, reduceLeDiff, reduceLT, reduceEqDiff, reduceNeg, Nat.reduceBEq]
   (repeat' (first | refine gT ?_ ?_ | refine gF ?_ ?_ | refine gC ?_ ?_ | ((first | (refine c_ctrE (ctr272 m k es hm om ok) ?_ ?_; (focus (simp -implicitDefEqProofs (disch := omega) only [zf n1, zf n2, zf n3, zf n4, zf n5, hk, avs, avb, avi, avo, sigCells, opCells, pairCells, elT, avt, termCells_eq, go_sem, ↓reduceIte, reduceAdd, reduceSub, reduceMul, reduceLeDiff, reduceLT, reduceEqDiff, reduceNeg, Nat.reduceBEq]; done))) | (refine c_ctrE (ctr259 k) ?_ ?_; (focus (simp -implicitDefEqProofs (disch := omega) only [zf n1, zf n2, zf n3, zf n4, zf n5, hk, avs, avb, avi, avo, sigCells, opCells, pairCells, elT, avt, termCells_eq, go_sem, ↓reduceIte, reduceAdd, reduceSub, reduceMul, reduceLeDiff, reduceLT, reduceEqDiff, reduceNeg, Nat.reduceBEq]; done)))); simp -implicitDefEqProofs (disch := omega) only [zf n1, zf n2, zf n3, zf n4, zf n5, hk, go_sem, ↓reduceIte, reduceAdd, reduceSub, reduceMul, reduceLeDiff, reduceLT, reduceEqDiff, reduceNeg, Nat.reduceBEq]) | refine And.intro (by omega) ?_ | (intro hr; have hc := hr; (try simp only [zda, zdb, zdc, zdd] at hc); simp -implicitDefEqProofs (disch := omega) only [hr, zf n1, zf n2, zf n3, zf n4, zf n5, hk, go_sem, ↓reduceIte, reduceAdd, reduceSub, reduceMul, reduceLeDiff, reduceLT, reduceEqDiff, reduceNeg, Nat.reduceBEq]; (try clear hr))))
   subst hR
   exact fin_res rfl rd6_e0 rd6_e0
theorem ctr250put_y (x : Str) (m k v : LTerm) (es : List Ent) (hx : x = nput) (hm : m.kids = flat es) (om : OkT m) (ok : OkT k) (hl2 : es.length ≤ 1000) (hk : isKey k = true) (hh : hasK k es = true): CT 78 [.s x, avt [m, k, v]] (resV (.mk 8 0 [] [] (flat (es.take (posK k es) ++ (k, v) :: es.drop (posK k es + 1))) [], 0)) := by
 refine sem_introA mixed Tryz.func78 g0 ?_
 · generalize hR : ((resV (.mk 8 0 [] [] (flat (es.take (posK k es) ++ (k, v) :: es.drop (posK k es + 1))) [], 0)) : AV) = R
   simp -implicitDefEqProofs (disch := omega) only [Tryz.f78, go_sem, List.replicate, ↓reduceIte, reduceAdd, reduceSub, reduceMul, reduceLeDiff, reduceLT, reduceEqDiff, reduceNeg, Nat.reduceBEq, avt, List.flatMap_cons, List.flatMap_nil, termCells_eq, List.cons_append, List.nil_append, List.append_nil, List.length_cons, List.length_nil, Nat.reduceAdd]
   have hk1 := om.kids
   have hl : m.kids.length = 2 * es.length := by rw [hm, flat_len]
   have hp := (pos_has hh).1
   have hi : (((2 * posK k es : Nat) : Int) + 2).toNat = 2 * posK k es + 2 := by omega
   have n1 : ¬ x = nsize := by rw [hx]; decide
   have n2 : ¬ x = nkeys := by rw [hx]; decide
   have n3 : ¬ x = nhas := by rw [hx]; decide
   have n4 : ¬ x = nget := by rw [hx]; decide
   have n5 : ¬ x = ndel := by rw [hx]; decide
   simp -implicitDefEqProofs (disch := omega) only [zf n1, zf n2, zf n3, zf n4, zf n5, go_sem, ↓reduceIte, reduceAdd, reduceSub, reduceMul, reduceLeDiff, reduceLT, reduceEqDiff, reduceNeg, Nat.reduceBEq]
   (repeat' (first | refine gT ?_ ?_ | refine gF ?_ ?_ | refine gC ?_ ?_ | ((first | (refine c_ctrE (ctr272 m k es hm om ok) ?_ ?_; (focus (simp -implicitDefEqProofs (disch := omega) only [zf n1, zf n2, zf n3, zf n4, zf n5, hk, hh, hi, toNat3, List.take_succ_cons, List.drop_succ_cons, List.take_zero, List.drop_zero, List.take_nil, List.drop_nil, avs, avb, avi, avo, sigCells, opCells, pairCells, elT, avt, termCells_eq, go_sem, ↓reduceIte, reduceAdd, reduceSub, reduceMul, reduceLeDiff, reduceLT, reduceEqDiff, reduceNeg, Nat.reduceBEq]; done))) | (refine c_ctrE (ctr259 k) ?_ ?_; (focus (simp -implicitDefEqProofs (disch := omega) only [zf n1, zf n2, zf n3, zf n4, zf n5, hk, hh, hi, toNat3, List.take_succ_cons, List.drop_succ_cons, List.take_zero, List.drop_zero, List.take_nil, List.drop_nil, avs, avb, avi, avo, sigCells, opCells, pairCells, elT, avt, termCells_eq, go_sem, ↓reduceIte, reduceAdd, reduceSub, reduceMul, reduceLeDiff, reduceLT, reduceEqDiff, reduceNeg, Nat.reduceBEq]; done)))); simp -implicitDefEqProofs (disch := omega) only [zf n1, zf n2, zf n3, zf n4, zf n5, hk, hh, hi, toNat3, List.take_succ_cons, List.drop_succ_cons, List.take_zero, List.drop_zero, List.take_nil, List.drop_nil, go_sem, ↓reduceIte, reduceAdd, reduceSub, reduceMul, reduceLeDiff, reduceLT, reduceEqDiff, reduceNeg, Nat.reduceBEq]) | refine And.intro (by omega) ?_ | (intro hr; have hc := hr; (try simp only [zda, zdb, zdc, zdd] at hc); simp -implicitDefEqProofs (disch := omega) only [hr, zf n1, zf n2, zf n3, zf n4, zf n5, hk, hh, hi, toNat3, List.take_succ_cons, List.drop_succ_cons, List.take_zero, List.drop_zero, List.take_nil, List.drop_nil, go_sem, ↓reduceIte, reduceAdd, reduceSub, reduceMul, reduceLeDiff, reduceLT, reduceEqDiff, reduceNeg, Nat.reduceBEq]; (try clear hr))))
   have hL : sumT [m.kids.take (2 * posK k es), [k, v], m.kids.drop (2 * posK k es + 2)] ≤ 1000000 := by
     simp [sumT]; omega
   refine c_ctrE (ctr268 [m.kids.take (2 * posK k es), [k, v], m.kids.drop (2 * posK k es + 2)] (by simp) hL) ?_ ?_
   · simp -implicitDefEqProofs (disch := omega) only [List.map_cons, List.map_nil, List.length_cons, List.length_nil, avt, dropC, List.length_take, List.length_drop, Nat.min_eq_left, List.flatMap_cons, List.flatMap_nil, termCells_eq, List.cons_append, List.nil_append, List.append_nil, go_sem, ↓reduceIte, reduceAdd, reduceSub, reduceMul, reduceLeDiff, reduceLT, reduceEqDiff, reduceNeg, Nat.reduceBEq]
   · obtain ⟨q, hq⟩ : ∃ q, q = [m.kids.take (2 * posK k es), [k, v], m.kids.drop (2 * posK k es + 2)].flatten := ⟨_, rfl⟩
     rw [← hq]
     rcases bool_em (Vo.flat (avt q)) with hf | hf
     all_goals first | rw [hA_y hf] | rw [hA_n hf]
     all_goals simp -implicitDefEqProofs (disch := omega) only [dropC, go_sem, ↓reduceIte, reduceAdd, reduceSub, reduceMul, reduceLeDiff, reduceLT, reduceEqDiff, reduceNeg, Nat.reduceBEq]
     all_goals
       obtain ⟨t, ht⟩ : ∃ t, t = LTerm.mk 8 0 [] [] q [] := ⟨_, rfl⟩
       refine c_ctrE (ctr262 t) ?_ ?_
       · rw [List.map_cons, List.map_nil, snap_t rd6_sl rd6_e0, ht]; rfl
       · rw [after_t0]
         simp -implicitDefEqProofs (disch := omega) only [go_sem, ↓reduceIte, reduceAdd, reduceSub, reduceMul, reduceLeDiff, reduceLT, reduceEqDiff, reduceNeg, Nat.reduceBEq]
         subst hR
         exact fin_resP (q := (t, 0)) (by rw [ht, hq, hm]; simp only [flat_take, flat_append, flat_cons, flat_drop, List.flatten_cons, List.flatten_nil, List.append_nil, List.cons_append, List.nil_append, show 2 * posK k es + 2 = 2 * (posK k es + 1) by omega])
theorem ctr250put_n (x : Str) (m k v : LTerm) (es : List Ent) (hx : x = nput) (hm : m.kids = flat es) (om : OkT m) (ok : OkT k) (hl2 : es.length ≤ 1000) (hk : isKey k = true) (hh : hasK k es = false): CT 78 [.s x, avt [m, k, v]] (resV (.mk 8 0 [] [] (flat (es.take (posK k es) ++ (k, v) :: es.drop (posK k es))) [], 0)) := by
 refine sem_introA mixed Tryz.func78 g0 ?_
 · generalize hR : ((resV (.mk 8 0 [] [] (flat (es.take (posK k es) ++ (k, v) :: es.drop (posK k es))) [], 0)) : AV) = R
   simp -implicitDefEqProofs (disch := omega) only [Tryz.f78, go_sem, List.replicate, ↓reduceIte, reduceAdd, reduceSub, reduceMul, reduceLeDiff, reduceLT, reduceEqDiff, reduceNeg, Nat.reduceBEq, avt, List.flatMap_cons, List.flatMap_nil, termCells_eq, List.cons_append, List.nil_append, List.append_nil, List.length_cons, List.length_nil, Nat.reduceAdd]
   have hk1 := om.kids
   have hl : m.kids.length = 2 * es.length := by rw [hm, flat_len]
   have hp : posK k es ≤ es.length := pos_le
   have n1 : ¬ x = nsize := by rw [hx]; decide
   have n2 : ¬ x = nkeys := by rw [hx]; decide
   have n3 : ¬ x = nhas := by rw [hx]; decide
   have n4 : ¬ x = nget := by rw [hx]; decide
   have n5 : ¬ x = ndel := by rw [hx]; decide
   simp -implicitDefEqProofs (disch := omega) only [zf n1, zf n2, zf n3, zf n4, zf n5, go_sem, ↓reduceIte, reduceAdd, reduceSub, reduceMul, reduceLeDiff, reduceLT, reduceEqDiff, reduceNeg, Nat.reduceBEq]
   (repeat' (first | refine gT ?_ ?_ | refine gF ?_ ?_ | refine gC ?_ ?_ | ((first | (refine c_ctrE (ctr272 m k es hm om ok) ?_ ?_; (focus (simp -implicitDefEqProofs (disch := omega) only [zf n1, zf n2, zf n3, zf n4, zf n5, hk, hh, toNat3, List.take_succ_cons, List.drop_succ_cons, List.take_zero, List.drop_zero, List.take_nil, List.drop_nil, avs, avb, avi, avo, sigCells, opCells, pairCells, elT, avt, termCells_eq, go_sem, ↓reduceIte, reduceAdd, reduceSub, reduceMul, reduceLeDiff, reduceLT, reduceEqDiff, reduceNeg, Nat.reduceBEq]; done))) | (refine c_ctrE (ctr259 k) ?_ ?_; (focus (simp -implicitDefEqProofs (disch := omega) only [zf n1, zf n2, zf n3, zf n4, zf n5, hk, hh, toNat3, List.take_succ_cons, List.drop_succ_cons, List.take_zero, List.drop_zero, List.take_nil, List.drop_nil, avs, avb, avi, avo, sigCells, opCells, pairCells, elT, avt, termCells_eq, go_sem, ↓reduceIte, reduceAdd, reduceSub, reduceMul, reduceLeDiff, reduceLT, reduceEqDiff, reduceNeg, Nat.reduceBEq]; done)))); simp -implicitDefEqProofs (disch := omega) only [zf n1, zf n2, zf n3, zf n4, zf n5, hk, hh, toNat3, List.take_succ_cons, List.drop_succ_cons, List.take_zero, List.drop_zero, List.take_nil, List.drop_nil, go_sem, ↓reduceIte, reduceAdd, reduceSub, reduceMul, reduceLeDiff, reduceLT, reduceEqDiff, reduceNeg, Nat.reduceBEq]) | refine And.intro (by omega) ?_ | (intro hr; have hc := hr; (try simp only [zda, zdb, zdc, zdd] at hc); simp -implicitDefEqProofs (disch := omega) only [hr, zf n1, zf n2, zf n3, zf n4, zf n5, hk, hh, toNat3, List.take_succ_cons, List.drop_succ_cons, List.take_zero, List.drop_zero, List.take_nil, List.drop_nil, go_sem, ↓reduceIte, reduceAdd, reduceSub, reduceMul, reduceLeDiff, reduceLT, reduceEqDiff, reduceNeg, Nat.reduceBEq]; (try clear hr))))
   have hL : sumT [m.kids.take (2 * posK k es), [k, v], m.kids.drop (2 * posK k es)] ≤ 1000000 := by
     simp [sumT]; omega
   refine c_ctrE (ctr268 [m.kids.take (2 * posK k es), [k, v], m.kids.drop (2 * posK k es)] (by simp) hL) ?_ ?_
   · simp -implicitDefEqProofs (disch := omega) only [List.map_cons, List.map_nil, List.length_cons, List.length_nil, avt, dropC, List.length_take, List.length_drop, Nat.min_eq_left, List.flatMap_cons, List.flatMap_nil, termCells_eq, List.cons_append, List.nil_append, List.append_nil, go_sem, ↓reduceIte, reduceAdd, reduceSub, reduceMul, reduceLeDiff, reduceLT, reduceEqDiff, reduceNeg, Nat.reduceBEq]
   · obtain ⟨q, hq⟩ : ∃ q, q = [m.kids.take (2 * posK k es), [k, v], m.kids.drop (2 * posK k es)].flatten := ⟨_, rfl⟩
     rw [← hq]
     rcases bool_em (Vo.flat (avt q)) with hf | hf
     all_goals first | rw [hA_y hf] | rw [hA_n hf]
     all_goals simp -implicitDefEqProofs (disch := omega) only [dropC, go_sem, ↓reduceIte, reduceAdd, reduceSub, reduceMul, reduceLeDiff, reduceLT, reduceEqDiff, reduceNeg, Nat.reduceBEq]
     all_goals
       obtain ⟨t, ht⟩ : ∃ t, t = LTerm.mk 8 0 [] [] q [] := ⟨_, rfl⟩
       refine c_ctrE (ctr262 t) ?_ ?_
       · rw [List.map_cons, List.map_nil, snap_t rd6_sl rd6_e0, ht]; rfl
       · rw [after_t0]
         simp -implicitDefEqProofs (disch := omega) only [go_sem, ↓reduceIte, reduceAdd, reduceSub, reduceMul, reduceLeDiff, reduceLT, reduceEqDiff, reduceNeg, Nat.reduceBEq]
         subst hR
         exact fin_resP (q := (t, 0)) (by rw [ht, hq, hm]; simp only [flat_take, flat_append, flat_cons, flat_drop, List.flatten_cons, List.flatten_nil, List.append_nil, List.cons_append, List.nil_append])

theorem text_len {s : Str} (h : isText s = true) : s.length ≤ 200 := by
 simp only [isText, Bool.and_eq_true, decide_eq_true_eq] at h; omega
theorem ctr246eq (s : LSig) (x : Str) (a b : LTerm) (oa : OkT a) (ob : OkT b) (hx : x = neq): CT 74 [bookAV s, .s x, avt [a, b]] (resV (tBool (decide (a = b)), 0)) := by
 refine sem_introA mixed Tryz.func74 g0 ?_
 · generalize hR : ((resV (tBool (decide (a = b)), 0)) : AV) = R
   simp -implicitDefEqProofs (disch := omega) only [Tryz.f74, go_sem, List.replicate, simprocAttr, avt, List.flatMap_cons, List.flatMap_nil, termCells_eq, List.cons_append, List.nil_append, List.append_nil, List.length_cons, List.length_nil, Nat.reduceAdd]
   simp -implicitDefEqProofs (disch := omega) only [zt hx, go_sem, simprocAttr]
   (repeat' (first | refine gT ?_ ?_ | refine gF ?_ ?_ | refine gC ?_ ?_ | ((first | (refine c_ctrE (ctr264 a b oa ob) ?_ ?_; (focus (simp -implicitDefEqProofs (disch := omega) only [zt hx, Bool.decide_eq_true, Bool.decide_eq_false, avs, avb, avi, avo, sigCells, opCells, pairCells, elT, avt, termCells_eq, go_sem, simprocAttr]; done))) | (refine c_ctrE (ctr263 (decide (a = b))) ?_ ?_; (focus (simp -implicitDefEqProofs (disch := omega) only [zt hx, Bool.decide_eq_true, Bool.decide_eq_false, avs, avb, avi, avo, sigCells, opCells, pairCells, elT, avt, termCells_eq, go_sem, simprocAttr]; done))) | (refine c_ctrE (ctr262 (tBool (decide (a = b)))) ?_ ?_; (focus (simp -implicitDefEqProofs (disch := omega) only [zt hx, Bool.decide_eq_true, Bool.decide_eq_false, avs, avb, avi, avo, sigCells, opCells, pairCells, elT, avt, termCells_eq, go_sem, simprocAttr]; done))) | (refine c_ctrE (ctr263 (!decide (a = b))) ?_ ?_; (focus (simp -implicitDefEqProofs (disch := omega) only [zt hx, Bool.decide_eq_true, Bool.decide_eq_false, avs, avb, avi, avo, sigCells, opCells, pairCells, elT, avt, termCells_eq, go_sem, simprocAttr]; done))) | (refine c_ctrE (ctr262 (tBool (!decide (a = b)))) ?_ ?_; (focus (simp -implicitDefEqProofs (disch := omega) only [zt hx, Bool.decide_eq_true, Bool.decide_eq_false, avs, avb, avi, avo, sigCells, opCells, pairCells, elT, avt, termCells_eq, go_sem, simprocAttr]; done)))); simp -implicitDefEqProofs (disch := omega) only [zt hx, Bool.decide_eq_true, Bool.decide_eq_false, go_sem, simprocAttr]) | refine And.intro (by omega) ?_ | (intro hr; have hc := hr; (try simp only [zda, zdb, zdc, zdd] at hc); simp -implicitDefEqProofs (disch := omega) only [hr, zt hx, Bool.decide_eq_true, Bool.decide_eq_false, go_sem, simprocAttr]; (try clear hr))))
   all_goals subst hR
   all_goals first
     | exact fin_res rfl (rd6_sl (l := [])) (rd6_sl (l := []))
     | (refine fin_res ?_ (rd6_sl (l := [])) (rd6_sl (l := [])); simp only [hc, decide_true, decide_false, Bool.true_and, Bool.false_and, Bool.or_true, Bool.true_or, Bool.false_or, if_true, if_false, Bool.false_eq_true, reduceIte]; done)
     | (refine fin_res ?_ (rd6_sl (l := [])) (rd6_sl (l := [])); rw [zf hc]; rfl)
     | (refine fin_res ?_ (rd6_sl (l := [])) (rd6_sl (l := [])); rw [zt hc]; rfl)
     | (refine fin_res ?_ rd6_e0 rd6_e0; simp only [hc, decide_true, decide_false, if_true, if_false, Bool.false_eq_true, reduceIte]; done)
theorem ctr246ne (s : LSig) (x : Str) (a b : LTerm) (oa : OkT a) (ob : OkT b) (hx : x = nne): CT 74 [bookAV s, .s x, avt [a, b]] (resV (tBool (!decide (a = b)), 0)) := by
 refine sem_introA mixed Tryz.func74 g0 ?_
 · generalize hR : ((resV (tBool (!decide (a = b)), 0)) : AV) = R
   simp -implicitDefEqProofs (disch := omega) only [Tryz.f74, go_sem, List.replicate, simprocAttr, avt, List.flatMap_cons, List.flatMap_nil, termCells_eq, List.cons_append, List.nil_append, List.append_nil, List.length_cons, List.length_nil, Nat.reduceAdd]
   have m1 : ¬ x = neq := by rw [hx]; decide
   simp -implicitDefEqProofs (disch := omega) only [zf m1, zt hx, go_sem, simprocAttr]
   (repeat' (first | refine gT ?_ ?_ | refine gF ?_ ?_ | refine gC ?_ ?_ | ((first | (refine c_ctrE (ctr264 a b oa ob) ?_ ?_; (focus (simp -implicitDefEqProofs (disch := omega) only [zf m1, zt hx, Bool.decide_eq_true, Bool.decide_eq_false, avs, avb, avi, avo, sigCells, opCells, pairCells, elT, avt, termCells_eq, go_sem, simprocAttr]; done))) | (refine c_ctrE (ctr263 (decide (a = b))) ?_ ?_; (focus (simp -implicitDefEqProofs (disch := omega) only [zf m1, zt hx, Bool.decide_eq_true, Bool.decide_eq_false, avs, avb, avi, avo, sigCells, opCells, pairCells, elT, avt, termCells_eq, go_sem, simprocAttr]; done))) | (refine c_ctrE (ctr262 (tBool (decide (a = b)))) ?_ ?_; (focus (simp -implicitDefEqProofs (disch := omega) only [zf m1, zt hx, Bool.decide_eq_true, Bool.decide_eq_false, avs, avb, avi, avo, sigCells, opCells, pairCells, elT, avt, termCells_eq, go_sem, simprocAttr]; done))) | (refine c_ctrE (ctr263 (!decide (a = b))) ?_ ?_; (focus (simp -implicitDefEqProofs (disch := omega) only [zf m1, zt hx, Bool.decide_eq_true, Bool.decide_eq_false, avs, avb, avi, avo, sigCells, opCells, pairCells, elT, avt, termCells_eq, go_sem, simprocAttr]; done))) | (refine c_ctrE (ctr262 (tBool (!decide (a = b)))) ?_ ?_; (focus (simp -implicitDefEqProofs (disch := omega) only [zf m1, zt hx, Bool.decide_eq_true, Bool.decide_eq_false, avs, avb, avi, avo, sigCells, opCells, pairCells, elT, avt, termCells_eq, go_sem, simprocAttr]; done)))); simp -implicitDefEqProofs (disch := omega) only [zf m1, zt hx, Bool.decide_eq_true, Bool.decide_eq_false, go_sem, simprocAttr]) | refine And.intro (by omega) ?_ | (intro hr; have hc := hr; (try simp only [zda, zdb, zdc, zdd] at hc); simp -implicitDefEqProofs (disch := omega) only [hr, zf m1, zt hx, Bool.decide_eq_true, Bool.decide_eq_false, go_sem, simprocAttr]; (try clear hr))))
   all_goals subst hR
   all_goals first
     | exact fin_res rfl (rd6_sl (l := [])) (rd6_sl (l := []))
     | (refine fin_res ?_ (rd6_sl (l := [])) (rd6_sl (l := [])); simp only [hc, decide_true, decide_false, Bool.true_and, Bool.false_and, Bool.or_true, Bool.true_or, Bool.false_or, if_true, if_false, Bool.false_eq_true, reduceIte]; done)
     | (refine fin_res ?_ (rd6_sl (l := [])) (rd6_sl (l := [])); rw [zf hc]; rfl)
     | (refine fin_res ?_ (rd6_sl (l := [])) (rd6_sl (l := [])); rw [zt hc]; rfl)
     | (refine fin_res ?_ rd6_e0 rd6_e0; simp only [hc, decide_true, decide_false, if_true, if_false, Bool.false_eq_true, reduceIte]; done)
theorem ctr246and (s : LSig) (x : Str) (a b : LTerm) (hx : x = nand): CT 74 [bookAV s, .s x, avt [a, b]] (resV (tBool (decide (a.n = 1) && decide (b.n = 1)), 0)) := by
 refine sem_introA mixed Tryz.func74 g0 ?_
 · generalize hR : ((resV (tBool (decide (a.n = 1) && decide (b.n = 1)), 0)) : AV) = R
   simp -implicitDefEqProofs (disch := omega) only [Tryz.f74, go_sem, List.replicate, simprocAttr, avt, List.flatMap_cons, List.flatMap_nil, termCells_eq, List.cons_append, List.nil_append, List.append_nil, List.length_cons, List.length_nil, Nat.reduceAdd]
   have m1 : ¬ x = neq := by rw [hx]; decide
   have m2 : ¬ x = nne := by rw [hx]; decide
   simp -implicitDefEqProofs (disch := omega) only [zf m1, zf m2, zt hx, go_sem, simprocAttr]
   (repeat' (first | refine gT ?_ ?_ | refine gF ?_ ?_ | refine gC ?_ ?_ | ((first | (refine c_ctrE (ctr263 false) ?_ ?_; (focus (simp -implicitDefEqProofs (disch := omega) only [zf m1, zf m2, zt hx, avs, avb, avi, avo, sigCells, opCells, pairCells, elT, avt, termCells_eq, go_sem, simprocAttr]; done))) | (refine c_ctrE (ctr262 (tBool false)) ?_ ?_; (focus (simp -implicitDefEqProofs (disch := omega) only [zf m1, zf m2, zt hx, avs, avb, avi, avo, sigCells, opCells, pairCells, elT, avt, termCells_eq, go_sem, simprocAttr]; done))) | (refine c_ctrE (ctr263 true) ?_ ?_; (focus (simp -implicitDefEqProofs (disch := omega) only [zf m1, zf m2, zt hx, avs, avb, avi, avo, sigCells, opCells, pairCells, elT, avt, termCells_eq, go_sem, simprocAttr]; done))) | (refine c_ctrE (ctr262 (tBool true)) ?_ ?_; (focus (simp -implicitDefEqProofs (disch := omega) only [zf m1, zf m2, zt hx, avs, avb, avi, avo, sigCells, opCells, pairCells, elT, avt, termCells_eq, go_sem, simprocAttr]; done))) | (refine c_ctrE (ctr263 (decide (b.n = 1))) ?_ ?_; (focus (simp -implicitDefEqProofs (disch := omega) only [zf m1, zf m2, zt hx, avs, avb, avi, avo, sigCells, opCells, pairCells, elT, avt, termCells_eq, go_sem, simprocAttr]; done))) | (refine c_ctrE (ctr262 (tBool (decide (b.n = 1)))) ?_ ?_; (focus (simp -implicitDefEqProofs (disch := omega) only [zf m1, zf m2, zt hx, avs, avb, avi, avo, sigCells, opCells, pairCells, elT, avt, termCells_eq, go_sem, simprocAttr]; done)))); simp -implicitDefEqProofs (disch := omega) only [zf m1, zf m2, zt hx, go_sem, simprocAttr]) | refine And.intro (by omega) ?_ | (intro hr; have hc := hr; (try simp only [zda, zdb, zdc, zdd] at hc); simp -implicitDefEqProofs (disch := omega) only [hr, zf m1, zf m2, zt hx, go_sem, simprocAttr]; (try clear hr))))
   all_goals subst hR
   all_goals first
     | exact fin_res rfl (rd6_sl (l := [])) (rd6_sl (l := []))
     | (refine fin_res ?_ (rd6_sl (l := [])) (rd6_sl (l := [])); simp only [hc, decide_true, decide_false, Bool.true_and, Bool.false_and, Bool.or_true, Bool.true_or, Bool.false_or, if_true, if_false, Bool.false_eq_true, reduceIte]; done)
     | (refine fin_res ?_ (rd6_sl (l := [])) (rd6_sl (l := [])); rw [zf hc]; rfl)
     | (refine fin_res ?_ (rd6_sl (l := [])) (rd6_sl (l := [])); rw [zt hc]; rfl)
     | (refine fin_res ?_ rd6_e0 rd6_e0; simp only [hc, decide_true, decide_false, if_true, if_false, Bool.false_eq_true, reduceIte]; done)
theorem ctr246or (s : LSig) (x : Str) (a b : LTerm) (hx : x = nor): CT 74 [bookAV s, .s x, avt [a, b]] (resV (tBool (decide (a.n = 1) || decide (b.n = 1)), 0)) := by
 refine sem_introA mixed Tryz.func74 g0 ?_
 · generalize hR : ((resV (tBool (decide (a.n = 1) || decide (b.n = 1)), 0)) : AV) = R
   simp -implicitDefEqProofs (disch := omega) only [Tryz.f74, go_sem, List.replicate, simprocAttr, avt, List.flatMap_cons, List.flatMap_nil, termCells_eq, List.cons_append, List.nil_append, List.append_nil, List.length_cons, List.length_nil, Nat.reduceAdd]
   have m1 : ¬ x = neq := by rw [hx]; decide
   have m2 : ¬ x = nne := by rw [hx]; decide
   have m3 : ¬ x = nand := by rw [hx]; decide
   simp -implicitDefEqProofs (disch := omega) only [zf m1, zf m2, zf m3, zt hx, go_sem, simprocAttr]
   (repeat' (first | refine gT ?_ ?_ | refine gF ?_ ?_ | refine gC ?_ ?_ | ((first | (refine c_ctrE (ctr263 false) ?_ ?_; (focus (simp -implicitDefEqProofs (disch := omega) only [zf m1, zf m2, zf m3, zt hx, avs, avb, avi, avo, sigCells, opCells, pairCells, elT, avt, termCells_eq, go_sem, simprocAttr]; done))) | (refine c_ctrE (ctr262 (tBool false)) ?_ ?_; (focus (simp -implicitDefEqProofs (disch := omega) only [zf m1, zf m2, zf m3, zt hx, avs, avb, avi, avo, sigCells, opCells, pairCells, elT, avt, termCells_eq, go_sem, simprocAttr]; done))) | (refine c_ctrE (ctr263 true) ?_ ?_; (focus (simp -implicitDefEqProofs (disch := omega) only [zf m1, zf m2, zf m3, zt hx, avs, avb, avi, avo, sigCells, opCells, pairCells, elT, avt, termCells_eq, go_sem, simprocAttr]; done))) | (refine c_ctrE (ctr262 (tBool true)) ?_ ?_; (focus (simp -implicitDefEqProofs (disch := omega) only [zf m1, zf m2, zf m3, zt hx, avs, avb, avi, avo, sigCells, opCells, pairCells, elT, avt, termCells_eq, go_sem, simprocAttr]; done))) | (refine c_ctrE (ctr263 (decide (b.n = 1))) ?_ ?_; (focus (simp -implicitDefEqProofs (disch := omega) only [zf m1, zf m2, zf m3, zt hx, avs, avb, avi, avo, sigCells, opCells, pairCells, elT, avt, termCells_eq, go_sem, simprocAttr]; done))) | (refine c_ctrE (ctr262 (tBool (decide (b.n = 1)))) ?_ ?_; (focus (simp -implicitDefEqProofs (disch := omega) only [zf m1, zf m2, zf m3, zt hx, avs, avb, avi, avo, sigCells, opCells, pairCells, elT, avt, termCells_eq, go_sem, simprocAttr]; done)))); simp -implicitDefEqProofs (disch := omega) only [zf m1, zf m2, zf m3, zt hx, go_sem, simprocAttr]) | refine And.intro (by omega) ?_ | (intro hr; have hc := hr; (try simp only [zda, zdb, zdc, zdd] at hc); simp -implicitDefEqProofs (disch := omega) only [hr, zf m1, zf m2, zf m3, zt hx, go_sem, simprocAttr]; (try clear hr))))
   all_goals subst hR
   all_goals first
     | exact fin_res rfl (rd6_sl (l := [])) (rd6_sl (l := []))
     | (refine fin_res ?_ (rd6_sl (l := [])) (rd6_sl (l := [])); simp only [hc, decide_true, decide_false, Bool.true_and, Bool.false_and, Bool.or_true, Bool.true_or, Bool.false_or, if_true, if_false, Bool.false_eq_true, reduceIte]; done)
     | (refine fin_res ?_ (rd6_sl (l := [])) (rd6_sl (l := [])); rw [zf hc]; rfl)
     | (refine fin_res ?_ (rd6_sl (l := [])) (rd6_sl (l := [])); rw [zt hc]; rfl)
     | (refine fin_res ?_ rd6_e0 rd6_e0; simp only [hc, decide_true, decide_false, if_true, if_false, Bool.false_eq_true, reduceIte]; done)
theorem ctr246not (s : LSig) (x : Str) (a : LTerm) (hx : x = nnot): CT 74 [bookAV s, .s x, avt [a]] (resV (tBool (decide (a.n = 0)), 0)) := by
 refine sem_introA mixed Tryz.func74 g0 ?_
 · generalize hR : ((resV (tBool (decide (a.n = 0)), 0)) : AV) = R
   simp -implicitDefEqProofs (disch := omega) only [Tryz.f74, go_sem, List.replicate, simprocAttr, avt, List.flatMap_cons, List.flatMap_nil, termCells_eq, List.cons_append, List.nil_append, List.append_nil, List.length_cons, List.length_nil, Nat.reduceAdd]
   have m1 : ¬ x = neq := by rw [hx]; decide
   have m2 : ¬ x = nne := by rw [hx]; decide
   have m3 : ¬ x = nand := by rw [hx]; decide
   have m4 : ¬ x = nor := by rw [hx]; decide
   simp -implicitDefEqProofs (disch := omega) only [zf m1, zf m2, zf m3, zf m4, zt hx, go_sem, simprocAttr]
   (repeat' (first | refine gT ?_ ?_ | refine gF ?_ ?_ | refine gC ?_ ?_ | ((first | (refine c_ctrE (ctr263 (decide (a.n = 0))) ?_ ?_; (focus (simp -implicitDefEqProofs (disch := omega) only [zf m1, zf m2, zf m3, zf m4, zt hx, avs, avb, avi, avo, sigCells, opCells, pairCells, elT, avt, termCells_eq, go_sem, simprocAttr]; done))) | (refine c_ctrE (ctr262 (tBool (decide (a.n = 0)))) ?_ ?_; (focus (simp -implicitDefEqProofs (disch := omega) only [zf m1, zf m2, zf m3, zf m4, zt hx, avs, avb, avi, avo, sigCells, opCells, pairCells, elT, avt, termCells_eq, go_sem, simprocAttr]; done)))); simp -implicitDefEqProofs (disch := omega) only [zf m1, zf m2, zf m3, zf m4, zt hx, go_sem, simprocAttr]) | refine And.intro (by omega) ?_ | (intro hr; have hc := hr; (try simp only [zda, zdb, zdc, zdd] at hc); simp -implicitDefEqProofs (disch := omega) only [hr, zf m1, zf m2, zf m3, zf m4, zt hx, go_sem, simprocAttr]; (try clear hr))))
   all_goals subst hR
   all_goals first
     | exact fin_res rfl (rd6_sl (l := [])) (rd6_sl (l := []))
     | (refine fin_res ?_ (rd6_sl (l := [])) (rd6_sl (l := [])); simp only [hc, decide_true, decide_false, Bool.true_and, Bool.false_and, Bool.or_true, Bool.true_or, Bool.false_or, if_true, if_false, Bool.false_eq_true, reduceIte]; done)
     | (refine fin_res ?_ (rd6_sl (l := [])) (rd6_sl (l := [])); rw [zf hc]; rfl)
     | (refine fin_res ?_ (rd6_sl (l := [])) (rd6_sl (l := [])); rw [zt hc]; rfl)
     | (refine fin_res ?_ rd6_e0 rd6_e0; simp only [hc, decide_true, decide_false, if_true, if_false, Bool.false_eq_true, reduceIte]; done)
theorem ctr246pick0 (s : LSig) (x : Str) (c a b : LTerm) (hc0 : c.n = 0) (hx : x = npick): CT 74 [bookAV s, .s x, avt [c, a, b]] (resV (b, 0)) := by
 refine sem_introA mixed Tryz.func74 g0 ?_
 · generalize hR : ((resV (b, 0)) : AV) = R
   simp -implicitDefEqProofs (disch := omega) only [Tryz.f74, go_sem, List.replicate, simprocAttr, avt, List.flatMap_cons, List.flatMap_nil, termCells_eq, List.cons_append, List.nil_append, List.append_nil, List.length_cons, List.length_nil, Nat.reduceAdd]
   have hA : (2 - c.n).toNat * 6 = 12 := by omega
   have m1 : ¬ x = neq := by rw [hx]; decide
   have m2 : ¬ x = nne := by rw [hx]; decide
   have m3 : ¬ x = nand := by rw [hx]; decide
   have m4 : ¬ x = nor := by rw [hx]; decide
   have m5 : ¬ x = nnot := by rw [hx]; decide
   simp -implicitDefEqProofs (disch := omega) only [zf m1, zf m2, zf m3, zf m4, zf m5, zt hx, go_sem, simprocAttr]
   (repeat' (first | refine gT ?_ ?_ | refine gF ?_ ?_ | refine gC ?_ ?_ | ((refine c_ctrE (ctr262 b) ?_ ?_; (focus (simp -implicitDefEqProofs (disch := omega) only [zf m1, zf m2, zf m3, zf m4, zf m5, zt hx, hA, List.drop_succ_cons, List.take_succ_cons, List.take_zero, List.drop_zero, avs, avb, avi, avo, sigCells, opCells, pairCells, elT, avt, termCells_eq, go_sem, simprocAttr]; done))); simp -implicitDefEqProofs (disch := omega) only [zf m1, zf m2, zf m3, zf m4, zf m5, zt hx, hA, List.drop_succ_cons, List.take_succ_cons, List.take_zero, List.drop_zero, go_sem, simprocAttr]) | refine And.intro (by omega) ?_ | (intro hr; have hc := hr; (try simp only [zda, zdb, zdc, zdd] at hc); simp -implicitDefEqProofs (disch := omega) only [hr, zf m1, zf m2, zf m3, zf m4, zf m5, zt hx, hA, List.drop_succ_cons, List.take_succ_cons, List.take_zero, List.drop_zero, go_sem, simprocAttr]; (try clear hr))))
   all_goals subst hR
   all_goals exact fin_resP (q := (b, 0)) rfl
theorem ctr246pick1 (s : LSig) (x : Str) (c a b : LTerm) (hc1 : c.n = 1) (hx : x = npick): CT 74 [bookAV s, .s x, avt [c, a, b]] (resV (a, 0)) := by
 refine sem_introA mixed Tryz.func74 g0 ?_
 · generalize hR : ((resV (a, 0)) : AV) = R
   simp -implicitDefEqProofs (disch := omega) only [Tryz.f74, go_sem, List.replicate, simprocAttr, avt, List.flatMap_cons, List.flatMap_nil, termCells_eq, List.cons_append, List.nil_append, List.append_nil, List.length_cons, List.length_nil, Nat.reduceAdd]
   have hA : (2 - c.n).toNat * 6 = 6 := by omega
   have m1 : ¬ x = neq := by rw [hx]; decide
   have m2 : ¬ x = nne := by rw [hx]; decide
   have m3 : ¬ x = nand := by rw [hx]; decide
   have m4 : ¬ x = nor := by rw [hx]; decide
   have m5 : ¬ x = nnot := by rw [hx]; decide
   simp -implicitDefEqProofs (disch := omega) only [zf m1, zf m2, zf m3, zf m4, zf m5, zt hx, go_sem, simprocAttr]
   (repeat' (first | refine gT ?_ ?_ | refine gF ?_ ?_ | refine gC ?_ ?_ | ((refine c_ctrE (ctr262 a) ?_ ?_; (focus (simp -implicitDefEqProofs (disch := omega) only [zf m1, zf m2, zf m3, zf m4, zf m5, zt hx, hA, List.drop_succ_cons, List.take_succ_cons, List.take_zero, List.drop_zero, avs, avb, avi, avo, sigCells, opCells, pairCells, elT, avt, termCells_eq, go_sem, simprocAttr]; done))); simp -implicitDefEqProofs (disch := omega) only [zf m1, zf m2, zf m3, zf m4, zf m5, zt hx, hA, List.drop_succ_cons, List.take_succ_cons, List.take_zero, List.drop_zero, go_sem, simprocAttr]) | refine And.intro (by omega) ?_ | (intro hr; have hc := hr; (try simp only [zda, zdb, zdc, zdd] at hc); simp -implicitDefEqProofs (disch := omega) only [hr, zf m1, zf m2, zf m3, zf m4, zf m5, zt hx, hA, List.drop_succ_cons, List.take_succ_cons, List.take_zero, List.drop_zero, go_sem, simprocAttr]; (try clear hr))))
   all_goals subst hR
   all_goals exact fin_resP (q := (a, 0)) rfl
theorem ctr246cat (s : LSig) (x : Str) (a b : LTerm) (h1 : isText a.text = true) (h2 : isText b.text = true) (hx : x = ncat): CT 74 [bookAV s, .s x, avt [a, b]] (resV (if isText (a.text ++ b.text) = true then (tText (a.text ++ b.text), 0) else (tZ, 20))) := by
 refine sem_introA mixed Tryz.func74 g0 ?_
 · generalize hR : ((resV (if isText (a.text ++ b.text) = true then (tText (a.text ++ b.text), 0) else (tZ, 20))) : AV) = R
   simp -implicitDefEqProofs (disch := omega) only [Tryz.f74, go_sem, List.replicate, simprocAttr, avt, List.flatMap_cons, List.flatMap_nil, termCells_eq, List.cons_append, List.nil_append, List.append_nil, List.length_cons, List.length_nil, Nat.reduceAdd]
   have l1 := text_len h1
   have l2 := text_len h2
   have m1 : ¬ x = neq := by rw [hx]; decide
   have m2 : ¬ x = nne := by rw [hx]; decide
   have m3 : ¬ x = nand := by rw [hx]; decide
   have m4 : ¬ x = nor := by rw [hx]; decide
   have m5 : ¬ x = nnot := by rw [hx]; decide
   have m6 : ¬ x = npick := by rw [hx]; decide
   simp -implicitDefEqProofs (disch := omega) only [zf m1, zf m2, zf m3, zf m4, zf m5, zf m6, zt hx, go_sem, simprocAttr]
   (repeat' (first | refine gT ?_ ?_ | refine gF ?_ ?_ | refine gC ?_ ?_ | ((first | (refine c_ctrE (ctr265 (a.text ++ b.text) (by simp; omega)) ?_ ?_; (focus (simp -implicitDefEqProofs (disch := omega) only [zf m1, zf m2, zf m3, zf m4, zf m5, zf m6, zt hx, avs, avb, avi, avo, sigCells, opCells, pairCells, elT, avt, termCells_eq, go_sem, simprocAttr]; done))) | (refine c_ctrE (ctr266 (a.text ++ b.text)) ?_ ?_; (focus (simp -implicitDefEqProofs (disch := omega) only [zf m1, zf m2, zf m3, zf m4, zf m5, zf m6, zt hx, avs, avb, avi, avo, sigCells, opCells, pairCells, elT, avt, termCells_eq, go_sem, simprocAttr]; done))) | (refine c_ctrE (ctr262 (tText (a.text ++ b.text))) ?_ ?_; (focus (simp -implicitDefEqProofs (disch := omega) only [zf m1, zf m2, zf m3, zf m4, zf m5, zf m6, zt hx, avs, avb, avi, avo, sigCells, opCells, pairCells, elT, avt, termCells_eq, go_sem, simprocAttr]; done)))); simp -implicitDefEqProofs (disch := omega) only [zf m1, zf m2, zf m3, zf m4, zf m5, zf m6, zt hx, go_sem, simprocAttr]) | refine And.intro (by omega) ?_ | (intro hr; have hc := hr; (try simp only [zda, zdb, zdc, zdd] at hc); simp -implicitDefEqProofs (disch := omega) only [hr, zf m1, zf m2, zf m3, zf m4, zf m5, zf m6, zt hx, go_sem, simprocAttr]; (try clear hr))))
   all_goals subst hR
   all_goals first
     | exact fin_res rfl (rd6_sl (l := [])) (rd6_sl (l := []))
     | (refine fin_res ?_ (rd6_sl (l := [])) (rd6_sl (l := [])); simp only [hc, decide_true, decide_false, Bool.true_and, Bool.false_and, Bool.or_true, Bool.true_or, Bool.false_or, if_true, if_false, Bool.false_eq_true, reduceIte]; done)
     | (refine fin_res ?_ (rd6_sl (l := [])) (rd6_sl (l := [])); rw [zf hc]; rfl)
     | (refine fin_res ?_ (rd6_sl (l := [])) (rd6_sl (l := [])); rw [zt hc]; rfl)
     | (refine fin_res ?_ rd6_e0 rd6_e0; simp only [hc, decide_true, decide_false, if_true, if_false, Bool.false_eq_true, reduceIte]; done)
theorem ctr246length (s : LSig) (x : Str) (a : LTerm) (oa : OkT a) (hx : x = nlength): CT 74 [bookAV s, .s x, avt [a]] (resV (tInt a.kids.length, 0)) := by
 refine sem_introA mixed Tryz.func74 g0 ?_
 · generalize hR : ((resV (tInt a.kids.length, 0)) : AV) = R
   simp -implicitDefEqProofs (disch := omega) only [Tryz.f74, go_sem, List.replicate, simprocAttr, avt, List.flatMap_cons, List.flatMap_nil, termCells_eq, List.cons_append, List.nil_append, List.append_nil, List.length_cons, List.length_nil, Nat.reduceAdd]
   have l1 := oa.kids
   have m1 : ¬ x = neq := by rw [hx]; decide
   have m2 : ¬ x = nne := by rw [hx]; decide
   have m3 : ¬ x = nand := by rw [hx]; decide
   have m4 : ¬ x = nor := by rw [hx]; decide
   have m5 : ¬ x = nnot := by rw [hx]; decide
   have m6 : ¬ x = npick := by rw [hx]; decide
   have m7 : ¬ x = ncat := by rw [hx]; decide
   simp -implicitDefEqProofs (disch := omega) only [zf m1, zf m2, zf m3, zf m4, zf m5, zf m6, zf m7, zt hx, go_sem, simprocAttr]
   (repeat' (first | refine gT ?_ ?_ | refine gF ?_ ?_ | refine gC ?_ ?_ | ((first | (refine c_ctrE (ctr267 a.kids.length) ?_ ?_; (focus (simp -implicitDefEqProofs (disch := omega) only [zf m1, zf m2, zf m3, zf m4, zf m5, zf m6, zf m7, zt hx, avs, avb, avi, avo, sigCells, opCells, pairCells, elT, avt, termCells_eq, go_sem, simprocAttr]; done))) | (refine c_ctrE (ctr262 (tInt a.kids.length)) ?_ ?_; (focus (simp -implicitDefEqProofs (disch := omega) only [zf m1, zf m2, zf m3, zf m4, zf m5, zf m6, zf m7, zt hx, avs, avb, avi, avo, sigCells, opCells, pairCells, elT, avt, termCells_eq, go_sem, simprocAttr]; done)))); simp -implicitDefEqProofs (disch := omega) only [zf m1, zf m2, zf m3, zf m4, zf m5, zf m6, zf m7, zt hx, go_sem, simprocAttr]) | refine And.intro (by omega) ?_ | (intro hr; have hc := hr; (try simp only [zda, zdb, zdc, zdd] at hc); simp -implicitDefEqProofs (disch := omega) only [hr, zf m1, zf m2, zf m3, zf m4, zf m5, zf m6, zf m7, zt hx, go_sem, simprocAttr]; (try clear hr))))
   all_goals subst hR
   all_goals first
     | exact fin_res rfl (rd6_sl (l := [])) (rd6_sl (l := []))
     | (refine fin_res ?_ (rd6_sl (l := [])) (rd6_sl (l := [])); simp only [hc, decide_true, decide_false, Bool.true_and, Bool.false_and, Bool.or_true, Bool.true_or, Bool.false_or, if_true, if_false, Bool.false_eq_true, reduceIte]; done)
     | (refine fin_res ?_ (rd6_sl (l := [])) (rd6_sl (l := [])); rw [zf hc]; rfl)
     | (refine fin_res ?_ (rd6_sl (l := [])) (rd6_sl (l := [])); rw [zt hc]; rfl)
     | (refine fin_res ?_ rd6_e0 rd6_e0; simp only [hc, decide_true, decide_false, if_true, if_false, Bool.false_eq_true, reduceIte]; done)
theorem ctr246join (s : LSig) (x : Str) (a b : LTerm) (ha : a.kids.length ≤ 2000) (hb : b.kids.length ≤ 2000) (hx : x = njoin): CT 74 [bookAV s, .s x, avt [a, b]] (resV (.mk 7 0 [] [] (a.kids ++ b.kids) [], 0)) := by
 refine sem_introA mixed Tryz.func74 g0 ?_
 · generalize hR : ((resV (.mk 7 0 [] [] (a.kids ++ b.kids) [], 0)) : AV) = R
   simp -implicitDefEqProofs (disch := omega) only [Tryz.f74, go_sem, List.replicate, simprocAttr, avt, List.flatMap_cons, List.flatMap_nil, termCells_eq, List.cons_append, List.nil_append, List.append_nil, List.length_cons, List.length_nil, Nat.reduceAdd]
   have m1 : ¬ x = neq := by rw [hx]; decide
   have m2 : ¬ x = nne := by rw [hx]; decide
   have m3 : ¬ x = nand := by rw [hx]; decide
   have m4 : ¬ x = nor := by rw [hx]; decide
   have m5 : ¬ x = nnot := by rw [hx]; decide
   have m6 : ¬ x = npick := by rw [hx]; decide
   have m7 : ¬ x = ncat := by rw [hx]; decide
   have m8 : ¬ x = nlength := by rw [hx]; decide
   simp -implicitDefEqProofs (disch := omega) only [zf m1, zf m2, zf m3, zf m4, zf m5, zf m6, zf m7, zf m8, zt hx, go_sem, simprocAttr]
   (repeat' (first | refine gT ?_ ?_ | refine gF ?_ ?_ | refine gC ?_ ?_ | refine And.intro (by omega) ?_ | (intro hr; have hc := hr; (try simp only [zda, zdb, zdc, zdd] at hc); simp -implicitDefEqProofs (disch := omega) only [hr, zf m1, zf m2, zf m3, zf m4, zf m5, zf m6, zf m7, zf m8, zt hx, go_sem, simprocAttr]; (try clear hr))))
   refine c_ctrE (ctr268 [a.kids, b.kids] (by simp) (by simp [sumT]; omega)) ?_ ?_
   · simp -implicitDefEqProofs (disch := omega) only [List.map_cons, List.map_nil, List.length_cons, List.length_nil, avt, go_sem, simprocAttr]
   · obtain ⟨q, hq⟩ : ∃ q, q = [a.kids, b.kids].flatten := ⟨_, rfl⟩
     rw [← hq]
     rcases bool_em (Vo.flat (avt q)) with hf | hf
     all_goals first | rw [hA_y hf] | rw [hA_n hf]
     all_goals simp -implicitDefEqProofs (disch := omega) only [go_sem, simprocAttr]
     all_goals
       obtain ⟨t, ht⟩ : ∃ t, t = LTerm.mk 7 0 [] [] q [] := ⟨_, rfl⟩
       refine c_ctrE (ctr262 t) ?_ ?_
       · rw [List.map_cons, List.map_nil, snap_t rd6_sl rd6_e0, ht]; rfl
       · rw [after_t0]
         simp -implicitDefEqProofs (disch := omega) only [go_sem, simprocAttr]
         subst hR
         exact fin_resP (q := (t, 0)) (by rw [ht, hq]; simp)
theorem ctr246is (s : LSig) (x : Str) (a b : LTerm) (hs : Small s) (hx : x = nis): CT 74 [bookAV s, .s x, avt [a, b]] (resV (if existsA s b.text = true then (tBool (atMost s (sortP s a) b.text), 0) else (tZ, 13))) := by
 refine sem_introA mixed Tryz.func74 g0 ?_
 · generalize hR : ((resV (if existsA s b.text = true then (tBool (atMost s (sortP s a) b.text), 0) else (tZ, 13))) : AV) = R
   simp -implicitDefEqProofs (disch := omega) only [Tryz.f74, go_sem, List.replicate, simprocAttr, avt, List.flatMap_cons, List.flatMap_nil, termCells_eq, List.cons_append, List.nil_append, List.append_nil, List.length_cons, List.length_nil, Nat.reduceAdd]
   have m1 : ¬ x = neq := by rw [hx]; decide
   have m2 : ¬ x = nne := by rw [hx]; decide
   have m3 : ¬ x = nand := by rw [hx]; decide
   have m4 : ¬ x = nor := by rw [hx]; decide
   have m5 : ¬ x = nnot := by rw [hx]; decide
   have m6 : ¬ x = npick := by rw [hx]; decide
   have m7 : ¬ x = ncat := by rw [hx]; decide
   have m8 : ¬ x = nlength := by rw [hx]; decide
   have m9 : ¬ x = njoin := by rw [hx]; decide
   simp -implicitDefEqProofs (disch := omega) only [zf m1, zf m2, zf m3, zf m4, zf m5, zf m6, zf m7, zf m8, zf m9, zt hx, go_sem, simprocAttr]
   (repeat' (first | refine gT ?_ ?_ | refine gF ?_ ?_ | refine gC ?_ ?_ | ((first | (refine c_ctrE (ctr54 s b.text) ?_ ?_; (focus (simp -implicitDefEqProofs (disch := omega) only [zf m1, zf m2, zf m3, zf m4, zf m5, zf m6, zf m7, zf m8, zf m9, zt hx, bookAV, avs, avb, avi, avo, sigCells, opCells, pairCells, elT, avt, termCells_eq, go_sem, simprocAttr]; done))) | (refine c_ctrE (ctr244 s a) ?_ ?_; (focus (simp -implicitDefEqProofs (disch := omega) only [zf m1, zf m2, zf m3, zf m4, zf m5, zf m6, zf m7, zf m8, zf m9, zt hx, bookAV, avs, avb, avi, avo, sigCells, opCells, pairCells, elT, avt, termCells_eq, go_sem, simprocAttr]; done))) | (refine c_ctrE (ctr71 s (sortP s a) b.text hs) ?_ ?_; (focus (simp -implicitDefEqProofs (disch := omega) only [zf m1, zf m2, zf m3, zf m4, zf m5, zf m6, zf m7, zf m8, zf m9, zt hx, bookAV, avs, avb, avi, avo, sigCells, opCells, pairCells, elT, avt, termCells_eq, go_sem, simprocAttr]; done))) | (refine c_ctrE (ctr263 (atMost s (sortP s a) b.text)) ?_ ?_; (focus (simp -implicitDefEqProofs (disch := omega) only [zf m1, zf m2, zf m3, zf m4, zf m5, zf m6, zf m7, zf m8, zf m9, zt hx, bookAV, avs, avb, avi, avo, sigCells, opCells, pairCells, elT, avt, termCells_eq, go_sem, simprocAttr]; done))) | (refine c_ctrE (ctr262 (tBool (atMost s (sortP s a) b.text))) ?_ ?_; (focus (simp -implicitDefEqProofs (disch := omega) only [zf m1, zf m2, zf m3, zf m4, zf m5, zf m6, zf m7, zf m8, zf m9, zt hx, bookAV, avs, avb, avi, avo, sigCells, opCells, pairCells, elT, avt, termCells_eq, go_sem, simprocAttr]; done)))); simp -implicitDefEqProofs (disch := omega) only [zf m1, zf m2, zf m3, zf m4, zf m5, zf m6, zf m7, zf m8, zf m9, zt hx, bookAV, go_sem, simprocAttr]) | refine And.intro (by omega) ?_ | (intro hr; have hc := hr; (try simp only [zda, zdb, zdc, zdd] at hc); simp -implicitDefEqProofs (disch := omega) only [hr, zf m1, zf m2, zf m3, zf m4, zf m5, zf m6, zf m7, zf m8, zf m9, zt hx, bookAV, go_sem, simprocAttr]; (try clear hr))))
   all_goals subst hR
   all_goals first
     | exact fin_res rfl (rd6_sl (l := [])) (rd6_sl (l := []))
     | (refine fin_res ?_ (rd6_sl (l := [])) (rd6_sl (l := [])); simp only [hc, decide_true, decide_false, Bool.true_and, Bool.false_and, Bool.or_true, Bool.true_or, Bool.false_or, if_true, if_false, Bool.false_eq_true, reduceIte]; done)
     | (refine fin_res ?_ (rd6_sl (l := [])) (rd6_sl (l := [])); rw [zf hc]; rfl)
     | (refine fin_res ?_ (rd6_sl (l := [])) (rd6_sl (l := [])); rw [zt hc]; rfl)
     | (refine fin_res ?_ rd6_e0 rd6_e0; simp only [hc, decide_true, decide_false, if_true, if_false, Bool.false_eq_true, reduceIte]; done)
theorem ctr246isvalue (s : LSig) (x : Str) (a : LTerm) (hs : Small s) (hx : x = nisvalue): CT 74 [bookAV s, .s x, avt [a]] (resV (tBool (isValue s (sortP s a)), 0)) := by
 refine sem_introA mixed Tryz.func74 g0 ?_
 · generalize hR : ((resV (tBool (isValue s (sortP s a)), 0)) : AV) = R
   simp -implicitDefEqProofs (disch := omega) only [Tryz.f74, go_sem, List.replicate, simprocAttr, avt, List.flatMap_cons, List.flatMap_nil, termCells_eq, List.cons_append, List.nil_append, List.append_nil, List.length_cons, List.length_nil, Nat.reduceAdd]
   have m1 : ¬ x = neq := by rw [hx]; decide
   have m2 : ¬ x = nne := by rw [hx]; decide
   have m3 : ¬ x = nand := by rw [hx]; decide
   have m4 : ¬ x = nor := by rw [hx]; decide
   have m5 : ¬ x = nnot := by rw [hx]; decide
   have m6 : ¬ x = npick := by rw [hx]; decide
   have m7 : ¬ x = ncat := by rw [hx]; decide
   have m8 : ¬ x = nlength := by rw [hx]; decide
   have m9 : ¬ x = njoin := by rw [hx]; decide
   have m10 : ¬ x = nis := by rw [hx]; decide
   simp -implicitDefEqProofs (disch := omega) only [zf m1, zf m2, zf m3, zf m4, zf m5, zf m6, zf m7, zf m8, zf m9, zf m10, go_sem, simprocAttr]
   (repeat' (first | refine gT ?_ ?_ | refine gF ?_ ?_ | refine gC ?_ ?_ | ((first | (refine c_ctrE (ctr244 s a) ?_ ?_; (focus (simp -implicitDefEqProofs (disch := omega) only [zf m1, zf m2, zf m3, zf m4, zf m5, zf m6, zf m7, zf m8, zf m9, zf m10, bookAV, avs, avb, avi, avo, sigCells, opCells, pairCells, elT, avt, termCells_eq, go_sem, simprocAttr]; done))) | (refine c_ctrE (ctr77 s (sortP s a) hs) ?_ ?_; (focus (simp -implicitDefEqProofs (disch := omega) only [zf m1, zf m2, zf m3, zf m4, zf m5, zf m6, zf m7, zf m8, zf m9, zf m10, bookAV, avs, avb, avi, avo, sigCells, opCells, pairCells, elT, avt, termCells_eq, go_sem, simprocAttr]; done))) | (refine c_ctrE (ctr263 (isValue s (sortP s a))) ?_ ?_; (focus (simp -implicitDefEqProofs (disch := omega) only [zf m1, zf m2, zf m3, zf m4, zf m5, zf m6, zf m7, zf m8, zf m9, zf m10, bookAV, avs, avb, avi, avo, sigCells, opCells, pairCells, elT, avt, termCells_eq, go_sem, simprocAttr]; done))) | (refine c_ctrE (ctr262 (tBool (isValue s (sortP s a)))) ?_ ?_; (focus (simp -implicitDefEqProofs (disch := omega) only [zf m1, zf m2, zf m3, zf m4, zf m5, zf m6, zf m7, zf m8, zf m9, zf m10, bookAV, avs, avb, avi, avo, sigCells, opCells, pairCells, elT, avt, termCells_eq, go_sem, simprocAttr]; done)))); simp -implicitDefEqProofs (disch := omega) only [zf m1, zf m2, zf m3, zf m4, zf m5, zf m6, zf m7, zf m8, zf m9, zf m10, bookAV, go_sem, simprocAttr]) | refine And.intro (by omega) ?_ | (intro hr; have hc := hr; (try simp only [zda, zdb, zdc, zdd] at hc); simp -implicitDefEqProofs (disch := omega) only [hr, zf m1, zf m2, zf m3, zf m4, zf m5, zf m6, zf m7, zf m8, zf m9, zf m10, bookAV, go_sem, simprocAttr]; (try clear hr))))
   all_goals subst hR
   all_goals first
     | exact fin_res rfl (rd6_sl (l := [])) (rd6_sl (l := []))
     | (refine fin_res ?_ (rd6_sl (l := [])) (rd6_sl (l := [])); simp only [hc, decide_true, decide_false, Bool.true_and, Bool.false_and, Bool.or_true, Bool.true_or, Bool.false_or, if_true, if_false, Bool.false_eq_true, reduceIte]; done)
     | (refine fin_res ?_ (rd6_sl (l := [])) (rd6_sl (l := [])); rw [zf hc]; rfl)
     | (refine fin_res ?_ (rd6_sl (l := [])) (rd6_sl (l := [])); rw [zt hc]; rfl)
     | (refine fin_res ?_ rd6_e0 rd6_e0; simp only [hc, decide_true, decide_false, if_true, if_false, Bool.false_eq_true, reduceIte]; done)

def SortedE (es : List Ent) : Prop := ∀ i j, i < j → j < es.length → ordP (es.getD i default).1 (es.getD j default).1 < 0
theorem entry_at {k : LTerm} {es : List Ent} {i : Nat} (hs : SortedE es) (hi : i < es.length) (h : (es.getD i default).1 = k) : posK k es = i ∧ hasK k es = true := by
 have h0 : ordP (es.getD i default).1 k = 0 := (ord_zero _ _).2 h
 have := pos_at hi (fun j hj => by have := hs j i hj hi; rw [h] at this; exact this) (by omega)
 exact ⟨this.1, by rw [this.2, h0]; rfl⟩
theorem entry_no {k : LTerm} {es : List Ent} (h : ∀ j, j < es.length → ¬ (es.getD j default).1 = k) : hasK k es = false := by
 rcases bool_em (hasK k es) with hh | hh
 · have := pos_has hh; exact absurd this.2 (h _ this.1)
 · exact hh
def entR (k : LTerm) (es : List Ent) : Int := if hasK k es = true then ((2 * posK k es : Nat) : Int) else -1
theorem ctr293 (m k : LTerm) (es : List Ent) (hm : m.kids = flat es) (om : OkT m) (ok : OkT k) (hs : SortedE es): CT 169 [elT m, elT k] (.i .i64 (entR k es)) := by
 refine sem_introB mixed Tryz.func169 g0 ?_
 · skip
   have hk1 := om.kids
   have hl : m.kids.length = 2 * es.length := by rw [hm, flat_len]
   refine x_loopJ (fun (i : Nat) => [.k, .k, .k, .k, .j, .v (.i .i64 ((2 * i : Nat) : Int)), .j, .j, .j, .j, .j, .j, .j, .j, .j, .j, .j, .j, .j, .j, .j, .j]) (fun i => [.box false [.i .i64 (m).kind, .i .i64 (m).n, .s (m).text, .s (m).sort, .sl ((m).kids.flatMap termCells) (m).kids.length, .sl ((m).rest.flatMap termCells) (m).rest.length], .box false [.i .i64 (k).kind, .i .i64 (k).n, .s (k).text, .s (k).sort, .sl ((k).kids.flatMap termCells) (k).kids.length, .sl ((k).rest.flatMap termCells) (k).rest.length]]) (fun i => i ≤ es.length ∧ ∀ j, j < i → ¬ (es.getD j default).1 = k) (fun i => es.length - i) (0) ⟨Nat.zero_le _, fun j h => by omega⟩ rfl (by simp [Fits]) ?_
   rintro i j ⟨hi, ha⟩
   have o1 : i < es.length → CT 14 [elT (m.kids.getD (2 * i) default), elT k] (.b (decide (m.kids.getD (2 * i) default = k))) := fun h => ctr211 _ _ (om.kid _ (mem_getD (by omega))) ok
   have o2 : i < es.length → m.kids.getD (2 * i) default = (es.getD i default).1 := fun h => by rw [hm, flat_key h]
   simp -implicitDefEqProofs (disch := omega) only [go_sem, ↓reduceIte, reduceAdd, reduceSub, reduceMul, reduceLeDiff, reduceLT, reduceEqDiff, reduceNeg, Nat.reduceBEq]
   (repeat' (first | refine gT ?_ ?_ | refine gF ?_ ?_ | refine gC ?_ ?_ | ((refine c_ctrE ((o1 (by omega))) ?_ ?_; (focus (simp -implicitDefEqProofs (disch := omega) only [avs, avb, avi, avo, sigCells, opCells, pairCells, elT, avt, termCells_eq, go_sem, ↓reduceIte, reduceAdd, reduceSub, reduceMul, reduceLeDiff, reduceLT, reduceEqDiff, reduceNeg, Nat.reduceBEq]; done))); simp -implicitDefEqProofs (disch := omega) only [go_sem, ↓reduceIte, reduceAdd, reduceSub, reduceMul, reduceLeDiff, reduceLT, reduceEqDiff, reduceNeg, Nat.reduceBEq]) | refine And.intro (by omega) ?_ | (intro hr; have hc := hr; (try simp only [zda, zdb, zdc, zdd] at hc); simp -implicitDefEqProofs (disch := omega) only [hr, go_sem, ↓reduceIte, reduceAdd, reduceSub, reduceMul, reduceLeDiff, reduceLT, reduceEqDiff, reduceNeg, Nat.reduceBEq]; (try clear hr))))
   · rw [o2 (by omega)] at *
     have := entry_at (i := i) hs (by omega) (by assumption)
     exact fin_eq (by rw [entR, if_pos this.2, this.1]) rfl
   · rw [o2 (by omega)] at *
     exact ⟨i + 1, ⟨by omega, fun j hj => by rcases Nat.lt_succ_iff_lt_or_eq.1 hj with h | h; exact ha j h; rw [h]; assumption⟩, by omega, by rw [show ((2 * (i + 1) : Nat) : Int) = ((2 * i : Nat) : Int) + 2 by omega]⟩
   · have := entry_no (es := es) (k := k) (fun j hj => ha j (by omega))
     exact fin_eq (by rw [entR, this]; rfl) rfl
def layE (k v : LTerm) : Bool → List Ent → List Ent
 | ins, [] => if ins then [] else [(k, v)]
 | ins, e :: l => (if 0 ≤ ordR e.1 k ∧ ins = false then [(k, v)] else []) ++ (if ordR e.1 k = 0 then [] else [e]) ++ layE k v (ins || decide (0 ≤ ordR e.1 k)) l
def putE (k v : LTerm) (es : List Ent) : List Ent := es.take (posK k es) ++ (k, v) :: es.drop (posK k es + (if hasK k es then 1 else 0))
theorem SortedE.tail {e : Ent} {es : List Ent} (h : SortedE (e :: es)) : SortedE es := fun i j hij hj => by
 have := h (i + 1) (j + 1) (by omega) (by simpa using hj)
 simpa using this
theorem lay_on {k v : LTerm} : ∀ {es : List Ent}, (∀ e ∈ es, 0 < ordR e.1 k) → layE k v true es = es
 | [], _ => rfl
 | e :: es, h => by
   have h0 := h e (by simp)
   rw [layE, if_neg (by simp), if_neg (by omega), Bool.true_or, lay_on (fun x hx => h x (by simp [hx]))]; rfl
theorem lay_put {k v : LTerm} : ∀ {es : List Ent}, SortedE es → (∀ e ∈ es, ordR e.1 k = ordP e.1 k) → layE k v false es = putE k v es
 | [], _, _ => rfl
 | e :: es, hs, hr => by
   have he := hr e (by simp)
   by_cases h1 : ordP e.1 k < 0
   · rw [layE, he, if_neg (by omega), if_neg (by omega), zf (by omega), Bool.or_false, lay_put hs.tail (fun x hx => hr x (by simp [hx]))]
     simp only [putE, posK, hasK, if_pos h1, List.take_succ_cons, List.nil_append, List.cons_append]
     rw [show posK k es + 1 + (if hasK k es = true then 1 else 0) = (posK k es + (if hasK k es = true then 1 else 0)) + 1 by omega, List.drop_succ_cons]
   · have hon : layE k v true es = es := lay_on fun x hx => by
       rw [hr x (by simp [hx])]
       obtain ⟨j, hj, rfl⟩ := List.mem_iff_getElem.1 hx
       have h3 := hs 0 (j + 1) (by omega) (by simpa using hj)
       rw [List.getD_cons_zero, List.getD_cons_succ, getD_el hj] at h3
       have h4 := ord_anti es[j].1 k
       have h5 := ord_anti e.1 k
       have h6 := ord_tri k e.1 es[j].1
       have h7 := h6.2.1 (by omega) h3
       omega
     rw [layE, he, if_pos ⟨by omega, rfl⟩, zt (by omega), Bool.or_true, hon]
     simp only [putE, posK, hasK, if_neg h1, List.take_zero, List.nil_append]
     by_cases h2 : ordP e.1 k = 0
     · simp [h2]
     · simp [h2]
theorem out_rd2 {a b : AObj} {g : List AObj} {out : AV} {l : List LTerm} {n : Nat} (h : OutIs 6 2 g out (l.flatMap termCells) n) (hn : n = l.length) : Rd6 (a :: b :: g) out l := by
 subst hn
 rcases h with ⟨rfl, hn, h0⟩ | ⟨i, rfl, hi, hl⟩
 · exact .inl ⟨rfl, List.length_eq_zero_iff.1 (by omega)⟩
 · refine .inr (.inr ⟨i + 2, 0, _, _, _, rfl, (by simpa using hi), by omega, ?_⟩)
   rw [List.drop_zero, List.take_of_length_le (by omega)]
theorem out_more {g : List AObj} {out : AV} {es : List Ent} {a b : LTerm} (h : OutIs 6 2 g out ((flat es).flatMap termCells ++ ([.i .i64 (a).kind, .i .i64 (a).n, .s (a).text, .s (a).sort, .sl ((a).kids.flatMap termCells) (a).kids.length, .sl ((a).rest.flatMap termCells) (a).rest.length] ++ [.i .i64 (b).kind, .i .i64 (b).n, .s (b).text, .s (b).sort, .sl ((b).kids.flatMap termCells) (b).kids.length, .sl ((b).rest.flatMap termCells) (b).rest.length])) (2 * es.length + 2)) : OutIs 6 2 g out ((flat (es ++ [(a, b)])).flatMap termCells) (2 * (es ++ [(a, b)]).length) := by
 rw [flat_append, List.flatMap_append, List.length_append]
 simp only [flat_cons, flat_nil, List.flatMap_cons, List.flatMap_nil, List.append_nil, termCells_eq, List.length_cons, List.length_nil, Nat.zero_add]
 rw [show 2 * (es.length + 1) = 2 * es.length + 2 by omega]
 exact h
theorem lay_at {k v : LTerm} {ins : Bool} {es : List Ent} {i : Nat} (h : i < es.length) : layE k v ins (es.drop i) = (if 0 ≤ ordR (es.getD i default).1 k ∧ ins = false then [(k, v)] else []) ++ (if ordR (es.getD i default).1 k = 0 then [] else [((es.getD i default).1, (es.getD i default).2)]) ++ layE k v (ins || decide (0 ≤ ordR (es.getD i default).1 k)) (es.drop (i + 1)) := by
 rw [List.drop_eq_getElem_cons h, layE, getD_el h]
theorem rep2t {α : Type} {l : List α} : (List.replicate 2 l).flatten = l ++ l := by simp [List.replicate]
theorem ctr294 (l : List LTerm) (k v : LTerm) (es : List Ent) (hm : l = flat es) (hl2 : es.length ≤ 1000) (oe : ∀ t ∈ l, OkT t) (ok : OkT k): CT 170 [avt l, elT k, elT v] (avt (flat (layE k v false es))) := by
 refine sem_introA mixed Tryz.func170 g0 ?_
 · simp -implicitDefEqProofs (disch := omega) only [Tryz.f170, go_sem, List.replicate, ↓reduceIte, reduceAdd, reduceSub, reduceMul, reduceLeDiff, reduceLT, reduceEqDiff, reduceNeg, Nat.reduceBEq, avt]
   have hl : l.length = 2 * es.length := by rw [hm, flat_len]
   refine x_loopJ (fun (s : Nat × Bool × List Ent × AV × List AObj) => [.k, .k, .k, .k, .k, .k, .k, .v (s.2.2.2.1), .v (.b s.2.1), .v (.i .i64 ((2 * s.1 : Nat) : Int)), .j, .j, .j, .j, .j, .j, .j, .j, .j, .j, .j, .j, .j, .j, .j, .j, .j, .j, .j, .j, .j, .j, .j, .j, .j, .j, .j, .j, .j, .j, .j, .j, .j, .j, .j, .j, .j, .j, .j, .k, .k, .k, .k, .k, .k, .k, .k]) (fun s => (.box false [.i .i64 (k).kind, .i .i64 (k).n, .s (k).text, .s (k).sort, .sl ((k).kids.flatMap termCells) (k).kids.length, .sl ((k).rest.flatMap termCells) (k).rest.length] :: .box false [.i .i64 (v).kind, .i .i64 (v).n, .s (v).text, .s (v).sort, .sl ((v).kids.flatMap termCells) (v).kids.length, .sl ((v).rest.flatMap termCells) (v).rest.length] :: s.2.2.2.2)) (fun s => s.1 ≤ es.length ∧ OutIs 6 2 s.2.2.2.2 s.2.2.2.1 ((flat s.2.2.1).flatMap termCells) (2 * s.2.2.1.length) ∧ s.2.2.1.length ≤ 2 * s.1 ∧ layE k v false es = s.2.2.1 ++ layE k v s.2.1 (es.drop s.1)) (fun s => es.length - s.1) ((0, false, [], .e0, [])) ⟨Nat.zero_le _, outIs_e0, by simp, rfl⟩ rfl (by simp [Fits]) ?_
   rintro ⟨i, ins, done, out, g⟩ j ⟨hi, ho, hd, he⟩
   dsimp only at hi ho hd he
   have o1 : i < es.length → CT 134 [elT (l.getD (2 * i) default), elT k] (.i .i64 (ordR (l.getD (2 * i) default) k)) := fun h => ctr274 _ _ (oe _ (mem_getD (by omega))) ok
   have o2 : i < es.length → l.getD (2 * i) default = (es.getD i default).1 := fun h => by rw [hm, flat_key h]
   have o3 : i < es.length → l.getD (2 * i + 1) default = (es.getD i default).2 := fun h => by rw [hm, flat_val h]
   simp -implicitDefEqProofs (disch := omega) only [go_sem, ↓reduceIte, reduceAdd, reduceSub, reduceMul, reduceLeDiff, reduceLT, reduceEqDiff, reduceNeg, Nat.reduceBEq]
   (repeat' (first | refine gT ?_ ?_ | refine gF ?_ ?_ | refine gC ?_ ?_ | ((refine c_ctrE ((o1 (by omega))) ?_ ?_; (focus (simp -implicitDefEqProofs (disch := omega) only [rep2t, avs, avb, avi, avo, sigCells, opCells, pairCells, elT, avt, termCells_eq, go_sem, ↓reduceIte, reduceAdd, reduceSub, reduceMul, reduceLeDiff, reduceLT, reduceEqDiff, reduceNeg, Nat.reduceBEq]; done))); simp -implicitDefEqProofs (disch := omega) only [rep2t, go_sem, ↓reduceIte, reduceAdd, reduceSub, reduceMul, reduceLeDiff, reduceLT, reduceEqDiff, reduceNeg, Nat.reduceBEq]) | refine And.intro (by omega) ?_ | (intro hr; have hc := hr; (try simp only [zda, zdb, zdc, zdd] at hc); simp -implicitDefEqProofs (disch := omega) only [hr, rep2t, go_sem, ↓reduceIte, reduceAdd, reduceSub, reduceMul, reduceLeDiff, reduceLT, reduceEqDiff, reduceNeg, Nat.reduceBEq]; (try clear hr))))
   · refine app_intro' (pre := [_, _]) (news := ([.i .i64 (k).kind, .i .i64 (k).n, .s (k).text, .s (k).sort, .sl ((k).kids.flatMap termCells) (k).kids.length, .sl ((k).rest.flatMap termCells) (k).rest.length] ++ [.i .i64 (v).kind, .i .i64 (v).n, .s (v).text, .s (v).sort, .sl ((v).kids.flatMap termCells) (v).kids.length, .sl ((v).rest.flatMap termCells) (v).rest.length])) (m := 2) ho rfl rfl el27 zo32 sz32 by32 rfl (by decide) (by simp -implicitDefEqProofs (disch := omega) only [go_sem, ↓reduceIte, reduceAdd, reduceSub, reduceMul, reduceLeDiff, reduceLT, reduceEqDiff, reduceNeg, Nat.reduceBEq]) (by simp -implicitDefEqProofs (disch := omega) only [go_sem, ↓reduceIte, reduceAdd, reduceSub, reduceMul, reduceLeDiff, reduceLT, reduceEqDiff, reduceNeg, Nat.reduceBEq]) ⟨by omega, by omega⟩ ?_
     intro out2 g2 ho2 _
     have ho3 := out_more ho2
     have hlt : i < es.length := by omega
     have h0 : 0 ≤ ordR (l.getD (2 * i) default) k := by assumption
     have hins : ins = false := by assumption
     have hd3 : (done ++ [(k, v)]).length = done.length + 1 := by simp
     simp -implicitDefEqProofs (disch := omega) only [go_sem, ↓reduceIte, reduceAdd, reduceSub, reduceMul, reduceLeDiff, reduceLT, reduceEqDiff, reduceNeg, Nat.reduceBEq]
     (repeat' (first | refine gT ?_ ?_ | refine gF ?_ ?_ | refine gC ?_ ?_ | refine And.intro (by omega) ?_ | (intro hr; have hc := hr; (try simp only [zda, zdb, zdc, zdd] at hc); simp -implicitDefEqProofs (disch := omega) only [hr, rep2t, go_sem, ↓reduceIte, reduceAdd, reduceSub, reduceMul, reduceLeDiff, reduceLT, reduceEqDiff, reduceNeg, Nat.reduceBEq]; (try clear hr))))
     · refine app_intro' (pre := [_, _]) (news := ([.i .i64 (l.getD (2 * i) default).kind, .i .i64 (l.getD (2 * i) default).n, .s (l.getD (2 * i) default).text, .s (l.getD (2 * i) default).sort, .sl ((l.getD (2 * i) default).kids.flatMap termCells) (l.getD (2 * i) default).kids.length, .sl ((l.getD (2 * i) default).rest.flatMap termCells) (l.getD (2 * i) default).rest.length] ++ [.i .i64 (l.getD (2 * i + 1) default).kind, .i .i64 (l.getD (2 * i + 1) default).n, .s (l.getD (2 * i + 1) default).text, .s (l.getD (2 * i + 1) default).sort, .sl ((l.getD (2 * i + 1) default).kids.flatMap termCells) (l.getD (2 * i + 1) default).kids.length, .sl ((l.getD (2 * i + 1) default).rest.flatMap termCells) (l.getD (2 * i + 1) default).rest.length])) (m := 2) ho3 rfl rfl el27 zo32 sz32 by32 rfl (by decide) (by simp -implicitDefEqProofs (disch := omega) only [go_sem, ↓reduceIte, reduceAdd, reduceSub, reduceMul, reduceLeDiff, reduceLT, reduceEqDiff, reduceNeg, Nat.reduceBEq]) (by simp -implicitDefEqProofs (disch := omega) only [go_sem, ↓reduceIte, reduceAdd, reduceSub, reduceMul, reduceLeDiff, reduceLT, reduceEqDiff, reduceNeg, Nat.reduceBEq]) ⟨by omega, by omega⟩ ?_
       intro out4 g4 ho4 _
       have ho5 := out_more (es := done ++ [(k, v)]) (by simpa using ho4)
       simp -implicitDefEqProofs (disch := omega) only [go_sem, ↓reduceIte, reduceAdd, reduceSub, reduceMul, reduceLeDiff, reduceLT, reduceEqDiff, reduceNeg, Nat.reduceBEq]
       refine ⟨(i + 1, true, done ++ [(k, v)] ++ [(l.getD (2 * i) default, l.getD (2 * i + 1) default)], out4, g4), ⟨by dsimp only; omega, ho5, by simp; omega, ?_⟩, by dsimp only; omega, ?_⟩
       · dsimp only
         rw [he, lay_at hlt, ← o2 hlt, ← o3 hlt, if_pos ⟨h0, hins⟩, if_neg hc, zt h0, Bool.or_true]
         simp
       · dsimp only
         rw [show ((2 * (i + 1) : Nat) : Int) = ((2 * i : Nat) : Int) + 2 by omega]
         simp
     · skip
       refine ⟨(i + 1, true, done ++ [(k, v)], out2, g2), ⟨by dsimp only; omega, ho3, by simp; omega, ?_⟩, by dsimp only; omega, ?_⟩
       · dsimp only
         rw [he, lay_at hlt, ← o2 hlt, ← o3 hlt, if_pos ⟨h0, hins⟩, if_pos hc, zt h0, Bool.or_true]
         simp
       · dsimp only
         rw [show ((2 * (i + 1) : Nat) : Int) = ((2 * i : Nat) : Int) + 2 by omega]
         simp
   · have hlt : i < es.length := by omega
     have h0 : 0 ≤ ordR (l.getD (2 * i) default) k := by assumption
     have hins : ins = true := by assumption
     refine app_intro' (pre := [_, _]) (news := ([.i .i64 (l.getD (2 * i) default).kind, .i .i64 (l.getD (2 * i) default).n, .s (l.getD (2 * i) default).text, .s (l.getD (2 * i) default).sort, .sl ((l.getD (2 * i) default).kids.flatMap termCells) (l.getD (2 * i) default).kids.length, .sl ((l.getD (2 * i) default).rest.flatMap termCells) (l.getD (2 * i) default).rest.length] ++ [.i .i64 (l.getD (2 * i + 1) default).kind, .i .i64 (l.getD (2 * i + 1) default).n, .s (l.getD (2 * i + 1) default).text, .s (l.getD (2 * i + 1) default).sort, .sl ((l.getD (2 * i + 1) default).kids.flatMap termCells) (l.getD (2 * i + 1) default).kids.length, .sl ((l.getD (2 * i + 1) default).rest.flatMap termCells) (l.getD (2 * i + 1) default).rest.length])) (m := 2) ho rfl rfl el27 zo32 sz32 by32 rfl (by decide) (by simp -implicitDefEqProofs (disch := omega) only [go_sem, ↓reduceIte, reduceAdd, reduceSub, reduceMul, reduceLeDiff, reduceLT, reduceEqDiff, reduceNeg, Nat.reduceBEq]) (by simp -implicitDefEqProofs (disch := omega) only [go_sem, ↓reduceIte, reduceAdd, reduceSub, reduceMul, reduceLeDiff, reduceLT, reduceEqDiff, reduceNeg, Nat.reduceBEq]) ⟨by omega, by omega⟩ ?_
     intro out2 g2 ho2 _
     have ho3 := out_more ho2
     simp -implicitDefEqProofs (disch := omega) only [go_sem, ↓reduceIte, reduceAdd, reduceSub, reduceMul, reduceLeDiff, reduceLT, reduceEqDiff, reduceNeg, Nat.reduceBEq]
     refine ⟨(i + 1, true, done ++ [(l.getD (2 * i) default, l.getD (2 * i + 1) default)], out2, g2), ⟨by dsimp only; omega, ho3, by simp; omega, ?_⟩, by dsimp only; omega, ?_⟩
     · dsimp only
       rw [he, lay_at hlt, ← o2 hlt, ← o3 hlt, if_neg (by rw [hins]; simp), if_neg hc, zt h0, Bool.or_true]
       simp
     · dsimp only
       rw [show ((2 * (i + 1) : Nat) : Int) = ((2 * i : Nat) : Int) + 2 by omega]
       simp [hins]
   · have hlt : i < es.length := by omega
     have h0 : 0 ≤ ordR (l.getD (2 * i) default) k := by omega
     have hins : ins = true := by assumption
     refine ⟨(i + 1, true, done, out, g), ⟨by dsimp only; omega, ho, by simp; omega, ?_⟩, by dsimp only; omega, ?_⟩
     · dsimp only
       rw [he, lay_at hlt, ← o2 hlt, ← o3 hlt, if_neg (by rw [hins]; simp), if_pos hc, zt h0, Bool.or_true]
       simp
     · dsimp only
       rw [show ((2 * (i + 1) : Nat) : Int) = ((2 * i : Nat) : Int) + 2 by omega]
       simp [hins]
   · have hlt : i < es.length := by omega
     have h0 : ¬ 0 ≤ ordR (l.getD (2 * i) default) k := by assumption
     refine app_intro' (pre := [_, _]) (news := ([.i .i64 (l.getD (2 * i) default).kind, .i .i64 (l.getD (2 * i) default).n, .s (l.getD (2 * i) default).text, .s (l.getD (2 * i) default).sort, .sl ((l.getD (2 * i) default).kids.flatMap termCells) (l.getD (2 * i) default).kids.length, .sl ((l.getD (2 * i) default).rest.flatMap termCells) (l.getD (2 * i) default).rest.length] ++ [.i .i64 (l.getD (2 * i + 1) default).kind, .i .i64 (l.getD (2 * i + 1) default).n, .s (l.getD (2 * i + 1) default).text, .s (l.getD (2 * i + 1) default).sort, .sl ((l.getD (2 * i + 1) default).kids.flatMap termCells) (l.getD (2 * i + 1) default).kids.length, .sl ((l.getD (2 * i + 1) default).rest.flatMap termCells) (l.getD (2 * i + 1) default).rest.length])) (m := 2) ho rfl rfl el27 zo32 sz32 by32 rfl (by decide) (by simp -implicitDefEqProofs (disch := omega) only [go_sem, ↓reduceIte, reduceAdd, reduceSub, reduceMul, reduceLeDiff, reduceLT, reduceEqDiff, reduceNeg, Nat.reduceBEq]) (by simp -implicitDefEqProofs (disch := omega) only [go_sem, ↓reduceIte, reduceAdd, reduceSub, reduceMul, reduceLeDiff, reduceLT, reduceEqDiff, reduceNeg, Nat.reduceBEq]) ⟨by omega, by omega⟩ ?_
     intro out2 g2 ho2 _
     have ho3 := out_more ho2
     simp -implicitDefEqProofs (disch := omega) only [go_sem, ↓reduceIte, reduceAdd, reduceSub, reduceMul, reduceLeDiff, reduceLT, reduceEqDiff, reduceNeg, Nat.reduceBEq]
     refine ⟨(i + 1, ins, done ++ [(l.getD (2 * i) default, l.getD (2 * i + 1) default)], out2, g2), ⟨by dsimp only; omega, ho3, by simp; omega, ?_⟩, by dsimp only; omega, ?_⟩
     · dsimp only
       rw [he, lay_at hlt, ← o2 hlt, ← o3 hlt, if_neg (fun h => h0 h.1), if_neg hc, zf h0, Bool.or_false]
       simp
     · dsimp only
       rw [show ((2 * (i + 1) : Nat) : Int) = ((2 * i : Nat) : Int) + 2 by omega]
       simp
   · exfalso; omega
   · have h1 : i = es.length := by omega
     have hins : ins = false := by assumption
     refine app_intro' (pre := [_, _]) (news := ([.i .i64 (k).kind, .i .i64 (k).n, .s (k).text, .s (k).sort, .sl ((k).kids.flatMap termCells) (k).kids.length, .sl ((k).rest.flatMap termCells) (k).rest.length] ++ [.i .i64 (v).kind, .i .i64 (v).n, .s (v).text, .s (v).sort, .sl ((v).kids.flatMap termCells) (v).kids.length, .sl ((v).rest.flatMap termCells) (v).rest.length])) (m := 2) ho rfl rfl el27 zo32 sz32 by32 rfl (by decide) (by simp -implicitDefEqProofs (disch := omega) only [go_sem, ↓reduceIte, reduceAdd, reduceSub, reduceMul, reduceLeDiff, reduceLT, reduceEqDiff, reduceNeg, Nat.reduceBEq]) (by simp -implicitDefEqProofs (disch := omega) only [go_sem, ↓reduceIte, reduceAdd, reduceSub, reduceMul, reduceLeDiff, reduceLT, reduceEqDiff, reduceNeg, Nat.reduceBEq]) ⟨by omega, by omega⟩ ?_
     intro out2 g2 ho2 _
     have ho3 := out_more ho2
     simp -implicitDefEqProofs (disch := omega) only [go_sem, ↓reduceIte, reduceAdd, reduceSub, reduceMul, reduceLeDiff, reduceLT, reduceEqDiff, reduceNeg, Nat.reduceBEq]
     rw [he, h1, List.drop_length, layE, hins]
     exact fin_rd (out_rd2 ho3 (by rw [flat_len]; rfl))
   · have h1 : i = es.length := by omega
     have hins : ins = true := by assumption
     rw [he, h1, List.drop_length, layE, hins, if_pos rfl, List.append_nil]
     exact fin_rd (out_rd2 ho (by rw [flat_len]))
end Go.Proofs.YtpilgabbgflbhaaGreatDoor

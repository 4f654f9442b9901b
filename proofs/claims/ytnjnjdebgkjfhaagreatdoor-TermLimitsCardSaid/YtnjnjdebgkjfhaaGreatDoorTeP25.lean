/-
  What functions of the chapter return, as plain functions of what they are given; no condition beyond those that each theorem names.
-/
import Derived.Test.YtnjnjdebgkjfhaaGreatDoorTeP24
import Derived.Test.YtnjnjdebgkjfhaaGreatDoorSoP24
import Derived.Test.YtnjnjdebgkjfhaaGreatDoorVoP27
set_option maxRecDepth 100000
set_option linter.unusedSimpArgs false
set_option linter.unusedVariables false
set_option maxHeartbeats 4000000
namespace Go.Proofs.YtnjnjdebgkjfhaaGreatDoor
open Go Go.Vo
open Nat (reduceAdd reduceSub reduceMul reduceLeDiff reduceLT reduceEqDiff)
open Int (reduceNeg)

theorem ctr269 (n : Int) (h0 : -9223372036854775808 ≤ n) (h1 : n ≤ 9223372036854775807) : CT 196 [.i .i64 n] (.s (Lib.itoa n)) := by
 refine ⟨by kernel_rfl, g0, ?_⟩
 intro F w vs hF hgl hl hr
 obtain ⟨v0, rfl⟩ := one_of hl
 have e0 := int_ok (hr 0 _ v0 rfl rfl)
 subst e0
 refine (Tryz.strconv_Itoa n h0 h1 w (box_tab (by kernel_rfl) (hgl 2 (.box powCells 0) rfl))).mono ?_
 rintro e w' ⟨rfl, k, os, rfl⟩
 have hgr : Grew w (Sort.grow (w.drewN k) os) := by
   refine ⟨fun b hb => ?_, ?_, rfl, rfl, rfl⟩
   · simp only [Sort.grow, World.drewN]; rw [Array.getElem?_append_left hb]
   · simp only [Sort.grow, World.drewN, Array.size_append]; omega
 exact ⟨_, F, [], rfl, hgr, fun _ h => h, fun _ h => .inl h, fun b hb => Nat.lt_of_lt_of_le (hF b hb) hgr.size, RR.val (.s _), List.nodup_nil, by simp⟩
theorem itoa_nat {n : Nat} : Lib.itoa (n : Int) = Lib.decDigits n := by rw [Lib.itoa, if_neg (by omega)]; rfl
theorem itoa_neg {n : Nat} (h : 0 < n) : Lib.itoa (-(n : Int)) = 45 :: Lib.decDigits n := by
 rw [Lib.itoa, if_pos (by omega)]; simp
theorem dig_small {n : Nat} (h : n < 10) : Lib.decDigits n = [UInt8.ofNat (48 + n)] := by rw [Lib.decDigits, dif_pos h]
theorem dig_big {n : Nat} (h : 10 ≤ n) : Lib.decDigits n = Lib.decDigits (n / 10) ++ Lib.decDigits (n % 10) := by
 rw [Lib.decDigits, dif_neg (by omega), dig_small (n := n % 10) (by omega)]
theorem itoa_low {n : Int} (h : n ≤ -10) : Lib.itoa (n.tdiv 10) ++ Lib.itoa (-(n.tmod 10)) = Lib.itoa n := by
 obtain ⟨m, rfl⟩ : ∃ m : Nat, n = -(m : Int) := ⟨n.natAbs, by omega⟩
 have e1 : (-(m : Int)).tdiv 10 = -((m / 10 : Nat) : Int) := by rw [Int.neg_tdiv]; rfl
 have e2 : -((-(m : Int)).tmod 10) = ((m % 10 : Nat) : Int) := by rw [Int.neg_tmod]; simp only [Int.neg_neg]; rfl
 rw [e1, e2, itoa_neg (by omega), itoa_neg (by omega), itoa_nat, dig_big (n := m) (by omega)]; rfl
theorem itoa_mid {n : Int} (h : n < 0) : (45 : UInt8) :: Lib.itoa (-n) = Lib.itoa n := by
 obtain ⟨m, rfl⟩ : ∃ m : Nat, n = -(m : Int) := ⟨n.natAbs, by omega⟩
 rw [Int.neg_neg, itoa_nat, itoa_neg (by omega)]
theorem itoa_big {n : Int} (h : 10 ≤ n) : Lib.itoa (n.tdiv 10) ++ Lib.itoa (n.tmod 10) = Lib.itoa n := by
 obtain ⟨m, rfl⟩ : ∃ m : Nat, n = (m : Int) := ⟨n.natAbs, by omega⟩
 have e1 : (m : Int).tdiv 10 = ((m / 10 : Nat) : Int) := rfl
 have e2 : (m : Int).tmod 10 = ((m % 10 : Nat) : Int) := rfl
 rw [e1, e2, itoa_nat, itoa_nat, itoa_nat, dig_big (n := m) (by omega)]
theorem itoa_dig {n : Int} (h : 0 ≤ n) (h2 : n < 10) : (([48, 49, 50, 51, 52, 53, 54, 55, 56, 57] : Str).take (n + 1).toNat).drop n.toNat = Lib.itoa n := by
 obtain ⟨m, rfl⟩ : ∃ m : Nat, n = (m : Int) := ⟨n.natAbs, by omega⟩
 rw [itoa_nat, dig_small (by omega), Int.toNat_natCast, show ((m : Int) + 1).toNat = m + 1 by omega]
 have : ∀ k, k < 10 → (([48, 49, 50, 51, 52, 53, 54, 55, 56, 57] : Str).take (k + 1)).drop k = [UInt8.ofNat (48 + k)] := by decide
 exact this m (by omega)
theorem dig_len (u : Nat) : (Lib.decDigits u).length ≤ u + 1 := by
 induction u using Nat.strongRecOn with
 | _ u ih =>
   by_cases h : u < 10
   · rw [dig_small h]; simp
   · have h1 := ih (u / 10) (by omega)
     rw [dig_big (by omega), dig_small (n := u % 10) (by omega)]
     simp; omega
theorem itoa_len (n : Int) : (Lib.itoa n).length ≤ n.natAbs + 2 := by
 rw [Lib.itoa]; split
 · have := dig_len n.natAbs; simp; omega
 · have := dig_len n.toNat; omega
theorem i10 : ((10 : Int) = 0) = False := by decide
def wt (n : Int) : Nat := 2 * n.natAbs + (if n < 0 then 1 else 0)
theorem wt1 {n : Int} (h : n ≤ -10) (h1 : -4294967296 ≤ n) : wt (n.tdiv 10) < wt n ∧ wt (-(n.tmod 10)) < wt n ∧ -4294967296 ≤ n.tdiv 10 ∧ n.tdiv 10 ≤ 0 ∧ 0 ≤ -(n.tmod 10) ∧ -(n.tmod 10) ≤ 9 := by
 obtain ⟨m, rfl⟩ : ∃ m : Nat, n = -(m : Int) := ⟨n.natAbs, by omega⟩
 have e1 : (-(m : Int)).tdiv 10 = -((m / 10 : Nat) : Int) := by rw [Int.neg_tdiv]; rfl
 have e2 : -((-(m : Int)).tmod 10) = ((m % 10 : Nat) : Int) := by rw [Int.neg_tmod]; simp only [Int.neg_neg]; rfl
 rw [e1, e2]
 simp only [wt]
 refine ⟨?_, ?_, ?_⟩ <;> (repeat' split) <;> omega
theorem wt2 {n : Int} (h : 10 ≤ n) (h1 : n ≤ 4294967296) : wt (n.tdiv 10) < wt n ∧ wt (n.tmod 10) < wt n ∧ n.tdiv 10 ≤ 4294967296 ∧ 0 ≤ n.tdiv 10 ∧ 0 ≤ n.tmod 10 ∧ n.tmod 10 ≤ 9 := by
 obtain ⟨m, rfl⟩ : ∃ m : Nat, n = (m : Int) := ⟨n.natAbs, by omega⟩
 have e1 : (m : Int).tdiv 10 = ((m / 10 : Nat) : Int) := rfl
 have e2 : (m : Int).tmod 10 = ((m % 10 : Nat) : Int) := rfl
 rw [e1, e2]
 simp only [wt]
 refine ⟨?_, ?_, ?_⟩ <;> (repeat' split) <;> omega
theorem ctr275_1 (n : Int) (h1 : -4294967296 ≤ n) (h2 : n ≤ 4294967296) (ih : ∀ m : Int, wt m < wt n → -4294967296 ≤ m → m ≤ 4294967296 → CT 138 [.i .i64 m] (.s (Lib.itoa m))): CT 138 [.i .i64 n] (.s (Lib.itoa n)) := by
 refine sem_introB mixed Tryz.func138 g0 ?_
 · skip
   by_cases hl : n ≤ -10
   · obtain ⟨w1, w2, w3, w4, w5, w6⟩ := wt1 hl h1
     have e : (0 : Int) - n.tmod 10 = -(n.tmod 10) := by omega
     simp -implicitDefEqProofs (disch := omega) only [i10, e, zt hl, go_sem, simprocAttr]
     (repeat' (first | refine gT ?_ ?_ | refine gF ?_ ?_ | refine gC ?_ ?_ | ((first | (refine c_ctrE ((ih (n.tdiv 10) w1 (by omega) (by omega))) ?_ ?_; (focus (simp -implicitDefEqProofs (disch := omega) only [i10, e, zt hl, avs, avb, avi, avo, sigCells, opCells, pairCells, elT, avt, termCells_eq, go_sem, simprocAttr]; done))) | (refine c_ctrE ((ih (-(n.tmod 10)) w2 (by omega) (by omega))) ?_ ?_; (focus (simp -implicitDefEqProofs (disch := omega) only [i10, e, zt hl, avs, avb, avi, avo, sigCells, opCells, pairCells, elT, avt, termCells_eq, go_sem, simprocAttr]; done)))); simp -implicitDefEqProofs (disch := omega) only [i10, e, zt hl, go_sem, simprocAttr]) | refine And.intro (by omega) ?_ | (intro hr; have hc := hr; (try simp only [zda, zdb, zdc, zdd] at hc); simp -implicitDefEqProofs (disch := omega) only [hr, i10, e, zt hl, go_sem, simprocAttr]; (try clear hr))))
     all_goals exact ⟨by have a := itoa_len (n.tdiv 10); have b := itoa_len (-(n.tmod 10)); omega, fin_eq (congrArg AV.s (itoa_low hl).symm) rfl⟩
   by_cases hn : n < 0
   · have e : (0 : Int) - n = -n := by omega
     simp -implicitDefEqProofs (disch := omega) only [i10, e, zf hl, zt hn, go_sem, simprocAttr]
     (repeat' (first | refine gT ?_ ?_ | refine gF ?_ ?_ | refine gC ?_ ?_ | ((refine c_ctrE ((ih (-n) (by simp only [wt]; (repeat' split) <;> omega) (by omega) (by omega))) ?_ ?_; (focus (simp -implicitDefEqProofs (disch := omega) only [i10, e, zf hl, zt hn, avs, avb, avi, avo, sigCells, opCells, pairCells, elT, avt, termCells_eq, go_sem, simprocAttr]; done))); simp -implicitDefEqProofs (disch := omega) only [i10, e, zf hl, zt hn, go_sem, simprocAttr]) | refine And.intro (by omega) ?_ | (intro hr; have hc := hr; (try simp only [zda, zdb, zdc, zdd] at hc); simp -implicitDefEqProofs (disch := omega) only [hr, i10, e, zf hl, zt hn, go_sem, simprocAttr]; (try clear hr))))
     all_goals exact ⟨by have a := itoa_len (-n); omega, fin_eq (congrArg AV.s (itoa_mid hn).symm) rfl⟩
   by_cases hd : n < 10
   · simp -implicitDefEqProofs (disch := omega) only [i10, zf hl, zf hn, zt hd, go_sem, simprocAttr]
     (repeat' (first | refine gT ?_ ?_ | refine gF ?_ ?_ | refine gC ?_ ?_ | refine And.intro (by omega) ?_ | (intro hr; have hc := hr; (try simp only [zda, zdb, zdc, zdd] at hc); simp -implicitDefEqProofs (disch := omega) only [hr, i10, zf hl, zf hn, zt hd, go_sem, simprocAttr]; (try clear hr))))
     all_goals exact fin_eq (congrArg AV.s (itoa_dig (by omega) hd).symm) rfl
   · obtain ⟨w1, w2, w3, w4, w5, w6⟩ := wt2 (by omega) h2
     simp -implicitDefEqProofs (disch := omega) only [i10, zf hl, zf hn, zf hd, go_sem, simprocAttr]
     (repeat' (first | refine gT ?_ ?_ | refine gF ?_ ?_ | refine gC ?_ ?_ | ((first | (refine c_ctrE ((ih (n.tdiv 10) w1 (by omega) (by omega))) ?_ ?_; (focus (simp -implicitDefEqProofs (disch := omega) only [i10, zf hl, zf hn, zf hd, avs, avb, avi, avo, sigCells, opCells, pairCells, elT, avt, termCells_eq, go_sem, simprocAttr]; done))) | (refine c_ctrE ((ih (n.tmod 10) w2 (by omega) (by omega))) ?_ ?_; (focus (simp -implicitDefEqProofs (disch := omega) only [i10, zf hl, zf hn, zf hd, avs, avb, avi, avo, sigCells, opCells, pairCells, elT, avt, termCells_eq, go_sem, simprocAttr]; done)))); simp -implicitDefEqProofs (disch := omega) only [i10, zf hl, zf hn, zf hd, go_sem, simprocAttr]) | refine And.intro (by omega) ?_ | (intro hr; have hc := hr; (try simp only [zda, zdb, zdc, zdd] at hc); simp -implicitDefEqProofs (disch := omega) only [hr, i10, zf hl, zf hn, zf hd, go_sem, simprocAttr]; (try clear hr))))
     all_goals exact ⟨by have a := itoa_len (n.tdiv 10); have b := itoa_len (n.tmod 10); omega, fin_eq (congrArg AV.s (itoa_big (n := n) (by omega)).symm) rfl⟩
theorem ctr275 (n : Int) (h1 : -4294967296 ≤ n) (h2 : n ≤ 4294967296) : CT 138 [.i .i64 n] (.s (Lib.itoa n)) := by
 have : ∀ k, ∀ n : Int, wt n < k → -4294967296 ≤ n → n ≤ 4294967296 → CT 138 [.i .i64 n] (.s (Lib.itoa n)) := by
   intro k
   induction k with
   | zero => intro n h; omega
   | succ k ih => intro n h a b; exact ctr275_1 n a b fun m hm c d => ih m (by omega) c d
 exact this _ n (Nat.lt_succ_self _) h1 h2
end Go.Proofs.YtnjnjdebgkjfhaaGreatDoor

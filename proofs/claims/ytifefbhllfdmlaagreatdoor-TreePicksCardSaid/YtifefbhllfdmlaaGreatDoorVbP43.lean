/-
  What functions of the chapter return, as plain functions of what they are given; no condition beyond those that each theorem names.
-/
import Derived.Test.YtifefbhllfdmlaaGreatDoorVbP42
import Derived.Test.YtifefbhllfdmlaaGreatDoorVoP50
import Derived.Test.YtifefbhllfdmlaaGreatDoorVbP41
set_option maxRecDepth 100000
set_option linter.unusedSimpArgs false
set_option linter.unusedVariables false
set_option maxHeartbeats 4000000
namespace Go.Proofs.YtifefbhllfdmlaaGreatDoor
open Go Go.Vo
open Nat (reduceAdd reduceSub reduceMul reduceLeDiff reduceLT reduceEqDiff)
open Int (reduceNeg)

def eG (s : bX) (n : Int) : List AV := [cB s, .i .i64 n]
theorem nG {s : bX} {n : Int} : persL (eG s n) = true := by simp [eG, persL, pers, pI]
def W7 (s : bX) (r : pY) (p : Option Int) : Bool := decide (0 ≤ r.index) && ((match p with | none => true | some q => decide (q < r.index)) && (decide (r.left.length ≤ 4000) && r.left.all (eR s)))
def lI (s : bX) : List pY → Option Int → Bool
 | [], _ => true
 | r :: l, p => W7 s r p && lI s l (some r.index)
theorem bFs (s : bX) (n : Int) (a : LAsk) (ha : OkK a): CT 177 [.agg (aR a), .box [.box (eG s n) 0] 0] (.b (!eR s a)) := by
 refine dS (rx := true) (th := fun _ => none) mixed Tryz.func177 g0 ?_
 · simp -implicitDefEqProofs (disch := omega) only [Tryz.f177, go_sem, List.replicate, ↓reduceIte, reduceAdd, reduceSub, reduceMul, reduceLeDiff, reduceLT, reduceEqDiff, reduceNeg, Nat.reduceBEq, aR, avt, eG]
   have c := yA s a ha
   simp only [aR, avt] at c
   (refine zt1 c ?_; repeat' first | exact trivial | refine zJ ?_ ?_ | refine zH fun hc => ?_)
   all_goals exact aE rfl rfl
theorem aBn {s : bX} {l : List pY} {k : Nat} {p : Option Int} (h : k < l.length) : lI s (l.drop k) p = (W7 s (l.getD k default) p && lI s (l.drop (k + 1)) (some (l.getD k default).index)) := by
 rw [bB h, lI]; simp [List.getD, h]
def oB (l : List pY) (k : Nat) : Option Int := if k = 0 then none else some (l.getD (k - 1) default).index
theorem bFz (s : bX) (n : Int) (l : List pY) (hl : l.length ≤ 1000000) (ho : ∀ r ∈ l, r.left.length ≤ 1000000 ∧ ∀ a ∈ r.left, OkK a): CT 115 [.box (eG s n) 0, avr l] (.b (lI s l none)) := by
 refine dS (rx := true) (th := fun _ => none) mixed Tryz.func115 g0 ?_
 · simp -implicitDefEqProofs (disch := omega) only [Tryz.f115, go_sem, List.replicate, ↓reduceIte, reduceAdd, reduceSub, reduceMul, reduceLeDiff, reduceLT, reduceEqDiff, reduceNeg, Nat.reduceBEq, avr]
   (refine zs0 ?_; repeat' first | exact trivial | refine zJ ?_ ?_ | refine zH fun hc => ?_)
   refine dV (fun (k : Nat) => [.k, .k, .k, .k, .j, .j, .j, .k, .k, .v (.i .i64 (k : Nat)), .j, .j, .j, .j, .j, .j, .j, .j, .j, .j, .j, .j, .j, .j, .j, .j, .j, .j, .j, .j, .j, .j, .j, .j, .j, .j, .j, .j, .j, .j, .j, .j, .j, .j, .j]) (fun k => [.box false [.box (eG s n) 0]]) (fun k => k ≤ l.length ∧ lI s l none = lI s (l.drop k) (oB l k)) (fun k => l.length - k) (0) [] ⟨aG _, rfl⟩ (by simp [avs, avb, avi, avo, bA, aO]) (by simp [eQ]) ?_
   rintro k g j ⟨hk, hv⟩
   by_cases hlt : k < l.length
   · have hki : (k : Int) < ((l.length : Nat) : Int) := by omega
     rw [aBn hlt] at hv
     obtain ⟨q1, q2⟩ := ho _ (aV (d := default) hlt)
     have c := aVj (l.getD k default).left 177 [] [.box [.box (eG s n) 0] 0] (fun a => !eR s a) q1 rfl (by simp [persL, pers, nG]) (fun i hi => bFs s n _ (q2 _ (aV hi)))
     have e : ((l.getD k default).left.any fun a => !eR s a) = !(l.getD k default).left.all (eR s) := J6.symm
     rw [e] at c
     clear e
     simp only [ava] at c
     have hro : W7 s (l.getD k default) (oB l k) = (decide (0 ≤ (l.getD k default).index) && ((match oB l k with | none => true | some q => decide (q < (l.getD k default).index)) && (decide ((l.getD k default).left.length ≤ 4000) && (l.getD k default).left.all (eR s)))) := rfl
     generalize (l.getD k default).left.all (eR s) = A at *
     have fin : ∀ {b : Bool} {H : List AObj}, W7 s (l.getD k default) (oB l k) = false → b = false → Fin H (.b b) (.b (lI s l none)) := fun h1 h2 => aE (by rw [hv, h1, h2]; rfl) rfl
     have nxt : W7 s (l.getD k default) (oB l k) = true → lI s l none = lI s (l.drop (k + 1)) (oB l (k + 1)) := fun h => by rw [hv, h, Bool.true_and, oB, if_neg (by omega)]; simp
     rcases jY k with h0 | h0
     · have hz : ¬ (0 : Int) < (k : Int) := by omega
       have hp : oB l k = none := by rw [oB, if_pos h0]
       rw [hp] at hro
       dsimp only at hro
       refine zh (zA2 (zt hki) (zA2 @bM.eq_1 (zf hz))) ?_
       (refine zy1 (zA2 @nG (zA2 (zt hki) (zA2 @bM.eq_1 (zf hz)))) c ?_; repeat' first | exact trivial | refine zJ ?_ ?_ | refine zH fun hc => ?_)
       all_goals first
         | exact ⟨k + 1, _, ⟨by omega, nxt (by rw [hp, hro]; (simp_all) <;> omega)⟩, by omega, rfl, by simp⟩
         | exact fin (by rw [hp, hro]; (simp_all) <;> omega) rfl
     · have hz : (0 : Int) < (k : Int) := by omega
       have hp : oB l k = some (l.getD (k - 1) default).index := by rw [oB, if_neg (by omega)]
       rw [hp] at hro
       dsimp only at hro
       have hk1 : ((k : Int) - 1) = ((k - 1 : Nat) : Int) := by omega
       refine zh (zA2 (zt hki) (zA2 @bM.eq_1 (zA2 (zt hz) hk1))) ?_
       (refine zy1 (zA2 @nG (zA2 (zt hki) (zA2 @bM.eq_1 (zA2 (zt hz) hk1)))) c ?_; repeat' first | exact trivial | refine zJ ?_ ?_ | refine zH fun hc => ?_)
       all_goals first
         | exact ⟨k + 1, _, ⟨by omega, nxt (by rw [hp, hro]; (simp_all) <;> omega)⟩, by omega, rfl, by simp⟩
         | exact fin (by rw [hp, hro]; (simp_all) <;> omega) rfl
   · have hki : ¬ (k : Int) < ((l.length : Nat) : Int) := by omega
     rw [aQ (by omega), lI] at hv
     refine zh (zf hki) ?_
     (refine zx0 (zf hki) ?_; repeat' first | exact trivial | refine zJ ?_ ?_ | refine zH fun hc => ?_)
     all_goals exact aE (by rw [hv]) rfl

abbrev zTe : LTest := ⟨0, zT, [], 0⟩
inductive OkV : cC → Prop
 | mk {x : cC} : OkK x.ask → x.rows.length ≤ 1000000 → (∀ r ∈ x.rows, r.left.length ≤ 1000000 ∧ ∀ a ∈ r.left, OkK a) → x.yes.length ≤ 10000000000000 → x.no.length ≤ 10000000000000 → (∀ k ∈ x.yes, OkV k) → (∀ k ∈ x.no, OkV k) → OkV x
def Z3 (s : bX) (rows : List pY) (a : LAsk) : Bool := decide (a.path.length = 0) && (jW a.test zTe && lI s rows none)
mutual
def mL (s : bX) : cC → Int → Int → Bool × Int
 | .mk rows ask yes no, n, d => if 5000 < n + 1 ∨ 500 < d then (false, n + 1)
   else if yes.length = 0 ∧ no.length = 0 then (Z3 s rows ask, n + 1)
   else if yes.length = 1 ∧ no.length = 1 ∧ rows.length = 0 ∧ eR s ask = true then
     (if (chkL s yes (n + 1) (d + 1)).1 = true then chkL s no (chkL s yes (n + 1) (d + 1)).2 (d + 1) else (false, (chkL s yes (n + 1) (d + 1)).2))
   else (false, n + 1)
def chkL (s : bX) : List cC → Int → Int → Bool × Int
 | [], n, _ => (true, n)
 | y :: _, n, d => mL s y n d
end
theorem aAj (s : bX) (x : cC) (n d : Int) : mL s x n d = if 5000 < n + 1 ∨ 500 < d then (false, n + 1)
   else if x.yes.length = 0 ∧ x.no.length = 0 then (Z3 s x.rows x.ask, n + 1)
   else if x.yes.length = 1 ∧ x.no.length = 1 ∧ x.rows.length = 0 ∧ eR s x.ask = true then
     (if (mL s (x.yes.getD 0 default) (n + 1) (d + 1)).1 = true then mL s (x.no.getD 0 default) (mL s (x.yes.getD 0 default) (n + 1) (d + 1)).2 (d + 1) else (false, (mL s (x.yes.getD 0 default) (n + 1) (d + 1)).2))
   else (false, n + 1) := by
 obtain ⟨rows, ask, yes, no⟩ := x
 rw [mL]
 simp only [cC.rows, cC.ask, cC.yes, cC.no]
 by_cases h1 : 5000 < n + 1 ∨ 500 < d
 · simp only [h1, if_true]
 simp only [h1, if_false]
 by_cases h2 : yes.length = 0 ∧ no.length = 0
 · simp only [h2, and_self, if_true]
 simp only [h2, if_false]
 by_cases h3 : yes.length = 1 ∧ no.length = 1 ∧ rows.length = 0 ∧ eR s ask = true
 · simp only [h3, and_self, if_true]
   obtain ⟨a, b, _, _⟩ := h3
   match yes, no, a, b with
   | [y], [z], _, _ => simp [chkL]; rfl
 · simp only [h3, if_false]
theorem aAi (s : bX) : ∀ (x : cC) (n d : Int), 0 ≤ n → n ≤ 5000 → n ≤ (mL s x n d).2 ∧ (mL s x n d).2 ≤ 5001 ∧ ((mL s x n d).1 = true → (mL s x n d).2 ≤ 5000) :=
 gX (Q := fun x => ∀ (n d : Int), 0 ≤ n → n ≤ 5000 → n ≤ (mL s x n d).2 ∧ (mL s x n d).2 ≤ 5001 ∧ ((mL s x n d).1 = true → (mL s x n d).2 ≤ 5000)) fun x hy hn n d h0 h5 => by
   rw [aAj]
   split
   · exact ⟨by dsimp only; omega, by dsimp only; omega, fun h => by cases h⟩
   · rename_i h1
     split
     · exact ⟨by dsimp only; omega, by dsimp only; omega, fun _ => by dsimp only; omega⟩
     · split
       · rename_i h3
         have a := hy _ (aV (d := default) (l := x.yes) (k := 0) (by omega)) (n + 1) (d + 1) (by omega) (by omega)
         split
         · rename_i h4
           have b := hn _ (aV (d := default) (l := x.no) (k := 0) (by omega)) (mL s (x.yes.getD 0 default) (n + 1) (d + 1)).2 (d + 1) (by omega) (a.2.2 h4)
           exact ⟨by omega, b.2⟩
         · exact ⟨by dsimp only; omega, by dsimp only; omega, fun h => by cases h⟩
       · exact ⟨by dsimp only; omega, by dsimp only; omega, fun h => by cases h⟩
theorem bGa (a b : LTest) (ha : OkT a.term) (hb : OkT b.term): CT 114 [.agg (dF a), .agg (dF b)] (.b (jW a b)) := by
 refine bI mixed Tryz.func114 g0 ?_
 · simp -implicitDefEqProofs (disch := omega) only [Tryz.f114, go_sem, List.replicate, ↓reduceIte, reduceAdd, reduceSub, reduceMul, reduceLeDiff, reduceLT, reduceEqDiff, reduceNeg, Nat.reduceBEq, dF, avt]
   (refine zt1 (aMd a.term b.term ha hb) ?_; repeat' first | exact trivial | refine zJ ?_ ?_ | refine zH fun hc => ?_)
   all_goals (refine aE ?_ rfl; simp_all [jW])

theorem bQv (s : bX) (x : cC) (n d : Int) (g : List AObj) (hg : g.all AObj.persO = true) (hx : OkV x) (hn : 0 ≤ n) (hn5 : n ≤ 5000) (hd : 1 ≤ d) (hd5 : d ≤ 501) (ihy : ∀ y ∈ x.yes, ∀ (n d : Int) (g : List AObj), g.all AObj.persO = true → 0 ≤ n → n ≤ 5000 → 1 ≤ d → d ≤ 501 → ACalls Tryz.prog G0 65 [.ptr 0 0, elX y, .i .i64 d] (.box false (eG s n) :: g) (fun r h' => r = .b (mL s y n d).1 ∧ h' = .box false (eG s (mL s y n d).2) :: g)) (ihn : ∀ y ∈ x.no, ∀ (n d : Int) (g : List AObj), g.all AObj.persO = true → 0 ≤ n → n ≤ 5000 → 1 ≤ d → d ≤ 501 → ACalls Tryz.prog G0 65 [.ptr 0 0, elX y, .i .i64 d] (.box false (eG s n) :: g) (fun r h' => r = .b (mL s y n d).1 ∧ h' = .box false (eG s (mL s y n d).2) :: g)): ACalls Tryz.prog G0 65 [.ptr 0 0, elX x, .i .i64 d] (.box false (eG s n) :: g) (fun r h' => r = .b (mL s x n d).1 ∧ ∃ z, h' = .box false (eG s (mL s x n d).2) :: (g ++ z)) := by
 refine dI (rx := true) (th := fun i => if i = 6 then some ⟨none, [0], false, false, false, [69, 70, 71], [84, 94]⟩ else none) mixed Tryz.func65 ?_
 · simp -implicitDefEqProofs (disch := omega) only [Tryz.f65, go_sem, List.replicate, ↓reduceIte, reduceAdd, reduceSub, reduceMul, reduceLeDiff, reduceLT, reduceEqDiff, reduceNeg, Nat.reduceBEq, eG]
   obtain ⟨x1, x2, x3, x4, x5⟩ : OkK x.ask ∧ x.rows.length ≤ 1000000 ∧ (∀ r ∈ x.rows, r.left.length ≤ 1000000 ∧ ∀ a ∈ r.left, OkK a) ∧ x.yes.length ≤ 10000000000000 ∧ x.no.length ≤ 10000000000000 := by cases hx; exact ⟨by assumption, by assumption, by assumption, by assumption, by assumption⟩
   have e := aAj s x n d
   by_cases h1 : 5000 < n + 1
   · rw [if_pos (.inl h1)] at e
     rw [e]
     refine zh (zt h1) ?_
     (refine zx0 (zt h1) ?_; repeat' first | exact trivial | refine zJ ?_ ?_ | refine zH fun hc => ?_)
     all_goals exact ⟨_, rfl⟩
   by_cases h2 : 500 < d
   · rw [if_pos (.inr h2)] at e
     rw [e]
     refine zh (zA2 (zf h1) (zt h2)) ?_
     (refine zx0 (zA2 (zf h1) (zt h2)) ?_; repeat' first | exact trivial | refine zJ ?_ ?_ | refine zH fun hc => ?_)
     all_goals exact ⟨_, rfl⟩
   rw [if_neg (by omega)] at e
   by_cases h3 : x.yes.length = 0 ∧ x.no.length = 0
   · rw [if_pos h3] at e
     rw [e]
     have c1 := bGa x.ask.test zTe x1.1.term aCa
     have c2 := bFz s (n + 1) x.rows x2 x3
     have z1 : ((x.yes.length : Nat) : Int) = 0 := by omega
     have z2 : ((x.no.length : Nat) : Int) = 0 := by omega
     have hz : ¬ 5000 < n + 1 := h1
     have el : Z3 s x.rows x.ask = (decide (x.ask.path.length = 0) && (jW x.ask.test zTe && lI s x.rows none)) := rfl
     generalize jW x.ask.test zTe = A at *
     generalize lI s x.rows none = B at *
     simp only [dF, avt, avr, eG] at c1 c2
     refine zh (zA2 (zf h1) (zA2 (zf h2) (zA2 (zt z1) (zt z2)))) ?_
     (refine zy2 (zA2 (zf h1) (zA2 (zf h2) (zA2 (zt z1) (zt z2)))) c1 c2 ?_; repeat' first | exact trivial | refine zJ ?_ ?_ | refine zH fun hc => ?_)
     all_goals exact ⟨by rw [el]; simp_all, _, rfl⟩
   rw [if_neg h3] at e
   have o1 : (g.length + 1 = 0) = False := eq_false (by omega)
   have o2 : (g.length + 1 < g.length + 1 + 1) = True := eq_true (by omega)
   have c3 := yA s x.ask x1
   simp only [aR, avt, eG] at c3
   by_cases h4 : x.yes.length = 1
   · have z4 : ((x.yes.length : Nat) : Int) = 1 := by omega
     have z3 : ¬ ((x.yes.length : Nat) : Int) = 0 := by omega
     by_cases h5 : x.no.length = 1
     · have z5 : ((x.no.length : Nat) : Int) = 1 := by omega
       by_cases h6 : x.rows.length = 0
       · have z6 : ((x.rows.length : Nat) : Int) = 0 := by omega
         rcases fE (eR s x.ask) with h7 | h7
         · rw [if_pos ⟨h4, h5, h6, h7⟩] at e
           rw [h7] at c3
           have l1 := aAi s (x.yes.getD 0 default) (n + 1) (d + 1) (by omega) (by omega)
           have cy := fun g hg => ihy _ (aV (d := default) (l := x.yes) (k := 0) (by omega)) (n + 1) (d + 1) g hg (by omega) (by omega) (by omega) (by omega)
           have cn := fun hq g hg => ihn _ (aV (d := default) (l := x.no) (k := 0) (by omega)) (mL s (x.yes.getD 0 default) (n + 1) (d + 1)).2 (d + 1) g hg (by omega) (l1.2.2 hq) (by omega) (by omega)
           generalize mL s (x.yes.getD 0 default) (n + 1) (d + 1) = Y at *
           have hgx : (g ++ [AObj.box false [.sl ((x).rows.flatMap bM) (x).rows.length, .sl ((x).ask.path.map (.i .i64)) (x).ask.path.length, .i .i64 (x).ask.test.op, .i .i64 (x).ask.test.term.kind, .i .i64 (x).ask.test.term.n, .s (x).ask.test.term.text, .s (x).ask.test.term.sort, .sl ((x).ask.test.term.kids.flatMap aD) (x).ask.test.term.kids.length, .sl ((x).ask.test.term.rest.flatMap aD) (x).ask.test.term.rest.length, .s (x).ask.test.text, .i .i64 (x).ask.test.n, .sl ((x).yes.flatMap bH) (x).yes.length, .sl ((x).no.flatMap bH) (x).no.length]]).all AObj.persO = true := by rw [uN, hg]; simp [AObj.persO, persL, pers, lL, fP, vX, aJg]
           have cy1 := cy _ hgx
           simp only [elX, dH, avr, avt, avx, eG] at cy1
           obtain ⟨y1, y2⟩ := Y
           dsimp only at *
           refine zh (zA2 o1 (zA2 o2 (zA2 (zf h1) (zA2 (zf h2) (zA2 (zf z3) (zA2 (zt z4) (zA2 (zt z5) (zt z6)))))))) ?_
           (refine zy1 (zA2 o1 (zA2 o2 (zA2 (zf h1) (zA2 (zf h2) (zA2 (zf z3) (zA2 (zt z4) (zA2 (zt z5) (zt z6)))))))) c3 ?_; repeat' first | exact trivial | refine zJ ?_ ?_ | refine zH fun hc => ?_)
           refine bJo cy1 rfl (aCo (N := ⟨g.length + 1 + 1, [0]⟩) (h := _ :: _) (id := 0) (ob := _) (by simp [DR.old])) ?_
           cases y1
           · rw [if_neg (by simp)] at e
             rw [e]
             refine zg ?_
             exact ⟨_, rfl⟩
           · rw [if_pos rfl] at e
             have cn1 := cn rfl _ hgx
             simp only [elX, dH, avr, avt, avx, eG] at cn1
             refine zh (zA2 o1 (zA2 o2 (zt z5))) ?_
             refine ⟨by omega, by omega, ?_⟩
             refine bJo cn1 rfl (aCo (N := ⟨g.length + 1 + 1, [0]⟩) (h := _ :: _) (id := 0) (ob := _) (by simp [DR.old])) ?_
             rw [e]
             refine zg ?_
             exact ⟨_, rfl⟩
         · rw [if_neg (fun h => by rw [h.2.2.2] at h7; cases h7)] at e
           rw [h7] at c3
           rw [e]
           refine zh (zA2 o1 (zA2 o2 (zA2 (zf h1) (zA2 (zf h2) (zA2 (zf z3) (zA2 (zt z4) (zA2 (zt z5) (zt z6)))))))) ?_
           (refine zy1 (zA2 o1 (zA2 o2 (zA2 (zf h1) (zA2 (zf h2) (zA2 (zf z3) (zA2 (zt z4) (zA2 (zt z5) (zt z6)))))))) c3 ?_; repeat' first | exact trivial | refine zJ ?_ ?_ | refine zH fun hc => ?_)
           all_goals exact ⟨_, rfl⟩
       · have z6 : ¬ ((x.rows.length : Nat) : Int) = 0 := by omega
         rw [if_neg (fun h => h6 h.2.2.1)] at e
         rw [e]
         refine zh (zA2 o1 (zA2 o2 (zA2 (zf h1) (zA2 (zf h2) (zA2 (zf z3) (zA2 (zt z4) (zA2 (zt z5) (zf z6)))))))) ?_
         (refine zx0 (zA2 o1 (zA2 o2 (zA2 (zf h1) (zA2 (zf h2) (zA2 (zf z3) (zA2 (zt z4) (zA2 (zt z5) (zf z6)))))))) ?_; repeat' first | exact trivial | refine zJ ?_ ?_ | refine zH fun hc => ?_)
         all_goals exact ⟨_, rfl⟩
     · have z5 : ¬ ((x.no.length : Nat) : Int) = 1 := by omega
       rw [if_neg (fun h => h5 h.2.1)] at e
       rw [e]
       refine zh (zA2 o1 (zA2 o2 (zA2 (zf h1) (zA2 (zf h2) (zA2 (zf z3) (zA2 (zt z4) (zf z5))))))) ?_
       (refine zx0 (zA2 o1 (zA2 o2 (zA2 (zf h1) (zA2 (zf h2) (zA2 (zf z3) (zA2 (zt z4) (zf z5))))))) ?_; repeat' first | exact trivial | refine zJ ?_ ?_ | refine zH fun hc => ?_)
       all_goals exact ⟨_, rfl⟩
   · have z4 : ¬ ((x.yes.length : Nat) : Int) = 1 := by omega
     rw [if_neg (fun h => h4 h.1)] at e
     rw [e]
     by_cases z3 : ((x.yes.length : Nat) : Int) = 0
     · have z7 : ¬ ((x.no.length : Nat) : Int) = 0 := by omega
       refine zh (zA2 o1 (zA2 o2 (zA2 (zf h1) (zA2 (zf h2) (zA2 (zt z3) (zA2 (zf z4) (zf z7))))))) ?_
       (refine zx0 (zA2 o1 (zA2 o2 (zA2 (zf h1) (zA2 (zf h2) (zA2 (zt z3) (zA2 (zf z4) (zf z7))))))) ?_; repeat' first | exact trivial | refine zJ ?_ ?_ | refine zH fun hc => ?_)
       all_goals exact ⟨_, rfl⟩
     · refine zh (zA2 o1 (zA2 o2 (zA2 (zf h1) (zA2 (zf h2) (zA2 (zf z3) (zf z4)))))) ?_
       (refine zx0 (zA2 o1 (zA2 o2 (zA2 (zf h1) (zA2 (zf h2) (zA2 (zf z3) (zf z4)))))) ?_; repeat' first | exact trivial | refine zJ ?_ ?_ | refine zH fun hc => ?_)
       all_goals exact ⟨_, rfl⟩
theorem vld (s : bX) : ∀ (x : cC), OkV x → ∀ (n d : Int) (g : List AObj), g.all AObj.persO = true → 0 ≤ n → n ≤ 5000 → 1 ≤ d → d ≤ 501 → ACalls Tryz.prog G0 65 [.ptr 0 0, elX x, .i .i64 d] (.box false (eG s n) :: g) (fun r h' => r = .b (mL s x n d).1 ∧ h' = .box false (eG s (mL s x n d).2) :: g) :=
 gX (Q := fun x => OkV x → ∀ (n d : Int) (g : List AObj), g.all AObj.persO = true → 0 ≤ n → n ≤ 5000 → 1 ≤ d → d ≤ 501 → ACalls Tryz.prog G0 65 [.ptr 0 0, elX x, .i .i64 d] (.box false (eG s n) :: g) (fun r h' => r = .b (mL s x n d).1 ∧ h' = .box false (eG s (mL s x n d).2) :: g)) fun x hy hn hx n d g hg h1 h2 h3 h4 => by
   have hh : (∀ k ∈ x.yes, OkV k) ∧ (∀ k ∈ x.no, OkV k) := by cases hx; exact ⟨by assumption, by assumption⟩
   refine J4 (r0 := .b (mL s x n d).1) (h1 := .box false (eG s (mL s x n d).2) :: g) g0 (bQv s x n d g hg hx h1 h2 h3 h4 (fun y hm => hy y hm (hh.1 y hm)) (fun y hm => hn y hm (hh.2 y hm))) rfl (by simp [AObj.persO, nG, hg]) (by simp)
theorem bGq (s : bX) (x : cC) (hm : Small s) (hs : OkS s) (hx : OkV x): CT 24 [.agg (aO s), elX x] (.b (cV s && (mL s x 0 1).1)) := by
 refine aF mixed Tryz.func24 g0 ?_
 · skip
   have c1 := aGh s hm hs
   rcases fE (cV s) with h | h
   · rw [h] at c1
     have c2 := S5 s hm (gD h)
     have c3 := (vld s x hx 0 1 [] rfl (by decide) (by decide) (by decide) (by decide)).mono fun r h' (hq : r = .b (mL s x 0 1).1 ∧ h' = .box false (eG s (mL s x 0 1).2) :: []) => (⟨hq.1, [], hq.2⟩ : r = .b (mL s x 0 1).1 ∧ ∃ g, h' = .box false (eG s (mL s x 0 1).2) :: g)
     rw [h, Bool.true_and]
     (refine zt2 c1 c2 ?_; repeat' first | exact trivial | refine zJ ?_ ?_ | refine zH fun hc => ?_)
     refine aMz 2 g0 c3 nG nG rfl rfl (by simp only [renL, ren, elX, dH, avr, avt, avx, emb, renL_pers _ _ aJg, renL_pers _ _ lL, renL_pers _ _ vX, renL_pers _ _ fP]; rfl) ?_
     intro g
     refine zg ?_
     exact aE rfl rfl
   · rw [h] at c1
     rw [h, Bool.false_and]
     (refine zt1 c1 ?_; repeat' first | exact trivial | refine zJ ?_ ?_ | refine zH fun hc => ?_)
     all_goals exact aE rfl rfl

theorem bFy (a : LAsk) (ha : OkT a.test.term): CT 116 [.agg (aR a)] (.b (decide (a.path.length = 0) && jW a.test zTe)) := by
 refine bI mixed Tryz.func116 g0 ?_
 · simp -implicitDefEqProofs (disch := omega) only [Tryz.f116, go_sem, List.replicate, ↓reduceIte, reduceAdd, reduceSub, reduceMul, reduceLeDiff, reduceLT, reduceEqDiff, reduceNeg, Nat.reduceBEq, aR, avt]
   have c1 := bGc a.test zTe ha aCa
   generalize jW a.test zTe = A at *
   simp only [dF, avt] at c1
   by_cases h : a.path.length = 0
   · have z1 : ((a.path.length : Nat) : Int) = 0 := by omega
     refine zh (zt z1) ?_
     (refine zy1 (zt z1) c1 ?_; repeat' first | exact trivial | refine zJ ?_ ?_ | refine zH fun hc => ?_)
     all_goals exact aE (by rw [zt h, Bool.true_and]) rfl
   · have z1 : ¬ ((a.path.length : Nat) : Int) = 0 := by omega
     refine zh (zf z1) ?_
     (refine zx0 (zf z1) ?_; repeat' first | exact trivial | refine zJ ?_ ?_ | refine zH fun hc => ?_)
     all_goals exact aE (by rw [zf h, Bool.false_and]) rfl
def aBu (p : Option Int) (r : pY) : Bool := match p with | none => true | some q => decide (q < r.index)
theorem kT (s : bX) (r : pY) (p : Option Int) : W7 s r p = (decide (0 ≤ r.index) && (aBu p r && (decide (r.left.length ≤ 4000) && r.left.all (eR s)))) := by cases p <;> rfl
theorem aEg {s : bX} {l : List LAsk} {k : Nat} (hk : k < l.length) (h : eR s (l.getD k default) = false) : l.all (eR s) = false := by
 rw [pX]; exact ⟨_, aV hk, by rw [h]; simp⟩
theorem aEf {s : bX} {l : List LAsk} (h : ∀ j, j < l.length → eR s (l.getD j default) = true) : l.all (eR s) = true := by
 rw [aU]
 intro x hx
 obtain ⟨j, hj, rfl⟩ := bR.1 hx
 have := h j hj
 simpa [List.getD, hj] using this
theorem bFx (s : bX) (l : List pY) (hm : Small s) (hs : OkS s) (hv : cV s = true) (hl : l.length ≤ 1000000) (ho : ∀ r ∈ l, r.left.length ≤ 1000000 ∧ ∀ a ∈ r.left, OkK a): CT 117 [.agg (aO s), avr l] (.b (lI s l none)) := by
 refine dS (rx := true) (th := fun _ => none) mixed Tryz.func117 g0 ?_
 · simp -implicitDefEqProofs (disch := omega) only [Tryz.f117, go_sem, List.replicate, ↓reduceIte, reduceAdd, reduceSub, reduceMul, reduceLeDiff, reduceLT, reduceEqDiff, reduceNeg, Nat.reduceBEq, avr]
   (refine zs0 ?_; repeat' first | exact trivial | refine zJ ?_ ?_ | refine zH fun hc => ?_)
   refine dV (fun (k : Nat) => [.k, .k, .k, .k, .j, .j, .j, .k, .j, .k, .k, .v (.i .i64 (k : Nat)), .j, .j, .j, .j, .j, .j, .j, .j, .j, .j, .j, .j, .j, .j, .j, .j, .j, .j, .j, .j, .j, .j, .j, .j, .j, .j, .j, .j, .j, .j, .j, .j, .j, .j, .j, .j, .j, .j, .j, .j, .j]) (fun k => [.box false (aO s)]) (fun k => k ≤ l.length ∧ lI s l none = lI s (l.drop k) (oB l k)) (fun k => l.length - k) (0) [] ⟨aG _, rfl⟩ (by simp [avs, avb, avi, avo, bA, aO]) (by simp [eQ]) ?_
   rintro k g j ⟨hk, e⟩
   by_cases hlt : k < l.length
   · have hki : (k : Int) < ((l.length : Nat) : Int) := by omega
     rw [aBn hlt] at e
     obtain ⟨q1, q2⟩ := ho _ (aV (d := default) hlt)
     have nxt : W7 s (l.getD k default) (oB l k) = true → lI s l none = lI s (l.drop (k + 1)) (oB l (k + 1)) := fun h => by rw [e, h, Bool.true_and, oB, if_neg (by omega)]; simp
     by_cases h0 : (l.getD k default).index < 0
     · refine zh (zA2 (zt hki) (zA2 @bM.eq_1 (zt h0))) ?_
       (refine zx0 (zA2 (zt hki) (zA2 @bM.eq_1 (zt h0))) ?_; repeat' first | exact trivial | refine zJ ?_ ?_ | refine zH fun hc => ?_)
       all_goals exact aE (by rw [e, kT, zf (by omega)]; simp) rfl
     rcases jY k with hk0 | hk0
     · have hz : ¬ (0 : Int) < (k : Int) := by omega
       have hp : oB l k = none := by rw [oB, if_pos hk0]
       by_cases hb : (l.getD k default).left.length ≤ 4000
       · have h40 : ¬ (4000 : Int) < (((l.getD k default).left.length : Nat) : Int) := by omega
         refine zh (zA2 (zt hki) (zA2 @bM.eq_1 (zA2 (zf h0) (zA2 (zf hz) (zf h40))))) ?_
         (refine zx0 (zA2 (zt hki) (zA2 @bM.eq_1 (zA2 (zf h0) (zA2 (zf hz) (zf h40))))) ?_; repeat' first | exact trivial | refine zJ ?_ ?_ | refine zH fun hc => ?_)
         refine dV (fun (i : Nat) => [.k, .k, .k, .k, .j, .k, .k, .k, .j, .k, .k, .k, .k, .k, .k, .k, .k, .k, .k, .k, .k, .k, .k, .k, .k, .k, .k, .k, .k, .k, .k, .k, .k, .k, .k, .k, .k, .k, .k, .k, .k, .k, .k, .v (.i .i64 (i : Nat)), .j, .j, .j, .j, .j, .j, .j, .j, .k]) (fun i => (.box false (aO s) :: (g ++ [.box false [.i .i64 (l.getD k default).index, .sl ((l.getD k default).left.flatMap aR) (l.getD k default).left.length]]))) (fun i => i ≤ (l.getD k default).left.length ∧ ∀ j, j < i → eR s ((l.getD k default).left.getD j default) = true) (fun i => (l.getD k default).left.length - i) (0) [] ⟨aG _, fun j h => by omega⟩ (by simp [avs, avb, avi, avo, bA, aO]) (by simp [eQ]) ?_
         rintro i g2 j2 ⟨hi, ha⟩
         by_cases hit : i < (l.getD k default).left.length
         · have hii : (i : Int) < (((l.getD k default).left.length : Nat) : Int) := by omega
           have c1 := aLx s ((l.getD k default).left.getD i default) hm hs hv (q2 _ (aV hit))
           simp only [aR, avt] at c1
           refine zh (zA2 (zt hii) (zA2 @bM.eq_1 (zA2 @aR.eq_1 @avt.eq_1))) ?_
           (refine zy1 (zA2 (zt hii) (zA2 @bM.eq_1 (zA2 @aR.eq_1 @avt.eq_1))) c1 ?_; repeat' first | exact trivial | refine zJ ?_ ?_ | refine zH fun hc => ?_)
           all_goals first
             | exact aE (by rw [e, kT, aEg hit hc]; simp) rfl
             | exact ⟨i + 1, _, ⟨by omega, bE ha hc⟩, by omega, rfl, by simp⟩
         · have hii : ¬ (i : Int) < (((l.getD k default).left.length : Nat) : Int) := by omega
           have hal := aEf (s := s) (l := (l.getD k default).left) (fun j hj => ha j (by omega))
           refine zh (zA2 (zf hii) @bM.eq_1) ?_
           exact ⟨k + 1, g ++ (.box false [.i .i64 (l.getD k default).index, .sl ((l.getD k default).left.flatMap aR) (l.getD k default).left.length] :: g2), ⟨by omega, nxt (by rw [kT, hp, hal, zt hb, zt (by omega : 0 ≤ (l.getD k default).index)]; simp only [aBu, decide_eq_true_eq, Bool.and_true, Bool.true_and]; try omega)⟩, by omega, by simp, by simp⟩
       · have h40 : (4000 : Int) < (((l.getD k default).left.length : Nat) : Int) := by omega
         refine zh (zA2 (zt hki) (zA2 @bM.eq_1 (zA2 (zf h0) (zA2 (zf hz) (zt h40))))) ?_
         (refine zx0 (zA2 (zt hki) (zA2 @bM.eq_1 (zA2 (zf h0) (zA2 (zf hz) (zt h40))))) ?_; repeat' first | exact trivial | refine zJ ?_ ?_ | refine zH fun hc => ?_)
         all_goals exact aE (by rw [e, kT, zf hb]; simp) rfl
     · have hz : (0 : Int) < (k : Int) := by omega
       have hp : oB l k = some (l.getD (k - 1) default).index := by rw [oB, if_neg (by omega)]
       have hk1 : ((k : Int) - 1) = ((k - 1 : Nat) : Int) := by omega
       by_cases h9 : (l.getD k default).index ≤ (l.getD (k - 1) default).index
       · refine zh (zA2 (zt hki) (zA2 @bM.eq_1 (zA2 (zf h0) (zA2 (zt hz) (zA2 hk1 (zt h9)))))) ?_
         (refine zx0 (zA2 (zt hki) (zA2 @bM.eq_1 (zA2 (zf h0) (zA2 (zt hz) (zA2 hk1 (zt h9)))))) ?_; repeat' first | exact trivial | refine zJ ?_ ?_ | refine zH fun hc => ?_)
         all_goals exact aE (by rw [e, kT, hp, aBu, zf (by omega : ¬ (l.getD (k - 1) default).index < (l.getD k default).index)]; simp) rfl
       by_cases hb : (l.getD k default).left.length ≤ 4000
       · have h40 : ¬ (4000 : Int) < (((l.getD k default).left.length : Nat) : Int) := by omega
         refine zh (zA2 (zt hki) (zA2 @bM.eq_1 (zA2 (zf h0) (zA2 (zt hz) (zA2 hk1 (zA2 (zf h9) (zf h40))))))) ?_
         (refine zx0 (zA2 (zt hki) (zA2 @bM.eq_1 (zA2 (zf h0) (zA2 (zt hz) (zA2 hk1 (zA2 (zf h9) (zf h40))))))) ?_; repeat' first | exact trivial | refine zJ ?_ ?_ | refine zH fun hc => ?_)
         refine dV (fun (i : Nat) => [.k, .k, .k, .k, .j, .k, .k, .k, .j, .k, .k, .k, .k, .k, .k, .k, .k, .k, .k, .k, .k, .k, .k, .k, .k, .k, .k, .k, .k, .k, .k, .k, .k, .k, .k, .k, .k, .k, .k, .k, .k, .k, .k, .v (.i .i64 (i : Nat)), .j, .j, .j, .j, .j, .j, .j, .j, .k]) (fun i => (.box false (aO s) :: (g ++ [.box false [.i .i64 (l.getD k default).index, .sl ((l.getD k default).left.flatMap aR) (l.getD k default).left.length]]))) (fun i => i ≤ (l.getD k default).left.length ∧ ∀ j, j < i → eR s ((l.getD k default).left.getD j default) = true) (fun i => (l.getD k default).left.length - i) (0) [] ⟨aG _, fun j h => by omega⟩ (by simp [avs, avb, avi, avo, bA, aO]) (by simp [eQ]) ?_
         rintro i g2 j2 ⟨hi, ha⟩
         by_cases hit : i < (l.getD k default).left.length
         · have hii : (i : Int) < (((l.getD k default).left.length : Nat) : Int) := by omega
           have c1 := aLx s ((l.getD k default).left.getD i default) hm hs hv (q2 _ (aV hit))
           simp only [aR, avt] at c1
           refine zh (zA2 (zt hii) (zA2 @bM.eq_1 (zA2 @aR.eq_1 @avt.eq_1))) ?_
           (refine zy1 (zA2 (zt hii) (zA2 @bM.eq_1 (zA2 @aR.eq_1 @avt.eq_1))) c1 ?_; repeat' first | exact trivial | refine zJ ?_ ?_ | refine zH fun hc => ?_)
           all_goals first
             | exact aE (by rw [e, kT, aEg hit hc]; simp) rfl
             | exact ⟨i + 1, _, ⟨by omega, bE ha hc⟩, by omega, rfl, by simp⟩
         · have hii : ¬ (i : Int) < (((l.getD k default).left.length : Nat) : Int) := by omega
           have hal := aEf (s := s) (l := (l.getD k default).left) (fun j hj => ha j (by omega))
           refine zh (zA2 (zf hii) @bM.eq_1) ?_
           exact ⟨k + 1, g ++ (.box false [.i .i64 (l.getD k default).index, .sl ((l.getD k default).left.flatMap aR) (l.getD k default).left.length] :: g2), ⟨by omega, nxt (by rw [kT, hp, hal, zt hb, zt (by omega : 0 ≤ (l.getD k default).index)]; simp only [aBu, decide_eq_true_eq, Bool.and_true, Bool.true_and]; try omega)⟩, by omega, by simp, by simp⟩
       · have h40 : (4000 : Int) < (((l.getD k default).left.length : Nat) : Int) := by omega
         refine zh (zA2 (zt hki) (zA2 @bM.eq_1 (zA2 (zf h0) (zA2 (zt hz) (zA2 hk1 (zA2 (zf h9) (zt h40))))))) ?_
         (refine zx0 (zA2 (zt hki) (zA2 @bM.eq_1 (zA2 (zf h0) (zA2 (zt hz) (zA2 hk1 (zA2 (zf h9) (zt h40))))))) ?_; repeat' first | exact trivial | refine zJ ?_ ?_ | refine zH fun hc => ?_)
         all_goals exact aE (by rw [e, kT, zf hb]; simp) rfl
   · have hki : ¬ (k : Int) < ((l.length : Nat) : Int) := by omega
     rw [aQ (by omega), lI] at e
     refine zh (zf hki) ?_
     (refine zx0 (zf hki) ?_; repeat' first | exact trivial | refine zJ ?_ ?_ | refine zH fun hc => ?_)
     all_goals exact aE (by rw [e]) rfl

mutual
def nodT : cC → Int → Int
 | .mk _ _ yes no, d => if 500 < d then 5001 else nodL no (d + 1) (nodL yes (d + 1) 1)
def nodL : List cC → Int → Int → Int
 | [], _, n => n
 | y :: l, d, n => nodL l d (if n ≤ 5000 then n + nodT y d else n)
end
theorem tV (x : cC) (d : Int) : nodT x d = if 500 < d then 5001 else nodL x.no (d + 1) (nodL x.yes (d + 1) 1) := by cases x; rw [nodT]; rfl
theorem xO {d b : Int} (hb : 1 ≤ b) : ∀ {l : List cC} {n : Int}, (∀ y ∈ l, 1 ≤ nodT y d ∧ nodT y d ≤ b) → 1 ≤ n → n ≤ 5000 + b → n ≤ nodL l d n ∧ nodL l d n ≤ 5000 + b
 | [], n, _, h1, h2 => by rw [nodL]; omega
 | y :: l, n, hy, h1, h2 => by
   have := hy y (by simp)
   rw [nodL]
   split
   · have := xO hb (l := l) (n := n + nodT y d) (fun z hz => hy z (by simp [hz])) (by omega) (by omega)
     omega
   · exact xO hb (l := l) (n := n) (fun z hz => hy z (by simp [hz])) h1 h2
theorem Y6 : ∀ (x : cC) (d : Int), 1 ≤ d → d ≤ 501 → 1 ≤ nodT x d ∧ nodT x d ≤ 5001 + 5000 * (501 - d) :=
 gX (Q := fun x => ∀ (d : Int), 1 ≤ d → d ≤ 501 → 1 ≤ nodT x d ∧ nodT x d ≤ 5001 + 5000 * (501 - d)) fun x hy hn d h1 h2 => by
   rw [tV]
   split
   · omega
   · have a := xO (d := d + 1) (b := 5001 + 5000 * (501 - (d + 1))) (by omega) (l := x.yes) (n := 1) (fun y hm => hy y hm (d + 1) (by omega) (by omega)) (by omega) (by omega)
     have b := xO (d := d + 1) (b := 5001 + 5000 * (501 - (d + 1))) (by omega) (l := x.no) (n := nodL x.yes (d + 1) 1) (fun y hm => hn y hm (d + 1) (by omega) (by omega)) (by omega) (by omega)
     omega
theorem aKd {l : List cC} {k : Nat} {d n : Int} (h : k < l.length) : nodL (l.drop k) d n = nodL (l.drop (k + 1)) d (if n ≤ 5000 then n + nodT (l.getD k default) d else n) := by
 rw [bB h, nodL]; simp [List.getD, h]
theorem aSc (x : cC) (d : Int) (h0 : 1 ≤ d) (h6 : d ≤ 501) (x5 : x.yes.length ≤ 10000000000000) (x6 : x.no.length ≤ 10000000000000) (ihy : d ≤ 500 → ∀ y ∈ x.yes, CT 66 [elX y, .i .i64 (d + 1)] (.i .i64 (nodT y (d + 1)))) (ihn : d ≤ 500 → ∀ y ∈ x.no, CT 66 [elX y, .i .i64 (d + 1)] (.i .i64 (nodT y (d + 1)))): CT 66 [elX x, .i .i64 d] (.i .i64 (nodT x d)) := by
 refine aF mixed Tryz.func66 g0 ?_
 · skip
   have e := tV x d
   by_cases hd : 500 < d
   · rw [if_pos hd] at e
     refine zh (zt hd) ?_
     (refine zx0 (zt hd) ?_; repeat' first | exact trivial | refine zJ ?_ ?_ | refine zH fun hc => ?_)
     all_goals exact aE (by rw [e]) rfl
   · rw [if_neg hd] at e
     have ihy := ihy (by omega)
     have ihn := ihn (by omega)
     have b1 := xO (d := d + 1) (b := 5001 + 5000 * (501 - (d + 1))) (by omega) (l := x.yes) (n := 1) (fun y hm => Y6 y (d + 1) (by omega) (by omega)) (by omega) (by omega)
     refine zh (zf hd) ?_
     (refine zx0 (zf hd) ?_; repeat' first | exact trivial | refine zJ ?_ ?_ | refine zH fun hc => ?_)
     refine dV (fun (q : Nat × Int) => [.k, .k, .k, .k, .k, .v (.i .i64 q.2), .k, .j, .k, .j, .k, .k, .k, .k, .k, .k, .k, .k, .v (.i .i64 (q.1 : Nat)), .j, .j, .j, .j, .j, .j, .j, .j, .j, .j, .j, .j, .j, .j, .j, .j, .j, .j, .j, .k]) (fun q => [.box false [.sl ((x).rows.flatMap bM) (x).rows.length, .sl ((x).ask.path.map (.i .i64)) (x).ask.path.length, .i .i64 (x).ask.test.op, .i .i64 (x).ask.test.term.kind, .i .i64 (x).ask.test.term.n, .s (x).ask.test.term.text, .s (x).ask.test.term.sort, .sl ((x).ask.test.term.kids.flatMap aD) (x).ask.test.term.kids.length, .sl ((x).ask.test.term.rest.flatMap aD) (x).ask.test.term.rest.length, .s (x).ask.test.text, .i .i64 (x).ask.test.n, .sl ((x).yes.flatMap bH) (x).yes.length, .sl ((x).no.flatMap bH) (x).no.length], .arr false 1 [.sl (x.yes.flatMap bH) x.yes.length, .sl (x.no.flatMap bH) x.no.length]]) (fun q => q.1 ≤ 2 ∧ (q.1 = 0 → q.2 = 1) ∧ (q.1 = 1 → q.2 = nodL x.yes (d + 1) 1) ∧ (q.1 = 2 → q.2 = nodL x.no (d + 1) (nodL x.yes (d + 1) 1)) ∧ 1 ≤ q.2 ∧ q.2 ≤ 2600000) (fun q => 2 - q.1) ((0, 1)) [] ⟨by simp, fun _ => rfl, fun h => absurd h (by simp), fun h => absurd h (by simp), by decide, by decide⟩ (by simp [avs, avb, avi, avo, bA, aO]) (by simp [eQ]) ?_
     rintro ⟨k2, m2⟩ g2 j2 ⟨hk2, hs0, hs1, hs2, hlo, hhi⟩
     dsimp only at hk2 hs0 hs1 hs2 hlo hhi
     rcases (by omega : k2 = 0 ∨ k2 = 1 ∨ k2 = 2) with rfl | rfl | rfl
     · have hm2 := hs0 rfl
       have z0 : ((0 : Int) < ((2 : Nat) : Int)) = True := eq_true (by decide)
       refine zh (zA2 z0 @decide_true) ?_
       (refine zx0 (zA2 z0 @decide_true) ?_; repeat' first | exact trivial | refine zJ ?_ ?_ | refine zH fun hc => ?_)
       refine dV (fun (p : Nat × Int) => [.k, .k, .k, .k, .k, .v (.i .i64 p.2), .k, .k, .k, .j, .k, .k, .k, .k, .k, .k, .k, .k, .k, .k, .k, .k, .k, .k, .v (.i .i64 (p.1 : Nat)), .j, .j, .j, .j, .j, .j, .j, .j, .j, .j, .j, .j, .k, .k]) (fun p => (.box false [.sl ((x).rows.flatMap bM) (x).rows.length, .sl ((x).ask.path.map (.i .i64)) (x).ask.path.length, .i .i64 (x).ask.test.op, .i .i64 (x).ask.test.term.kind, .i .i64 (x).ask.test.term.n, .s (x).ask.test.term.text, .s (x).ask.test.term.sort, .sl ((x).ask.test.term.kids.flatMap aD) (x).ask.test.term.kids.length, .sl ((x).ask.test.term.rest.flatMap aD) (x).ask.test.term.rest.length, .s (x).ask.test.text, .i .i64 (x).ask.test.n, .sl ((x).yes.flatMap bH) (x).yes.length, .sl ((x).no.flatMap bH) (x).no.length] :: .arr false 1 [.sl (x.yes.flatMap bH) x.yes.length, .sl (x.no.flatMap bH) x.no.length] :: g2)) (fun p => p.1 ≤ x.yes.length ∧ 1 ≤ p.2 ∧ p.2 ≤ 2600000 ∧ nodL x.yes (d + 1) m2 = nodL (x.yes.drop p.1) (d + 1) p.2) (fun p => x.yes.length - p.1) ((0, m2)) [] ⟨aG _, hlo, hhi, rfl⟩ (by simp [avs, avb, avi, avo, bA, aO]) (by simp [eQ]) ?_
       rintro ⟨k3, m3⟩ g3 j3 ⟨hk3, hlo3, hhi3, hsl⟩
       dsimp only at hk3 hlo3 hhi3 hsl
       by_cases hlt3 : k3 < x.yes.length
       · have hki3 : (k3 : Int) < ((x.yes.length : Nat) : Int) := by omega
         rw [aKd hlt3] at hsl
         have hm := aV (d := default) hlt3
         by_cases hneg : m3 ≤ 5000
         · rw [if_pos hneg] at hsl
           have ci := ihy _ hm
           have hb := Y6 (x.yes.getD k3 default) (d + 1) (by omega) (by omega)
           have hw : IntKind.i64.wrap (m3 + nodT (x.yes.getD k3 default) (d + 1)) = m3 + nodT (x.yes.getD k3 default) (d + 1) := wrap64 (by omega) (by omega)
           simp only [elX, dH, avr, avt, avx] at ci
           refine zh (zA2 (zt hki3) (zt hneg)) ?_
           (refine zy1 (zA2 (zt hki3) (zA2 (zt hneg) hw)) ci ?_; repeat' first | exact trivial | refine zJ ?_ ?_ | refine zH fun hc => ?_)
           exact ⟨(k3 + 1, m3 + nodT (x.yes.getD k3 default) (d + 1)), _, ⟨by dsimp only; omega, by dsimp only; omega, by dsimp only; omega, hsl⟩, by dsimp only; omega, rfl, by simp⟩
         · rw [if_neg hneg] at hsl
           refine zh (zA2 (zt hki3) (zf hneg)) ?_
           (refine zx0 (zA2 (zt hki3) (zf hneg)) ?_; repeat' first | exact trivial | refine zJ ?_ ?_ | refine zH fun hc => ?_)
           all_goals exact ⟨(k3 + 1, m3), _, ⟨by dsimp only; omega, hlo3, hhi3, hsl⟩, by dsimp only; omega, rfl, by simp⟩
       · have hki3 : ¬ (k3 : Int) < ((x.yes.length : Nat) : Int) := by omega
         rw [aQ (by omega), nodL] at hsl
         refine zh (zf hki3) ?_
         (refine zx0 (zf hki3) ?_; repeat' first | exact trivial | refine zJ ?_ ?_ | refine zH fun hc => ?_)
         exact ⟨(1, m3), g2 ++ g3, ⟨by simp, fun h => absurd h (by simp), fun _ => by dsimp only; rw [hm2] at hsl; exact hsl.symm, fun h => absurd h (by simp), hlo3, hhi3⟩, by dsimp only; omega, by simp, by simp⟩
     · have hm2 := hs1 rfl
       have z1 : (((1 : Nat) : Int) < ((2 : Nat) : Int)) = True := eq_true (by decide)
       refine zh (zA2 z1 @decide_true) ?_
       (refine zx0 (zA2 z1 @decide_true) ?_; repeat' first | exact trivial | refine zJ ?_ ?_ | refine zH fun hc => ?_)
       refine dV (fun (p : Nat × Int) => [.k, .k, .k, .k, .k, .v (.i .i64 p.2), .k, .k, .k, .j, .k, .k, .k, .k, .k, .k, .k, .k, .k, .k, .k, .k, .k, .k, .v (.i .i64 (p.1 : Nat)), .j, .j, .j, .j, .j, .j, .j, .j, .j, .j, .j, .j, .k, .k]) (fun p => (.box false [.sl ((x).rows.flatMap bM) (x).rows.length, .sl ((x).ask.path.map (.i .i64)) (x).ask.path.length, .i .i64 (x).ask.test.op, .i .i64 (x).ask.test.term.kind, .i .i64 (x).ask.test.term.n, .s (x).ask.test.term.text, .s (x).ask.test.term.sort, .sl ((x).ask.test.term.kids.flatMap aD) (x).ask.test.term.kids.length, .sl ((x).ask.test.term.rest.flatMap aD) (x).ask.test.term.rest.length, .s (x).ask.test.text, .i .i64 (x).ask.test.n, .sl ((x).yes.flatMap bH) (x).yes.length, .sl ((x).no.flatMap bH) (x).no.length] :: .arr false 1 [.sl (x.yes.flatMap bH) x.yes.length, .sl (x.no.flatMap bH) x.no.length] :: g2)) (fun p => p.1 ≤ x.no.length ∧ 1 ≤ p.2 ∧ p.2 ≤ 2600000 ∧ nodL x.no (d + 1) m2 = nodL (x.no.drop p.1) (d + 1) p.2) (fun p => x.no.length - p.1) ((0, m2)) [] ⟨aG _, hlo, hhi, rfl⟩ (by simp [avs, avb, avi, avo, bA, aO]) (by simp [eQ]) ?_
       rintro ⟨k3, m3⟩ g3 j3 ⟨hk3, hlo3, hhi3, hsl⟩
       dsimp only at hk3 hlo3 hhi3 hsl
       by_cases hlt3 : k3 < x.no.length
       · have hki3 : (k3 : Int) < ((x.no.length : Nat) : Int) := by omega
         rw [aKd hlt3] at hsl
         have hm := aV (d := default) hlt3
         by_cases hneg : m3 ≤ 5000
         · rw [if_pos hneg] at hsl
           have ci := ihn _ hm
           have hb := Y6 (x.no.getD k3 default) (d + 1) (by omega) (by omega)
           have hw : IntKind.i64.wrap (m3 + nodT (x.no.getD k3 default) (d + 1)) = m3 + nodT (x.no.getD k3 default) (d + 1) := wrap64 (by omega) (by omega)
           simp only [elX, dH, avr, avt, avx] at ci
           refine zh (zA2 (zt hki3) (zt hneg)) ?_
           (refine zy1 (zA2 (zt hki3) (zA2 (zt hneg) hw)) ci ?_; repeat' first | exact trivial | refine zJ ?_ ?_ | refine zH fun hc => ?_)
           exact ⟨(k3 + 1, m3 + nodT (x.no.getD k3 default) (d + 1)), _, ⟨by dsimp only; omega, by dsimp only; omega, by dsimp only; omega, hsl⟩, by dsimp only; omega, rfl, by simp⟩
         · rw [if_neg hneg] at hsl
           refine zh (zA2 (zt hki3) (zf hneg)) ?_
           (refine zx0 (zA2 (zt hki3) (zf hneg)) ?_; repeat' first | exact trivial | refine zJ ?_ ?_ | refine zH fun hc => ?_)
           all_goals exact ⟨(k3 + 1, m3), _, ⟨by dsimp only; omega, hlo3, hhi3, hsl⟩, by dsimp only; omega, rfl, by simp⟩
       · have hki3 : ¬ (k3 : Int) < ((x.no.length : Nat) : Int) := by omega
         rw [aQ (by omega), nodL] at hsl
         refine zh (zf hki3) ?_
         (refine zx0 (zf hki3) ?_; repeat' first | exact trivial | refine zJ ?_ ?_ | refine zH fun hc => ?_)
         exact ⟨(2, m3), g2 ++ g3, ⟨by simp, fun h => absurd h (by simp), fun h => absurd h (by simp), fun _ => by dsimp only; rw [← hm2]; exact hsl.symm, hlo3, hhi3⟩, by dsimp only; omega, by simp, by simp⟩
     · have hm2 := hs2 rfl
       have z2 : (((2 : Nat) : Int) < ((2 : Nat) : Int)) = False := eq_false (by decide)
       refine zh (zA2 z2 @decide_false) ?_
       exact aE (by rw [e, hm2]) rfl
theorem bGl : ∀ (x : cC), OkV x → ∀ d : Int, 1 ≤ d → d ≤ 501 → CT 66 [elX x, .i .i64 d] (.i .i64 (nodT x d)) :=
 gX (Q := fun x => OkV x → ∀ d : Int, 1 ≤ d → d ≤ 501 → CT 66 [elX x, .i .i64 d] (.i .i64 (nodT x d))) fun x hy hn hx d h0 h6 => by
   have hh : (∀ k ∈ x.yes, OkV k) ∧ (∀ k ∈ x.no, OkV k) ∧ x.yes.length ≤ 10000000000000 ∧ x.no.length ≤ 10000000000000 := by cases hx; exact ⟨by assumption, by assumption, by assumption, by assumption⟩
   exact aSc x d h0 h6 hh.2.2.1 hh.2.2.2 (fun hd y hm => hy y hm (hh.1 y hm) (d + 1) (by omega) (by omega)) (fun hd y hm => hn y hm (hh.2.1 y hm) (d + 1) (by omega) (by omega))
mutual
def nodesV (s : bX) : cC → Bool
 | .mk rows ask yes no => if yes.length + no.length = 0 then Z3 s rows ask
   else decide (rows.length = 0) && (decide (yes.length = 1) && (decide (no.length = 1) && (eR s ask && (nodesF s yes && nodesF s no))))
def nodesF (s : bX) : List cC → Bool
 | [] => true
 | y :: _ => nodesV s y
end
theorem sR (s : bX) (x : cC) : nodesV s x = if x.yes.length + x.no.length = 0 then Z3 s x.rows x.ask
   else decide (x.rows.length = 0) && (decide (x.yes.length = 1) && (decide (x.no.length = 1) && (eR s x.ask && (nodesV s (x.yes.getD 0 default) && nodesV s (x.no.getD 0 default))))) := by
 obtain ⟨rows, ask, yes, no⟩ := x
 rw [nodesV]
 simp only [cC.rows, cC.ask, cC.yes, cC.no]
 by_cases h : yes.length + no.length = 0
 · simp only [h, if_true]
 · simp only [h, if_false]
   by_cases a : yes.length = 1
   · by_cases b : no.length = 1
     · match yes, no, a, b with
       | [y], [z], _, _ => simp [nodesF]
     · simp [b]
   · simp [a]
theorem aSb (s : bX) (x : cC) (hm : Small s) (hs : OkS s) (hv : cV s = true) (hx : OkV x) (ihy : ∀ y ∈ x.yes, CT 67 [.agg (aO s), elX y] (.b (nodesV s y))) (ihn : ∀ y ∈ x.no, CT 67 [.agg (aO s), elX y] (.b (nodesV s y))): CT 67 [.agg (aO s), elX x] (.b (nodesV s x)) := by
 refine dS (rx := true) (th := fun _ => none) mixed Tryz.func67 g0 ?_
 · simp -implicitDefEqProofs (disch := omega) only [Tryz.f67, go_sem, List.replicate, ↓reduceIte, reduceAdd, reduceSub, reduceMul, reduceLeDiff, reduceLT, reduceEqDiff, reduceNeg, Nat.reduceBEq]
   obtain ⟨x1, x2, x3, x4, x5⟩ : OkK x.ask ∧ x.rows.length ≤ 1000000 ∧ (∀ r ∈ x.rows, r.left.length ≤ 1000000 ∧ ∀ a ∈ r.left, OkK a) ∧ x.yes.length ≤ 10000000000000 ∧ x.no.length ≤ 10000000000000 := by cases hx; exact ⟨by assumption, by assumption, by assumption, by assumption, by assumption⟩
   have e := sR s x
   have hw : IntKind.i64.wrap (((x.yes.length : Nat) : Int) + ((x.no.length : Nat) : Int)) = ((x.yes.length : Nat) : Int) + ((x.no.length : Nat) : Int) := wrap64 (by omega) (by omega)
   by_cases h3 : x.yes.length + x.no.length = 0
   · rw [if_pos h3, Z3] at e
     have c1 := bFy x.ask x1.1.term
     have c2 := bFx s x.rows hm hs hv x2 x3
     have z : ((x.yes.length : Nat) : Int) + ((x.no.length : Nat) : Int) = 0 := by omega
     rw [← mE] at e
     generalize (decide (x.ask.path.length = 0) && jW x.ask.test zTe) = A at *
     generalize lI s x.rows none = B at *
     simp only [aR, avt, avr] at c1 c2
     refine zh (zA2 hw (zt z)) ?_
     (refine zy2 (zA2 hw (zt z)) c1 c2 ?_; repeat' first | exact trivial | refine zJ ?_ ?_ | refine zH fun hc => ?_)
     all_goals exact aE (by rw [e]; simp_all) rfl
   · rw [if_neg h3] at e
     have z : ¬ ((x.yes.length : Nat) : Int) + ((x.no.length : Nat) : Int) = 0 := by omega
     have c3 := aLx s x.ask hm hs hv x1
     simp only [aR, avt] at c3
     by_cases h6 : x.rows.length = 0
     · have z6 : ((x.rows.length : Nat) : Int) = 0 := by omega
       by_cases h4 : x.yes.length = 1
       · have z4 : ((x.yes.length : Nat) : Int) = 1 := by omega
         by_cases h5 : x.no.length = 1
         · have z5 : ((x.no.length : Nat) : Int) = 1 := by omega
           have cy := ihy _ (aV (d := default) (l := x.yes) (k := 0) (by omega))
           have cn := ihn _ (aV (d := default) (l := x.no) (k := 0) (by omega))
           rw [zt h6, zt h4, zt h5, Bool.true_and, Bool.true_and, Bool.true_and] at e
           generalize eR s x.ask = A at *
           generalize nodesV s (x.yes.getD 0 default) = Y at *
           generalize nodesV s (x.no.getD 0 default) = N at *
           simp only [elX, dH, avr, avt, avx] at cy cn
           refine zh (zA2 hw (zA2 (zf z) (zA2 (zt z6) (zA2 (zt z4) (zt z5))))) ?_
           (refine zy3 (zA2 hw (zA2 (zf z) (zA2 (zt z6) (zA2 (zt z4) (zt z5))))) c3 cy cn ?_; repeat' first | exact trivial | refine zJ ?_ ?_ | refine zH fun hc => ?_)
           all_goals exact aE (by rw [e]; simp_all) rfl
         · have z5 : ¬ ((x.no.length : Nat) : Int) = 1 := by omega
           rw [zf h5, Bool.false_and, Bool.and_false, Bool.and_false] at e
           refine zh (zA2 hw (zA2 (zf z) (zA2 (zt z6) (zA2 (zt z4) (zf z5))))) ?_
           (refine zx0 (zA2 hw (zA2 (zf z) (zA2 (zt z6) (zA2 (zt z4) (zf z5))))) ?_; repeat' first | exact trivial | refine zJ ?_ ?_ | refine zH fun hc => ?_)
           all_goals exact aE (by rw [e]) rfl
       · have z4 : ¬ ((x.yes.length : Nat) : Int) = 1 := by omega
         rw [zf h4, Bool.false_and, Bool.and_false] at e
         refine zh (zA2 hw (zA2 (zf z) (zA2 (zt z6) (zf z4)))) ?_
         (refine zx0 (zA2 hw (zA2 (zf z) (zA2 (zt z6) (zf z4)))) ?_; repeat' first | exact trivial | refine zJ ?_ ?_ | refine zH fun hc => ?_)
         all_goals exact aE (by rw [e]) rfl
     · have z6 : ¬ ((x.rows.length : Nat) : Int) = 0 := by omega
       rw [zf h6, Bool.false_and] at e
       refine zh (zA2 hw (zA2 (zf z) (zf z6))) ?_
       (refine zx0 (zA2 hw (zA2 (zf z) (zf z6))) ?_; repeat' first | exact trivial | refine zJ ?_ ?_ | refine zH fun hc => ?_)
       all_goals exact aE (by rw [e]) rfl
theorem bGk (s : bX) (hm : Small s) (hs : OkS s) (hv : cV s = true) : ∀ (x : cC), OkV x → CT 67 [.agg (aO s), elX x] (.b (nodesV s x)) :=
 gX (Q := fun x => OkV x → CT 67 [.agg (aO s), elX x] (.b (nodesV s x))) fun x hy hn hx => by
   have hh : (∀ k ∈ x.yes, OkV k) ∧ (∀ k ∈ x.no, OkV k) := by cases hx; exact ⟨by assumption, by assumption⟩
   exact aSb s x hm hs hv hx (fun y m => hy y m (hh.1 y m)) (fun y m => hn y m (hh.2 y m))
theorem G3 {d : Int} : ∀ {l : List cC} {n : Int}, (∀ y ∈ l, 1 ≤ nodT y d) → n ≤ nodL l d n
 | [], n, _ => by rw [nodL]; omega
 | y :: l, n, hy => by
   have := hy y (by simp)
   rw [nodL]
   split
   · have := G3 (l := l) (n := n + nodT y d) (fun z hz => hy z (by simp [hz])); omega
   · exact G3 (l := l) (n := n) (fun z hz => hy z (by simp [hz]))
theorem wC : ∀ (x : cC) (d : Int), 1 ≤ nodT x d :=
 gX (Q := fun x => ∀ (d : Int), 1 ≤ nodT x d) fun x hy hn d => by
   rw [tV]
   split
   · decide
   · have a := G3 (d := d + 1) (l := x.yes) (n := 1) (fun y m => hy y m _)
     have b := G3 (d := d + 1) (l := x.no) (n := nodL x.yes (d + 1) 1) (fun y m => hn y m _)
     omega
theorem wD {y : cC} {d n : Int} : nodL [y] d n = if n ≤ 5000 then n + nodT y d else n := by rw [nodL, nodL]
theorem bAx (s : bX) : ∀ (x : cC) (n d : Int), 0 ≤ n → n ≤ 5000 → ((mL s x n d).1 = true → nodesV s x = true ∧ (mL s x n d).2 = n + nodT x d) ∧ (nodesV s x = true → n + nodT x d ≤ 5000 → (mL s x n d).1 = true) :=
 gX (Q := fun x => ∀ (n d : Int), 0 ≤ n → n ≤ 5000 → ((mL s x n d).1 = true → nodesV s x = true ∧ (mL s x n d).2 = n + nodT x d) ∧ (nodesV s x = true → n + nodT x d ≤ 5000 → (mL s x n d).1 = true)) fun x hy hn n d h0 h5 => by
   have e1 := aAj s x n d
   have e2 := sR s x
   have e3 := tV x d
   by_cases h1 : 5000 < n + 1 ∨ 500 < d
   · rw [if_pos h1] at e1
     rw [e1]
     refine ⟨fun h => (by cases h), fun _ h => ?_⟩
     rcases h1 with h1 | h1
     · have := wC x d
       omega
     · rw [if_pos h1] at e3; omega
   · rw [if_neg h1] at e1
     rw [if_neg (fun h => h1 (.inr h))] at e3
     by_cases h2 : x.yes.length = 0 ∧ x.no.length = 0
     · rw [if_pos h2] at e1
       rw [if_pos (by omega)] at e2
       rw [List.length_eq_zero_iff.1 h2.1, List.length_eq_zero_iff.1 h2.2, nodL, nodL] at e3
       rw [e1, e2, e3]
       exact ⟨fun h => ⟨h, rfl⟩, fun h _ => h⟩
     · rw [if_neg h2] at e1
       rw [if_neg (by omega)] at e2
       by_cases h3 : x.yes.length = 1 ∧ x.no.length = 1 ∧ x.rows.length = 0 ∧ eR s x.ask = true
       · rw [if_pos h3] at e1
         rw [zt h3.1, zt h3.2.1, zt h3.2.2.1, h3.2.2.2, Bool.true_and, Bool.true_and, Bool.true_and, Bool.true_and] at e2
         have hy0 := aV (d := default) (l := x.yes) (k := 0) (by omega)
         have hn0 := aV (d := default) (l := x.no) (k := 0) (by omega)
         have l1 : x.yes = [x.yes.getD 0 default] := by
           match x.yes, h3.1 with
           | [y], _ => rfl
         have l2 : x.no = [x.no.getD 0 default] := by
           match x.no, h3.2.1 with
           | [y], _ => rfl
         have ay := hy _ hy0 (n + 1) (d + 1) (by omega) (by omega)
         have an := hn _ hn0
         have by1 := aAi s (x.yes.getD 0 default) (n + 1) (d + 1) (by omega) (by omega)
         rw [l1, l2] at e3
         generalize x.yes.getD 0 default = y at *
         generalize x.no.getD 0 default = z at *
         have hp := wC z (d + 1)
         have e3 : nodT x d = if 1 + nodT y (d + 1) ≤ 5000 then 1 + nodT y (d + 1) + nodT z (d + 1) else 1 + nodT y (d + 1) := by
           rw [e3, wD (y := y), if_pos (by decide), wD]
         have e4 : 1 + nodT y (d + 1) ≤ nodT x d := by rw [e3]; split <;> omega
         rw [e1, e2]
         by_cases q : (mL s y (n + 1) (d + 1)).1 = true
         · rw [if_pos q]
           have q2 := by1.2.2 q
           obtain ⟨p1, p2⟩ := ay.1 q
           have az := an (mL s y (n + 1) (d + 1)).2 (d + 1) (by omega) q2
           rw [if_pos (by omega)] at e3
           rw [p1, Bool.true_and, e3]
           refine ⟨fun h => ?_, fun h k => az.2 h (by omega)⟩
           obtain ⟨r1, r2⟩ := az.1 h
           exact ⟨r1, by omega⟩
         · rw [if_neg q]
           exact ⟨fun h => (by cases h), fun h k => absurd (ay.2 ((aB _ _).mp h).1 (by omega)) q⟩
       · rw [if_neg h3] at e1
         rw [e1]
         refine ⟨fun h => (by cases h), fun h _ => absurd ?_ h3⟩
         rw [e2] at h
         simp only [aB, decide_eq_true_eq] at h
         exact ⟨h.2.1, h.2.2.1, h.1, h.2.2.2.1⟩
def aEp (s : bX) (x : cC) : Bool := cV s && (decide (nodT x 1 ≤ 5000) && nodesV s x)
theorem bCm (s : bX) (x : cC) : (cV s && (mL s x 0 1).1) = aEp s x := by
 have h := bAx s x 0 1 (by decide) (by decide)
 have l := aAi s x 0 1 (by decide) (by decide)
 rw [aEp]
 congr 1
 rw [dC, aB, decide_eq_true_eq]
 constructor
 · intro a
   have b := h.1 a
   have c := l.2.2 a
   exact ⟨by omega, b.1⟩
 · rintro ⟨a, b⟩
   exact h.2 b (by omega)
theorem aLy (s : bX) (x : cC) (hm : Small s) (hs : OkS s) (hx : OkV x) : CT 24 [.agg (aO s), elX x] (.b (aEp s x)) := bCm s x ▸ bGq s x hm hs hx
theorem aVl (s : bX) (x : cC) (hm : Small s) (hs : OkS s) (hx : OkV x): CT 25 [.agg (aO s), elX x] (.b (aEp s x)) := by
 refine dS (rx := true) (th := fun _ => none) mixed Tryz.func25 g0 ?_
 · simp -implicitDefEqProofs (disch := omega) only [Tryz.f25, go_sem, List.replicate, ↓reduceIte, reduceAdd, reduceSub, reduceMul, reduceLeDiff, reduceLT, reduceEqDiff, reduceNeg, Nat.reduceBEq]
   have c1 := bAr s hm hs
   rcases fE (cV s) with h | h
   · rw [h] at c1
     have c2 := bGl x hx 1 (by decide) (by decide)
     have c3 := bGk s hm hs h x hx
     have e : aEp s x = (decide (nodT x 1 ≤ 5000) && nodesV s x) := by rw [aEp, h, Bool.true_and]
     generalize nodesV s x = A at *
     generalize nodT x 1 = N at *
     simp only [elX, dH, avr, avt, avx] at c2 c3
     (refine zt3 c1 c2 c3 ?_; repeat' first | exact trivial | refine zJ ?_ ?_ | refine zH fun hc => ?_)
     all_goals exact aE (by rw [e]; (simp_all) <;> (intros; omega)) rfl
   · rw [h] at c1
     rw [aEp, h, Bool.false_and]
     (refine zt1 c1 ?_; repeat' first | exact trivial | refine zJ ?_ ?_ | refine zH fun hc => ?_)
     all_goals exact aE rfl rfl

mutual
def goT (s : bX) (t : LTerm) : cC → Int → cC × Int
 | .mk rows ask yes no, n => if yes.length = 0 then (.mk rows ask yes no, n) else if eJ s ask t = true then goL s t yes (n + 1) else goL s t no (n + 1)
def goL (s : bX) (t : LTerm) : List cC → Int → cC × Int
 | [], n => (default, n)
 | y :: _, n => goT s t y n
end
theorem aVa (s : bX) (t : LTerm) (x : cC) (n : Int) (hn : x.yes.length = 0 ∨ (x.yes.length ≠ 0 ∧ x.no.length ≠ 0)) : goT s t x n = if x.yes.length = 0 then (x, n) else if eJ s x.ask t = true then goT s t (x.yes.getD 0 default) (n + 1) else goT s t (x.no.getD 0 default) (n + 1) := by
 obtain ⟨rows, ask, yes, no⟩ := x
 rw [goT]
 simp only [cC.rows, cC.ask, cC.yes, cC.no] at *
 rcases hn with h | ⟨h, k⟩
 · simp only [h, if_true]
 · simp only [h, if_false]
   match yes, no, h, k with
   | y :: _, z :: _, _, _ => simp [goL]
def vQ (s : bX) (t : LTerm) : List LAsk → Nat
 | [] => 0
 | a :: l => if eJ s a t = true then vQ s t l + 1 else 1
def nZ (s : bX) (t : LTerm) : List pY → List Int
 | [] => []
 | r :: l => (if (r.left.all fun a => eJ s a t) = true then [r.index] else []) ++ nZ s t l
def mC (s : bX) (t : LTerm) : List pY → Nat
 | [] => 0
 | r :: l => vQ s t r.left + mC s t l
def lK (s : bX) (x : cC) (t : LTerm) : List Int × Int × Int :=
 if (aEp s x && (cV s && kA s t)) = true then (nZ s t (goT s t x 0).1.rows, (goT s t x 0).2 + (mC s t (goT s t x 0).1.rows : Int), 0) else ([], 0, 2)
def O8 (r : List Int × Int × Int) : AV := .tup [.sl (ints r.1) r.1.length, .i .i64 r.2.1, .i .i64 r.2.2]
theorem wF (s : bX) (t : LTerm) : ∀ l : List LAsk, vQ s t l ≤ l.length
 | [] => by simp [vQ]
 | a :: l => by
   have := wF s t l
   rw [vQ, aK]
   split <;> omega
theorem I2 {s : bX} {t : LTerm} : ∀ {l : List pY}, (∀ r ∈ l, r.left.length ≤ 1000000) → mC s t l ≤ l.length * 1000000
 | [], _ => by simp [mC]
 | r :: l, h => by
   have := I2 (s := s) (t := t) (l := l) (fun x hx => h x (by simp [hx]))
   have := wF s t r.left
   have := h r (by simp)
   rw [mC, aK]; omega
theorem uR (s : bX) (t : LTerm) : ∀ (l m : List pY), nZ s t (l ++ m) = nZ s t l ++ nZ s t m
 | [], m => rfl
 | r :: l, m => by rw [dE, nZ, nZ, uR s t l m, bW]
theorem vD (s : bX) (t : LTerm) : ∀ (l m : List pY), mC s t (l ++ m) = mC s t l + mC s t m
 | [], m => by simp [mC]
 | r :: l, m => by rw [dE, mC, mC, vD s t l m]; omega
theorem aBg {α : Type} [Inhabited α] {l : List α} {k : Nat} (h : k < l.length) : l.take (k + 1) = l.take k ++ [l.getD k default] := by
 rw [List.take_add_one]; simp [List.getD, h]
theorem A3 {s : bX} {t : LTerm} {l : List pY} {k : Nat} (h : k < l.length) : nZ s t (l.take (k + 1)) = nZ s t (l.take k) ++ (if ((l.getD k default).left.all fun a => eJ s a t) = true then [(l.getD k default).index] else []) := by
 rw [aBg h, uR]; simp [nZ]
theorem C8 {s : bX} {t : LTerm} {l : List pY} {k : Nat} (h : k < l.length) : mC s t (l.take (k + 1)) = mC s t (l.take k) + vQ s t (l.getD k default).left := by
 rw [aBg h, vD]; simp [mC]
theorem sK {s : bX} {t : LTerm} : ∀ {l : List pY}, (nZ s t l).length ≤ l.length
 | [] => by simp [nZ]
 | r :: l => by
   have := sK (s := s) (t := t) (l := l)
   rw [nZ, aI, aK]
   split <;> simp <;> omega
theorem I1 {s : bX} {t : LTerm} : ∀ {l : List LAsk}, (idx (fun a => !eJ s a t) l < 0 → (l.all fun a => eJ s a t) = true ∧ vQ s t l = l.length) ∧ (0 ≤ idx (fun a => !eJ s a t) l → (l.all fun a => eJ s a t) = false ∧ (vQ s t l : Int) = idx (fun a => !eJ s a t) l + 1) := by
 intro l
 induction l with
 | nil => exact ⟨fun _ => ⟨rfl, rfl⟩, fun h => absurd h (by simp [idx])⟩
 | cons a l ih =>
   unfold idx at ih ⊢
   rw [gL, jJ, vQ, aK]
   rcases fE (eJ s a t) with h | h
   · simp only [h, Bool.not_true, aP, if_false, if_true, Bool.true_and]
     cases hf : l.findIdx? (fun a => !eJ s a t) with
     | none =>
       rw [hf] at ih
       have := ih.1 (by decide)
       exact ⟨fun _ => ⟨this.1, by rw [this.2]⟩, fun h => absurd h (by simp)⟩
     | some i =>
       rw [hf] at ih
       have := ih.2 (by simp)
       refine ⟨fun h => absurd h (by simp; omega), fun _ => ⟨this.1, ?_⟩⟩
       have h2 := this.2
       simp only [cD] at h2 ⊢
       omega
   · simp only [h, Bool.not_false, aP, if_false, if_true, Bool.false_and]
     exact ⟨fun h => absurd h (by simp), fun _ => ⟨trivial, rfl⟩⟩
theorem aKc {x : cC} {d : Int} (h1 : x.yes.length = 1) (h2 : x.no.length = 1) (hd : nodT x d ≤ 5000) : d ≤ 500 ∧ nodT (x.yes.getD 0 default) (d + 1) ≤ 5000 ∧ nodT (x.no.getD 0 default) (d + 1) ≤ 5000 := by
 have e := tV x d
 have hd5 : d ≤ 500 := by
   by_cases h : 500 < d
   · rw [if_pos h] at e; omega
   · omega
 rw [if_neg (by omega)] at e
 have l1 : x.yes = [x.yes.getD 0 default] := by
   match x.yes, h1 with
   | [y], _ => rfl
 have l2 : x.no = [x.no.getD 0 default] := by
   match x.no, h2 with
   | [y], _ => rfl
 rw [l1, l2] at e
 generalize x.yes.getD 0 default = y at *
 generalize x.no.getD 0 default = z at *
 have a := wC y (d + 1)
 have b := wC z (d + 1)
 rw [wD (y := y), if_pos (by decide), wD] at e
 split at e <;> exact ⟨hd5, by omega, by omega⟩
theorem xN {s : bX} {x : cC} (h : nodesV s x = true) (hy : x.yes.length ≠ 0) : x.yes.length = 1 ∧ x.no.length = 1 ∧ eR s x.ask = true ∧ nodesV s (x.yes.getD 0 default) = true ∧ nodesV s (x.no.getD 0 default) = true := by
 rw [sR, if_neg (by omega)] at h
 simp only [aB, decide_eq_true_eq] at h
 exact ⟨h.2.1, h.2.2.1, h.2.2.2.1, h.2.2.2.2.1, h.2.2.2.2.2⟩
structure vW (s : bX) (t : LTerm) (x0 x : cC) (n : Int) : Prop where
 ok : OkV x
 nodes : nodesV s x = true
 n0 : 0 ≤ n
 nod : nodT x (n + 1) ≤ 5000
 go : goT s t x0 0 = goT s t x n
theorem vW.step {s : bX} {t : LTerm} {x0 x : cC} {n : Int} (h : vW s t x0 x n) (hy : x.yes.length ≠ 0) :
   n ≤ 499 ∧ x.yes.length = 1 ∧ x.no.length = 1 ∧ OkK x.ask ∧ (eJ s x.ask t = true → vW s t x0 (x.yes.getD 0 default) (n + 1)) ∧ (eJ s x.ask t = false → vW s t x0 (x.no.getD 0 default) (n + 1)) := by
 obtain ⟨a, b, _, c, d⟩ := xN h.nodes hy
 obtain ⟨e1, e2, e3⟩ := aKc a b h.nod
 have hh : OkK x.ask ∧ (∀ k ∈ x.yes, OkV k) ∧ (∀ k ∈ x.no, OkV k) := by have := h.ok; cases this; exact ⟨by assumption, by assumption, by assumption⟩
 have g := h.go
 have n0 := h.n0
 rw [aVa s t x n (.inr ⟨hy, by omega⟩), if_neg hy] at g
 refine ⟨by omega, a, b, hh.1, fun q => ?_, fun q => ?_⟩
 · rw [if_pos q] at g
   exact ⟨hh.2.1 _ (aV (by omega)), c, by omega, e2, g⟩
 · rw [if_neg (by rw [q]; simp)] at g
   exact ⟨hh.2.2 _ (aV (by omega)), d, by omega, e3, g⟩
theorem vW.start {s : bX} {t : LTerm} {x : cC} (ho : OkV x) (h : aEp s x = true) : vW s t x x 0 := by
 simp only [aEp, aB, decide_eq_true_eq] at h
 exact ⟨ho, h.2.2, by decide, h.2.1, rfl⟩
theorem vW.fin {s : bX} {t : LTerm} {x0 x : cC} {n : Int} (h : vW s t x0 x n) (hy : x.yes.length = 0) : goT s t x0 0 = (x, n) ∧ n ≤ 500 ∧ x.rows.length ≤ 1000000 ∧ (∀ r ∈ x.rows, r.left.length ≤ 1000000 ∧ ∀ a ∈ r.left, OkK a) := by
 have g := h.go
 rw [aVa s t x n (.inl hy), if_pos hy] at g
 have hh : x.rows.length ≤ 1000000 ∧ (∀ r ∈ x.rows, r.left.length ≤ 1000000 ∧ ∀ a ∈ r.left, OkK a) := by have := h.ok; cases this; exact ⟨by assumption, by assumption⟩
 have e := tV x (n + 1)
 have := h.nod
 refine ⟨g, ?_, hh⟩
 by_cases q : 500 < n + 1
 · rw [if_pos q] at e; omega
 · omega
theorem aCs {pre g : List AObj} {sz n : Nat} {out : AV} {cells : List AV} {m e : Int} (ho : eZ sz pre.length g out cells n) (hp : persL cells = true) : Fin (pre ++ g) (.tup [out, .i .i64 m, .i .i64 e]) (.tup [.sl cells n, .i .i64 m, .i .i64 e]) := by
 rcases ho with ⟨rfl, rfl, rfl⟩ | ⟨i, rfl, hi, hl⟩
 · exact .inr ⟨⟨rfl, rfl, rfl, trivial⟩, by simp [bK, finIdsL], by simp [bK, finIdsL]⟩
 · have e1 : lR (pre ++ g) (.hs (i + pre.length) 0 n false) (.sl cells n) := by
     show AV.sl cells n = gJ dep (pre ++ g) (.hs (i + pre.length) 0 n false)
     have hg : (pre ++ g)[i + pre.length]? = some (.arr false sz cells) := by
       rw [aH (by omega)]; simpa using hi
     have hd : (cells.drop 0).take (n * sz) = cells := by rw [dJ, aS (by omega)]
     simp only [jC, pers, E7, hg, hd, hp, if_true, aP, if_false]
     rw [if_pos (by omega)]
   exact .inr ⟨⟨e1, rfl, rfl, trivial⟩, by simp [bK, finIdsL], by simp [bK, finIdsL]⟩

theorem bGm (s : bX) (a : LAsk) (t : LTerm) (hs : Small s) (ha : OkK a) (ht : OkT t): CT 64 [.agg (aR a), .box [cB s] 0, .box (aD t) 0] (.b (!eJ s a t)) := by
 refine bI mixed Tryz.func64 g0 ?_
 · simp -implicitDefEqProofs (disch := omega) only [Tryz.f64, go_sem, List.replicate, ↓reduceIte, reduceAdd, reduceSub, reduceMul, reduceLeDiff, reduceLT, reduceEqDiff, reduceNeg, Nat.reduceBEq, aR, avt, bC]
   have c := aDd s a t hs ha.test ha.path ht
   simp only [aR, avt] at c
   (refine zt1 c ?_; repeat' first | exact trivial | refine zJ ?_ ?_ | refine zH fun hc => ?_)
   all_goals exact aE rfl rfl
theorem aQt (s : bX) (r : pY) (t : LTerm) (hs : Small s) (hl : r.left.length ≤ 1000000) (ho : ∀ a ∈ r.left, OkK a) (ht : OkT t) : CT 63 [ava r.left, .fn 64 [] [.box [cB s] 0, .box (aD t) 0]] (.i .i64 (idx (fun a => !eJ s a t) r.left)) :=
 aVi r.left 64 [] [.box [cB s] 0, .box (aD t) 0] (fun a => !eJ s a t) hl rfl (by simp only [persL, pers, pI, aPz, Bool.and_true]) (fun k hk => bGm s _ t hs (ho _ (aV hk)) ht)
theorem bGs (s : bX) (x : cC) (t : LTerm) (hm : Small s) (hs : OkS s) (hx : OkV x) (ht : OkT t): CT 22 [.agg (aO s), elX x, elT t] (O8 (lK s x t)) := by
 refine bI mixed Tryz.func22 g0 ?_
 · generalize hR : ((O8 (lK s x t)) : AV) = R
   simp -implicitDefEqProofs (disch := omega) only [Tryz.f22, go_sem, List.replicate, ↓reduceIte, reduceAdd, reduceSub, reduceMul, reduceLeDiff, reduceLT, reduceEqDiff, reduceNeg, Nat.reduceBEq]
   have c1 := aLy s x hm hs hx
   have c2 := aLz s t hm hs ht
   simp only [elX, dH, avr, avt, avx] at c1
   rcases fE (aEp s x) with h1 | h1
   · rw [h1] at c1
     rcases fE (cV s && kA s t) with h2 | h2
     · rw [h2] at c2
       have hv := ((aB _ _).mp h2).1
       have c3 := S5 s hm (gD hv)
       have hp : lK s x t = (nZ s t (goT s t x 0).1.rows, (goT s t x 0).2 + (mC s t (goT s t x 0).1.rows : Int), 0) := by rw [lK, h1, h2, dQ, if_pos rfl]
       have st := vW.start (t := t) hx h1
       (refine zt3 c1 c2 c3 ?_; repeat' first | exact trivial | refine zJ ?_ ?_ | refine zH fun hc => ?_)
       refine bT (fun (q : cC × Int) => [.k, .k, .k, .k, .k, .k, .k, .v (.i .i64 q.2), .k, .k, .k, .k, .k, .k, .k, .k, .k, .k, .k, .k, .k, .k, .k, .k, .k, .j, .j, .j, .j, .j, .j, .j, .j, .j, .j, .j, .j, .j, .j, .j, .j, .j, .j, .j, .k, .k, .k, .k, .k, .k, .k, .k, .k, .k, .k, .k, .k, .k, .k, .k, .k, .k, .k, .k, .k, .k, .k, .k, .k, .k, .k, .k, .k, .k]) (fun q => [.box false (aO s), .box false [.sl ((q.1).rows.flatMap bM) (q.1).rows.length, .sl ((q.1).ask.path.map (.i .i64)) (q.1).ask.path.length, .i .i64 (q.1).ask.test.op, .i .i64 (q.1).ask.test.term.kind, .i .i64 (q.1).ask.test.term.n, .s (q.1).ask.test.term.text, .s (q.1).ask.test.term.sort, .sl ((q.1).ask.test.term.kids.flatMap aD) (q.1).ask.test.term.kids.length, .sl ((q.1).ask.test.term.rest.flatMap aD) (q.1).ask.test.term.rest.length, .s (q.1).ask.test.text, .i .i64 (q.1).ask.test.n, .sl ((q.1).yes.flatMap bH) (q.1).yes.length, .sl ((q.1).no.flatMap bH) (q.1).no.length], .box false [.i .i64 (t).kind, .i .i64 (t).n, .s (t).text, .s (t).sort, .sl ((t).kids.flatMap aD) (t).kids.length, .sl ((t).rest.flatMap aD) (t).rest.length], .box false [cB s]]) (fun q => vW s t x q.1 q.2) (fun q => SizeOf.sizeOf q.1) ((x, 0)) st rfl (by simp [eQ]) ?_
       rintro ⟨y, n⟩ j hd
       dsimp only at hd
       by_cases hy : y.yes.length = 0
       · have zy : ¬ (0 : Int) < ((y.yes.length : Nat) : Int) := by omega
         obtain ⟨g1, g2, g3, g4⟩ := hd.fin hy
         rw [g1] at hp
         dsimp only at hp
         have n0 := hd.n0
         refine zh (zf zy) ?_
         refine bT (fun (q : Nat × Int × AV × List AObj) => [.k, .k, .k, .k, .k, .k, .v (q.2.2.1), .v (.i .i64 q.2.1), .k, .k, .k, .j, .j, .k, .k, .k, .k, .k, .k, .k, .k, .k, .k, .k, .k, .k, .k, .k, .k, .k, .k, .k, .k, .k, .k, .k, .k, .k, .k, .k, .k, .k, .k, .k, .k, .k, .k, .v (.i .i64 (q.1 : Nat)), .j, .j, .j, .j, .j, .j, .j, .j, .j, .j, .j, .j, .j, .j, .j, .j, .j, .j, .j, .j, .j, .j, .j, .j, .k, .k]) (fun q => (.box false (aO s) :: .box false [.sl ((y).rows.flatMap bM) (y).rows.length, .sl ((y).ask.path.map (.i .i64)) (y).ask.path.length, .i .i64 (y).ask.test.op, .i .i64 (y).ask.test.term.kind, .i .i64 (y).ask.test.term.n, .s (y).ask.test.term.text, .s (y).ask.test.term.sort, .sl ((y).ask.test.term.kids.flatMap aD) (y).ask.test.term.kids.length, .sl ((y).ask.test.term.rest.flatMap aD) (y).ask.test.term.rest.length, .s (y).ask.test.text, .i .i64 (y).ask.test.n, .sl ((y).yes.flatMap bH) (y).yes.length, .sl ((y).no.flatMap bH) (y).no.length] :: .box false [.i .i64 (t).kind, .i .i64 (t).n, .s (t).text, .s (t).sort, .sl ((t).kids.flatMap aD) (t).kids.length, .sl ((t).rest.flatMap aD) (t).rest.length] :: .box false [cB s] :: q.2.2.2)) (fun q => q.1 ≤ y.rows.length ∧ q.2.1 = n + (mC s t (y.rows.take q.1) : Int) ∧ eZ 1 4 q.2.2.2 q.2.2.1 (ints (nZ s t (y.rows.take q.1))) (nZ s t (y.rows.take q.1)).length) (fun q => y.rows.length - q.1) ((0, n, .e0, [])) ⟨aG _, by simp [mC], kU⟩ rfl (by simp [eQ]) ?_
         rintro ⟨k, m, out, g⟩ j2 ⟨hk, hm0, hout⟩
         dsimp only at hk hm0 hout
         by_cases hlt : k < y.rows.length
         · have hki : (k : Int) < ((y.rows.length : Nat) : Int) := by omega
           obtain ⟨q1, q2⟩ := g4 _ (aV (d := default) hlt)
           have c4 := aQt s (y.rows.getD k default) t hm q1 q2 ht
           have hci := I1 (s := s) (t := t) (l := (y.rows.getD k default).left)
           have hca := wF s t (y.rows.getD k default).left
           have hck := I2 (s := s) (t := t) (l := y.rows.take k) (fun r hr => (g4 r (rU hr)).1)
           have hrl := sK (s := s) (t := t) (l := y.rows.take k)
           have htr := A3 (s := s) (t := t) hlt
           have htc := C8 (s := s) (t := t) hlt
           rw [jL] at hck hrl
           have hck2 : mC s t (y.rows.take k) ≤ 1000000000000 := dU hck (by
             have : min k y.rows.length ≤ 1000000 := by omega
             exact bQ 1000000 this)
           simp only [ava, bC, avt] at c4
           generalize idx (fun a => !eJ s a t) (y.rows.getD k default).left = I at *
           by_cases hI : 0 ≤ I
           · obtain ⟨e1, e2⟩ := hci.2 hI
             rw [e1, if_neg (by simp), List.append_nil] at htr
             have w1 : IntKind.i64.wrap (I + 1) = I + 1 := wrap64 (by omega) (by omega)
             have w2 : IntKind.i64.wrap (m + (I + 1)) = m + (I + 1) := wrap64 (by omega) (by omega)
             refine zh (zA2 (zt hki) @bM.eq_1) ?_
             (refine zy1 (zA2 (zt hki) (zA2 @bM.eq_1 (zA2 (zt hI) (zA2 w1 w2)))) c4 ?_; repeat' first | exact trivial | refine zJ ?_ ?_ | refine zH fun hc => ?_)
             refine ⟨(k + 1, m + (I + 1), out, _), ⟨by dsimp only; omega, ?_, ?_⟩, by dsimp only; omega, rfl, rfl, rfl, by simp⟩
             · dsimp only
               rw [htc, hm0]; omega
             · dsimp only
               rw [htr]
               exact hout.more _
           · obtain ⟨e1, e2⟩ := hci.1 (by omega)
             rw [e1, if_pos rfl] at htr
             have w2 : IntKind.i64.wrap (m + (((y.rows.getD k default).left.length : Nat) : Int)) = m + (((y.rows.getD k default).left.length : Nat) : Int) := wrap64 (by omega) (by omega)
             refine zh (zA2 (zt hki) @bM.eq_1) ?_
             (refine zy1 (zA2 (zt hki) (zA2 @bM.eq_1 (zA2 (zf hI) w2))) c4 ?_; repeat' first | exact trivial | refine zJ ?_ ?_ | refine zH fun hc => ?_)
             refine fN (pre := [_, _, _, _]) (news := [.i .i64 (y.rows.getD k default).index]) (m := 1) hout rfl rfl bNk zo3 sz3 by3 rfl (by decide) (by simp -implicitDefEqProofs (disch := omega) only [go_sem, ↓reduceIte, reduceAdd, reduceSub, reduceMul, reduceLeDiff, reduceLT, reduceEqDiff, reduceNeg, Nat.reduceBEq]) (by simp -implicitDefEqProofs (disch := omega) only [go_sem, ↓reduceIte, reduceAdd, reduceSub, reduceMul, reduceLeDiff, reduceLT, reduceEqDiff, reduceNeg, Nat.reduceBEq]) ⟨by omega, by omega⟩ ?_
             intro out' g' ho' _
             refine zg ?_
             refine ⟨(k + 1, m + (((y.rows.getD k default).left.length : Nat) : Int), out', g'), ⟨by dsimp only; omega, ?_, ?_⟩, by dsimp only; omega, rfl, rfl, rfl, by simp⟩
             · dsimp only
               rw [htc, hm0]; omega
             · dsimp only
               rw [htr, ints, aT, aI]
               exact ho'
         · have hki : ¬ (k : Int) < ((y.rows.length : Nat) : Int) := by omega
           have hkt : y.rows.take k = y.rows := aS (by omega)
           rw [hkt] at hout hm0
           refine zh (zf hki) ?_
           subst hR
           rw [hp, hm0]
           exact aCs (pre := [_, _, _, _]) hout fP
       · have zy : (0 : Int) < ((y.yes.length : Nat) : Int) := by omega
         obtain ⟨f1, f2, f3, f4, f5, f6⟩ := hd.step hy
         have n0 := hd.n0
         have c4 := aDd s y.ask t hm f4.test f4.path ht
         simp only [aR, avt] at c4
         rcases fE (eJ s y.ask t) with h3 | h3
         · rw [h3] at c4
           refine zh (zt zy) ?_
           (refine zy1 (zt zy) c4 ?_; repeat' first | exact trivial | refine zJ ?_ ?_ | refine zH fun hc => ?_)
           exact ⟨(y.yes.getD 0 default, n + 1), f5 h3, E9 (aV (by omega)), rfl, by simp⟩
         · rw [h3] at c4
           refine zh (zt zy) ?_
           (refine zy1 (zt zy) c4 ?_; repeat' first | exact trivial | refine zJ ?_ ?_ | refine zH fun hc => ?_)
           exact ⟨(y.no.getD 0 default, n + 1), f6 h3, W4 (aV (by omega)), rfl, by simp⟩
     · rw [h2] at c2
       have hp : lK s x t = ([], 0, 2) := by rw [lK, h2, Bool.and_false, if_neg (by simp)]
       (refine zt2 c1 c2 ?_; repeat' first | exact trivial | refine zJ ?_ ?_ | refine zH fun hc => ?_)
       subst hR
       all_goals exact .inr ⟨by rw [hp]; exact ⟨rfl, rfl, rfl, trivial⟩, eC, fun i hi => absurd hi (by show ¬ i ∈ []; simp)⟩
   · rw [h1] at c1
     have hp : lK s x t = ([], 0, 2) := by rw [lK, h1, Bool.false_and, if_neg (by simp)]
     (refine zt1 c1 ?_; repeat' first | exact trivial | refine zJ ?_ ?_ | refine zH fun hc => ?_)
     subst hR
     all_goals exact .inr ⟨by rw [hp]; exact ⟨rfl, rfl, rfl, trivial⟩, eC, fun i hi => absurd hi (by show ¬ i ∈ []; simp)⟩

theorem aDw {s : bX} {a : LAsk} (h : eR s a = true) : PathOk a.path := by
 simp only [eR, aB, decide_eq_true_eq, cO, List.any_eq_false] at h
 refine ⟨by omega, fun i hi => ?_⟩
 have := h.2.1 i hi
 simp only [qS, bO, decide_eq_true_eq, not_or] at this
 exact ⟨by omega, by omega⟩
theorem O0 {s : bX} : ∀ {l : List pY} {p : Option Int}, lI s l p = true → ∀ r ∈ l, ∀ a ∈ r.left, eR s a = true
 | [], _, _, r, hr, _, _ => by cases hr
 | x :: l, p, h, r, hr, a, ha => by
   rw [lI, aB, kT] at h
   rcases bZ.1 hr with rfl | hr
   · simp only [aB, aU] at h
     exact h.1.2.2.2 a ha
   · exact O0 h.2 r hr a ha
theorem aFr {s : bX} {x : cC} (h : nodesV s x = true) (hy : x.yes.length = 0) : ∀ r ∈ x.rows, ∀ a ∈ r.left, eR s a = true := by
 rw [sR] at h
 by_cases q : x.yes.length + x.no.length = 0
 · rw [if_pos q, Z3] at h
   simp only [aB] at h
   exact O0 h.2.2
 · rw [if_neg q] at h
   simp only [aB, decide_eq_true_eq] at h
   omega
theorem aMm {s : bX} {t : LTerm} {l : List LAsk} {i : Nat} (hi : i < l.length) (h : eJ s (l.getD i default) t = false) (ha : ∀ j, j < i → eJ s (l.getD j default) t = true) : (l.all fun a => eJ s a t) = false ∧ vQ s t l = i + 1 := by
 have e : idx (fun a => !eJ s a t) l = i := kX (d := default) hi (by rw [h]; rfl) (fun j hj => by rw [ha j hj]; rfl)
 have := (I1 (s := s) (t := t) (l := l)).2 (by omega)
 exact ⟨this.1, by omega⟩
theorem aSu {s : bX} {t : LTerm} {l : List LAsk} (ha : ∀ j, j < l.length → eJ s (l.getD j default) t = true) : (l.all fun a => eJ s a t) = true ∧ vQ s t l = l.length := by
 have e : idx (fun a => !eJ s a t) l = -1 := kY (d := default) (fun j hj => by rw [ha j hj]; rfl)
 exact (I1 (s := s) (t := t) (l := l)).1 (by omega)
def bOr (s : bX) (t : LTerm) (l : List LAsk) (m0 : Int) (i : Nat) (m : Int) (ok : Bool) : Prop :=
 i ≤ l.length ∧ ((ok = true ∧ m = m0 + (i : Int) ∧ ∀ j, j < i → eJ s (l.getD j default) t = true) ∨ (ok = false ∧ m = m0 + (vQ s t l : Int) ∧ (l.all fun a => eJ s a t) = false))
theorem bGr (s : bX) (x : cC) (t : LTerm) (hm : Small s) (hs : OkS s) (hx : OkV x) (ht : OkT t): CT 23 [.agg (aO s), elX x, elT t] (O8 (lK s x t)) := by
 refine dS (rx := true) (th := fun _ => none) mixed Tryz.func23 g0 ?_
 · generalize hR : ((O8 (lK s x t)) : AV) = R
   simp -implicitDefEqProofs (disch := omega) only [Tryz.f23, go_sem, List.replicate, ↓reduceIte, reduceAdd, reduceSub, reduceMul, reduceLeDiff, reduceLT, reduceEqDiff, reduceNeg, Nat.reduceBEq]
   have c1 := aVl s x hm hs hx
   have c2 := bIa s t hm hs ht
   simp only [elX, dH, avr, avt, avx] at c1
   rcases fE (aEp s x) with h1 | h1
   · rw [h1] at c1
     rcases fE (cV s && kA s t) with h2 | h2
     · rw [h2] at c2
       have hv := ((aB _ _).mp h2).1
       have hpl := ((aB _ _).mp h2).2
       have hp : lK s x t = (nZ s t (goT s t x 0).1.rows, (goT s t x 0).2 + (mC s t (goT s t x 0).1.rows : Int), 0) := by rw [lK, h1, h2, dQ, if_pos rfl]
       have st := vW.start (t := t) hx h1
       (refine zt2 c1 c2 ?_; repeat' first | exact trivial | refine zJ ?_ ?_ | refine zH fun hc => ?_)
       refine bT (fun (q : cC × Int) => [.k, .k, .k, .k, .k, .k, .k, .v (.i .i64 q.2), .k, .k, .k, .k, .k, .k, .k, .k, .k, .k, .k, .k, .k, .k, .k, .j, .j, .j, .j, .j, .j, .j, .j, .j, .j, .j, .j, .j, .j, .j, .j, .j, .j, .j, .k, .k, .k, .k, .k, .k, .k, .k, .k, .k, .k, .k, .k, .k, .k, .k, .k, .k, .k, .k, .k, .k, .k, .k, .k, .k, .k, .k, .k, .k, .k, .k, .k, .k, .k, .k]) (fun q => [.box false (aO s), .box false [.sl ((q.1).rows.flatMap bM) (q.1).rows.length, .sl ((q.1).ask.path.map (.i .i64)) (q.1).ask.path.length, .i .i64 (q.1).ask.test.op, .i .i64 (q.1).ask.test.term.kind, .i .i64 (q.1).ask.test.term.n, .s (q.1).ask.test.term.text, .s (q.1).ask.test.term.sort, .sl ((q.1).ask.test.term.kids.flatMap aD) (q.1).ask.test.term.kids.length, .sl ((q.1).ask.test.term.rest.flatMap aD) (q.1).ask.test.term.rest.length, .s (q.1).ask.test.text, .i .i64 (q.1).ask.test.n, .sl ((q.1).yes.flatMap bH) (q.1).yes.length, .sl ((q.1).no.flatMap bH) (q.1).no.length], .box false [.i .i64 (t).kind, .i .i64 (t).n, .s (t).text, .s (t).sort, .sl ((t).kids.flatMap aD) (t).kids.length, .sl ((t).rest.flatMap aD) (t).rest.length]]) (fun q => vW s t x q.1 q.2) (fun q => SizeOf.sizeOf q.1) ((x, 0)) st rfl (by simp [eQ]) ?_
       rintro ⟨y, n⟩ j hd
       dsimp only at hd
       by_cases hy : y.yes.length = 0
       · have zy : ¬ (0 : Int) < ((y.yes.length : Nat) : Int) := by omega
         obtain ⟨g1, g2, g3, g4⟩ := hd.fin hy
         have hla := aFr hd.nodes hy
         rw [g1] at hp
         dsimp only at hp
         have n0 := hd.n0
         refine zh (zf zy) ?_
         refine bT (fun (q : Nat × Int × AV × List AObj) => [.k, .k, .k, .k, .k, .k, .v (q.2.2.1), .v (.i .i64 q.2.1), .k, .k, .j, .j, .j, .k, .k, .k, .k, .k, .k, .k, .k, .k, .k, .k, .k, .k, .k, .k, .k, .k, .k, .k, .k, .k, .k, .k, .k, .k, .k, .k, .k, .k, .k, .k, .k, .v (.i .i64 (q.1 : Nat)), .j, .j, .j, .j, .j, .j, .j, .j, .j, .j, .j, .j, .j, .j, .j, .j, .j, .j, .j, .j, .j, .j, .j, .j, .j, .j, .j, .j, .j, .j, .k, .k]) (fun q => (.box false (aO s) :: .box false [.sl ((y).rows.flatMap bM) (y).rows.length, .sl ((y).ask.path.map (.i .i64)) (y).ask.path.length, .i .i64 (y).ask.test.op, .i .i64 (y).ask.test.term.kind, .i .i64 (y).ask.test.term.n, .s (y).ask.test.term.text, .s (y).ask.test.term.sort, .sl ((y).ask.test.term.kids.flatMap aD) (y).ask.test.term.kids.length, .sl ((y).ask.test.term.rest.flatMap aD) (y).ask.test.term.rest.length, .s (y).ask.test.text, .i .i64 (y).ask.test.n, .sl ((y).yes.flatMap bH) (y).yes.length, .sl ((y).no.flatMap bH) (y).no.length] :: .box false [.i .i64 (t).kind, .i .i64 (t).n, .s (t).text, .s (t).sort, .sl ((t).kids.flatMap aD) (t).kids.length, .sl ((t).rest.flatMap aD) (t).rest.length] :: q.2.2.2)) (fun q => q.1 ≤ y.rows.length ∧ q.2.1 = n + (mC s t (y.rows.take q.1) : Int) ∧ eZ 1 3 q.2.2.2 q.2.2.1 (ints (nZ s t (y.rows.take q.1))) (nZ s t (y.rows.take q.1)).length) (fun q => y.rows.length - q.1) ((0, n, .e0, [])) ⟨aG _, by simp [mC], kU⟩ rfl (by simp [eQ]) ?_
         rintro ⟨k, m, out, g⟩ j2 ⟨hk, hm0, hout⟩
         dsimp only at hk hm0 hout
         by_cases hlt : k < y.rows.length
         · have hki : (k : Int) < ((y.rows.length : Nat) : Int) := by omega
           have hmr := aV (d := default) hlt
           obtain ⟨q1, q2⟩ := g4 _ hmr
           have hca := wF s t (y.rows.getD k default).left
           have hck := I2 (s := s) (t := t) (l := y.rows.take k) (fun r hr => (g4 r (rU hr)).1)
           have hrl := sK (s := s) (t := t) (l := y.rows.take k)
           have htr := A3 (s := s) (t := t) hlt
           have htc := C8 (s := s) (t := t) hlt
           rw [jL] at hck hrl
           have hck2 : mC s t (y.rows.take k) ≤ 1000000000000 := dU hck (by
             have : min k y.rows.length ≤ 1000000 := by omega
             exact bQ 1000000 this)
           refine zh (zA2 (zt hki) @bM.eq_1) ?_
           refine ⟨by omega, by omega, ?_⟩
           refine dV (fun (q : Nat × Int × Bool) => [.k, .k, .k, .k, .k, .k, .k, .v (.i .i64 q.2.1), .k, .k, .k, .v (.b q.2.2), .v (.i .i64 (q.1 : Nat)), .k, .k, .k, .k, .k, .k, .k, .k, .k, .k, .k, .k, .k, .k, .k, .k, .k, .k, .k, .k, .k, .k, .k, .k, .k, .k, .k, .k, .k, .k, .k, .k, .k, .k, .k, .k, .j, .j, .j, .j, .j, .j, .j, .j, .j, .j, .j, .j, .j, .j, .j, .j, .j, .j, .j, .j, .k, .k, .k, .k, .k, .k, .k, .k, .k]) (fun q => (.box false (aO s) :: .box false [.sl ((y).rows.flatMap bM) (y).rows.length, .sl ((y).ask.path.map (.i .i64)) (y).ask.path.length, .i .i64 (y).ask.test.op, .i .i64 (y).ask.test.term.kind, .i .i64 (y).ask.test.term.n, .s (y).ask.test.term.text, .s (y).ask.test.term.sort, .sl ((y).ask.test.term.kids.flatMap aD) (y).ask.test.term.kids.length, .sl ((y).ask.test.term.rest.flatMap aD) (y).ask.test.term.rest.length, .s (y).ask.test.text, .i .i64 (y).ask.test.n, .sl ((y).yes.flatMap bH) (y).yes.length, .sl ((y).no.flatMap bH) (y).no.length] :: .box false [.i .i64 (t).kind, .i .i64 (t).n, .s (t).text, .s (t).sort, .sl ((t).kids.flatMap aD) (t).kids.length, .sl ((t).rest.flatMap aD) (t).rest.length] :: (g ++ [.box false [.i .i64 (y.rows.getD k default).index, .sl ((y.rows.getD k default).left.flatMap aR) (y.rows.getD k default).left.length]]))) (fun q => bOr s t (y.rows.getD k default).left m q.1 q.2.1 q.2.2) (fun q => (y.rows.getD k default).left.length - q.1) ((0, m, true)) [] ⟨aG _, .inl ⟨rfl, by simp, fun j h => by omega⟩⟩ (by simp [avs, avb, avi, avo, bA, aO]) (by simp [eQ]) ?_
           rintro ⟨i, m2, ok⟩ g3 j3 ⟨hi, hst⟩
           dsimp only at hi hst
           rcases hst with ⟨rfl, hm2, ha⟩ | ⟨rfl, hm2, ha⟩
           · by_cases hit : i < (y.rows.getD k default).left.length
             · have hii : (i : Int) < (((y.rows.getD k default).left.length : Nat) : Int) := by omega
               have hmi := aV (d := default) hit
               have c5 := aVk s ((y.rows.getD k default).left.getD i default) t hm hs hv (q2 _ hmi).test (aDw (hla _ hmr _ hmi)) ht hpl
               simp only [aR, avt] at c5
               have w1 : IntKind.i64.wrap (m2 + 1) = m2 + 1 := wrap64 (by omega) (by omega)
               rcases fE (eJ s ((y.rows.getD k default).left.getD i default) t) with h5 | h5
               · rw [h5] at c5
                 refine zh (zA2 (zt hii) w1) ?_
                 (refine zy1 (zA2 (zt hii) (zA2 w1 (zA2 @aR.eq_1 @avt.eq_1))) c5 ?_; repeat' first | exact trivial | refine zJ ?_ ?_ | refine zH fun hc => ?_)
                 exact ⟨(i + 1, m2 + 1, true), _, ⟨by dsimp only; omega, .inl ⟨rfl, by dsimp only; omega, bE ha h5⟩⟩, by dsimp only; omega, rfl, by simp⟩
               · rw [h5] at c5
                 obtain ⟨e1, e2⟩ := aMm hit h5 ha
                 refine zh (zA2 (zt hii) w1) ?_
                 (refine zy1 (zA2 (zt hii) (zA2 w1 (zA2 @aR.eq_1 @avt.eq_1))) c5 ?_; repeat' first | exact trivial | refine zJ ?_ ?_ | refine zH fun hc => ?_)
                 exact ⟨(i + 1, m2 + 1, false), _, ⟨by dsimp only; omega, .inr ⟨rfl, by dsimp only; omega, e1⟩⟩, by dsimp only; omega, rfl, by simp⟩
             · have hii : ¬ (i : Int) < (((y.rows.getD k default).left.length : Nat) : Int) := by omega
               obtain ⟨e1, e2⟩ := aSu (s := s) (t := t) (l := (y.rows.getD k default).left) (fun j hj => ha j (by omega))
               rw [e1, if_pos rfl] at htr
               refine zh (zf hii) ?_
               (refine zx0 (zf hii) ?_; repeat' first | exact trivial | refine zJ ?_ ?_ | refine zH fun hc => ?_)
               refine fN (pre := [.box false [.sl (s.sorts.map .s) s.sorts.length, .sl (s.below.flatMap bU) s.below.length, .sl (s.ops.flatMap bA) s.ops.length, .sl (s.funs.flatMap bA) s.funs.length, .sl (s.values.map .s) s.values.length], .box false [.sl ((y).rows.flatMap bM) (y).rows.length, .sl ((y).ask.path.map (.i .i64)) (y).ask.path.length, .i .i64 (y).ask.test.op, .i .i64 (y).ask.test.term.kind, .i .i64 (y).ask.test.term.n, .s (y).ask.test.term.text, .s (y).ask.test.term.sort, .sl ((y).ask.test.term.kids.flatMap aD) (y).ask.test.term.kids.length, .sl ((y).ask.test.term.rest.flatMap aD) (y).ask.test.term.rest.length, .s (y).ask.test.text, .i .i64 (y).ask.test.n, .sl ((y).yes.flatMap bH) (y).yes.length, .sl ((y).no.flatMap bH) (y).no.length], .box false [.i .i64 (t).kind, .i .i64 (t).n, .s (t).text, .s (t).sort, .sl ((t).kids.flatMap aD) (t).kids.length, .sl ((t).rest.flatMap aD) (t).rest.length]]) (g := g ++ (.box false [.i .i64 (y.rows.getD k default).index, .sl ((y.rows.getD k default).left.flatMap aR) (y.rows.getD k default).left.length] :: g3)) (more := [.arr false 1 [.i .i64 (y.rows.getD k default).index]]) (news := [.i .i64 (y.rows.getD k default).index]) (m := 1) (hout.more _) rfl (by simp) bNk zo3 sz3 by3 rfl (by decide) (by simp -implicitDefEqProofs (disch := omega) only [go_sem, ↓reduceIte, reduceAdd, reduceSub, reduceMul, reduceLeDiff, reduceLT, reduceEqDiff, reduceNeg, Nat.reduceBEq]) (by simp -implicitDefEqProofs (disch := omega) only [go_sem, ↓reduceIte, reduceAdd, reduceSub, reduceMul, reduceLeDiff, reduceLT, reduceEqDiff, reduceNeg, Nat.reduceBEq]) ⟨by omega, by omega⟩ ?_
               intro out' g' ho' _
               refine zg ?_
               refine ⟨(k + 1, m2, out', g'), ⟨by dsimp only; omega, ?_, ?_⟩, by dsimp only; omega, rfl, rfl, rfl, by simp⟩
               · dsimp only
                 rw [htc]; omega
               · dsimp only
                 rw [htr, ints, aT, aI]
                 exact ho'
           · rw [ha, if_neg (by simp), List.append_nil] at htr
             by_cases hii : (i : Int) < (((y.rows.getD k default).left.length : Nat) : Int)
             · refine zh (zt hii) ?_
               (refine zx0 (zt hii) ?_; repeat' first | exact trivial | refine zJ ?_ ?_ | refine zH fun hc => ?_)
               refine ⟨(k + 1, m2, out, _), ⟨by dsimp only; omega, ?_, ?_⟩, by dsimp only; omega, rfl, rfl, rfl, by simp⟩
               · dsimp only
                 rw [htc]; omega
               · dsimp only
                 rw [htr]
                 exact hout.more _
             · refine zh (zf hii) ?_
               (refine zx0 (zf hii) ?_; repeat' first | exact trivial | refine zJ ?_ ?_ | refine zH fun hc => ?_)
               refine ⟨(k + 1, m2, out, _), ⟨by dsimp only; omega, ?_, ?_⟩, by dsimp only; omega, rfl, rfl, rfl, by simp⟩
               · dsimp only
                 rw [htc]; omega
               · dsimp only
                 rw [htr]
                 exact hout.more _
         · have hki : ¬ (k : Int) < ((y.rows.length : Nat) : Int) := by omega
           have hkt : y.rows.take k = y.rows := aS (by omega)
           rw [hkt] at hout hm0
           refine zh (zf hki) ?_
           subst hR
           rw [hp, hm0]
           exact aCs (pre := [_, _, _]) hout fP
       · have zy : (0 : Int) < ((y.yes.length : Nat) : Int) := by omega
         obtain ⟨f1, f2, f3, f4, f5, f6⟩ := hd.step hy
         have hia := (xN hd.nodes hy).2.2.1
         have n0 := hd.n0
         have c4 := aVk s y.ask t hm hs hv f4.test (aDw hia) ht hpl
         simp only [aR, avt] at c4
         rcases fE (eJ s y.ask t) with h3 | h3
         · rw [h3] at c4
           refine zh (zt zy) ?_
           (refine zy1 (zt zy) c4 ?_; repeat' first | exact trivial | refine zJ ?_ ?_ | refine zH fun hc => ?_)
           exact ⟨(y.yes.getD 0 default, n + 1), f5 h3, E9 (aV (by omega)), rfl, by simp⟩
         · rw [h3] at c4
           refine zh (zt zy) ?_
           (refine zy1 (zt zy) c4 ?_; repeat' first | exact trivial | refine zJ ?_ ?_ | refine zH fun hc => ?_)
           exact ⟨(y.no.getD 0 default, n + 1), f6 h3, W4 (aV (by omega)), rfl, by simp⟩
     · rw [h2] at c2
       have hp : lK s x t = ([], 0, 2) := by rw [lK, h2, Bool.and_false, if_neg (by simp)]
       (refine zt2 c1 c2 ?_; repeat' first | exact trivial | refine zJ ?_ ?_ | refine zH fun hc => ?_)
       subst hR
       all_goals exact .inr ⟨by rw [hp]; exact ⟨rfl, rfl, rfl, trivial⟩, eC, fun i hi => absurd hi (by show ¬ i ∈ []; simp)⟩
   · rw [h1] at c1
     have hp : lK s x t = ([], 0, 2) := by rw [lK, h1, Bool.false_and, if_neg (by simp)]
     (refine zt1 c1 ?_; repeat' first | exact trivial | refine zJ ?_ ?_ | refine zH fun hc => ?_)
     subst hR
     all_goals exact .inr ⟨by rw [hp]; exact ⟨rfl, rfl, rfl, trivial⟩, eC, fun i hi => absurd hi (by show ¬ i ∈ []; simp)⟩

theorem aDt : ∀ {l : List LAsk}, l.length ≤ kH l
 | [] => by simp
 | a :: l => by
   have := aDt (l := l)
   rw [kH, aWh, aK]; omega
theorem U0 : ∀ {l : List LAsk}, ∀ a ∈ l, a.path.length ≤ kH l
 | x :: l, a, h => by
   rw [kH]
   rcases bZ.1 h with rfl | h
   · rw [aWh]; omega
   · have := U0 (l := l) a h
     omega
theorem aDs {l : List LAsk} (h : uH l = true) (ho : ∀ a ∈ l, OkX a.test) : l.length ≤ 6000 ∧ ∀ a ∈ l, OkK a := by
 have h3 := of_decide_eq_true ((aB _ _).mp h).2
 have h1 := aDt (l := l)
 exact ⟨by omega, fun a ha => ⟨ho a ha, by have := U0 a ha; omega⟩⟩
theorem zX : ∀ {l : List pY} {m m2 : Int}, kO l m = some m2 → ∀ r ∈ l, uH r.left = true
 | x :: l, m, m2, h, r, hr => by
   rw [kO] at h
   split at h
   · cases h
   · rename_i hc
     rcases bZ.1 hr with rfl | hr
     · rcases fE (uH r.left) with q | q
       · exact q
       · exact absurd (.inr q) hc
     · exact zX h r hr
theorem W3 : ∀ {l : List cC} {m : Int}, m ≤ 600 → 0 ≤ spL l m → ∀ y ∈ l, ∃ m' : Int, 0 ≤ m' ∧ m' ≤ 600 ∧ 0 ≤ spT y m'
 | x :: l, m, h6, h, y, hy => by
   rw [spL] at h
   split at h
   · omega
   · rename_i h0
     have h1 : 0 ≤ spT x m := by
       by_cases q : spT x m < 0
       · rw [E5 q] at h; omega
       · omega
     have h2 := aBh x m (by omega)
     rcases bZ.1 hy with rfl | hy
     · exact ⟨m, by omega, h6, h1⟩
     · exact W3 (l := l) (m := spT x m) (by omega) h y hy
theorem aWy : ∀ (x : cC), E0 x → ∀ m : Int, 0 ≤ m → m ≤ 600 → 0 ≤ spT x m → OkV x :=
 gX (Q := fun x => E0 x → ∀ m : Int, 0 ≤ m → m ≤ 600 → 0 ≤ spT x m → OkV x) fun x hy hn hx m h0 h6 hs => by
   obtain ⟨x1, x2, x3, x4, x5, x6, x7, x8⟩ : OkX x.ask.test ∧ PathOk x.ask.path ∧ x.rows.length ≤ 10000000000000 ∧ (∀ r ∈ x.rows, OkR r) ∧ x.yes.length ≤ 10000000000000 ∧ x.no.length ≤ 10000000000000 ∧ (∀ k ∈ x.yes, E0 k) ∧ (∀ k ∈ x.no, E0 k) := by cases hx; exact ⟨by assumption, by assumption, by assumption, by assumption, by assumption, by assumption, by assumption, by assumption⟩
   rw [aId] at hs
   split at hs
   · omega
   · rename_i ha
     have ha' : uH [x.ask] = true := by simpa using ha
     have k1 := (aDs ha' (by simpa using x1)).2 x.ask (by simp)
     split at hs
     · omega
     · rename_i m2 h2
       have h3 := wS h2
       have hyl : 0 ≤ spL x.yes m2 := by
         by_cases q : spL x.yes m2 < 0
         · rw [E5 q] at hs; omega
         · omega
       have hyn := W3 (m := m2) (l := x.yes) (by omega) hyl
       have hm2 : 0 ≤ m2 := by
         by_cases q : m2 < 0
         · rw [E5 q] at hyl; omega
         · omega
       have hle := aBi (l := x.yes) (m := m2) (fun y _ m h => aBh y m h) (by omega)
       have hnn := W3 (m := spL x.yes m2) (l := x.no) (by omega) hs
       refine .mk k1 (by omega) (fun r hr => ?_) x5 x6 (fun k hk => ?_) (fun k hk => ?_)
       · have q := aDs (zX h2 r hr) (fun a h => ((x4 r hr).asks a h).1)
         exact ⟨by omega, q.2⟩
       · obtain ⟨m', a, b, c⟩ := hyn k hk
         exact hy k hk (x7 k hk) m' a b c
       · obtain ⟨m', a, b, c⟩ := hnn k hk
         exact hn k hk (x8 k hk) m' a b c
theorem aRh (s : bX) (t : LTerm) : ∀ (x : cC) (n : Int), OkV x → (goT s t x n).1.rows.length ≤ 1000000 :=
 gX (Q := fun x => ∀ (n : Int), OkV x → (goT s t x n).1.rows.length ≤ 1000000) fun x hy hn n hx => by
   obtain ⟨a, b, c⟩ : x.rows.length ≤ 1000000 ∧ (∀ k ∈ x.yes, OkV k) ∧ (∀ k ∈ x.no, OkV k) := by cases hx; exact ⟨by assumption, by assumption, by assumption⟩
   obtain ⟨rows, ask, yes, no⟩ := x
   simp only [cC.rows, cC.yes, cC.no] at a b c hy hn
   rw [goT]
   split
   · exact a
   · have z : (default : cC).rows.length ≤ 1000000 := by decide
     split
     · match yes with
       | [] => rw [goL]; exact z
       | y :: _ => rw [goL]; exact hy y (by simp) _ (b y (by simp))
     · match no with
       | [] => rw [goL]; exact z
       | y :: _ => rw [goL]; exact hn y (by simp) _ (c y (by simp))
theorem bGz (s : bX) (x : cC) (t : LTerm) (hs : OkS s) (hx : E0 x) (ht : OkT t): CT 5 [.agg (aO s), elX x, elT t] (.b true) := by
 refine dS (rx := true) (th := fun _ => none) mixed Tryz.func5 g0 ?_
 · simp -implicitDefEqProofs (disch := omega) only [Tryz.f5, go_sem, List.replicate, ↓reduceIte, reduceAdd, reduceSub, reduceMul, reduceLeDiff, reduceLT, reduceEqDiff, reduceNeg, Nat.reduceBEq, gP, bV, cK, List.append_nil]
   have c1 := bGy s [t] hs (by simp) (by intro y hy; simp only [bZ, List.not_mem_nil, or_false] at hy; exact hy ▸ ht)
   have c2 := bGt x hx
   have ca := bGx
   simp only [avt, cY, mO, List.append_nil, aK, bJ, dB, bC] at c1
   simp only [elX, dH, avr, avt, avx] at c2
   rcases fE (few s && aRs 1500 [t]) with h1 | h1
   · rw [h1] at c1
     have hm := aLn ((aB _ _).mp h1).1
     rcases fE (bCs x) with h2 | h2
     · rw [h2] at c2
       have hv := aWy x hx 600 (by decide) (by decide) (of_decide_eq_true h2)
       have d1 := bGs s x t hm hs hv ht
       have d2 := bGr s x t hm hs hv ht
       have d3 := aLy s x hm hs hv
       have d4 := aVl s x hm hs hv
       have hlen : (lK s x t).1.length ≤ 1000000 := by
         rw [lK]
         split
         · rename_i q
           have q2 := (aRh s t x 0 hv)
           exact dU sK q2
         · simp
       have d5 := bGu (lK s x t).1 (lK s x t).1 hlen hlen
       rw [zt rfl] at d5
       simp only [elX, dH, avr, avt, avx, O8] at d1 d2 d3 d4
       generalize (lK s x t).1 = T at *
       generalize (lK s x t).2.1 = M at *
       generalize (lK s x t).2.2 = E at *
       generalize aEp s x = V at *
       (repeat' (first | refine gT ?_ ?_ | refine gF ?_ ?_ | refine gC ?_ ?_ | ((first | (refine aX (c1) ?_ ?_; (focus (simp -implicitDefEqProofs (disch := omega) only [gP, bV, cK, List.append_nil, eq_self, decide_true, zdB, go_sem, ↓reduceIte, reduceAdd, reduceSub, reduceMul, reduceLeDiff, reduceLT, reduceEqDiff, reduceNeg, Nat.reduceBEq]; done))) | (refine aX (c2) ?_ ?_; (focus (simp -implicitDefEqProofs (disch := omega) only [gP, bV, cK, List.append_nil, eq_self, decide_true, zdB, go_sem, ↓reduceIte, reduceAdd, reduceSub, reduceMul, reduceLeDiff, reduceLT, reduceEqDiff, reduceNeg, Nat.reduceBEq]; done))) | (refine aX (d1) ?_ ?_; (focus (simp -implicitDefEqProofs (disch := omega) only [gP, bV, cK, List.append_nil, eq_self, decide_true, zdB, go_sem, ↓reduceIte, reduceAdd, reduceSub, reduceMul, reduceLeDiff, reduceLT, reduceEqDiff, reduceNeg, Nat.reduceBEq]; done))) | (refine aX (d2) ?_ ?_; (focus (simp -implicitDefEqProofs (disch := omega) only [gP, bV, cK, List.append_nil, eq_self, decide_true, zdB, go_sem, ↓reduceIte, reduceAdd, reduceSub, reduceMul, reduceLeDiff, reduceLT, reduceEqDiff, reduceNeg, Nat.reduceBEq]; done))) | (refine aX (d3) ?_ ?_; (focus (simp -implicitDefEqProofs (disch := omega) only [gP, bV, cK, List.append_nil, eq_self, decide_true, zdB, go_sem, ↓reduceIte, reduceAdd, reduceSub, reduceMul, reduceLeDiff, reduceLT, reduceEqDiff, reduceNeg, Nat.reduceBEq]; done))) | (refine aX (d4) ?_ ?_; (focus (simp -implicitDefEqProofs (disch := omega) only [gP, bV, cK, List.append_nil, eq_self, decide_true, zdB, go_sem, ↓reduceIte, reduceAdd, reduceSub, reduceMul, reduceLeDiff, reduceLT, reduceEqDiff, reduceNeg, Nat.reduceBEq]; done))) | (refine aX (d5) ?_ ?_; (focus (simp -implicitDefEqProofs (disch := omega) only [gP, bV, cK, List.append_nil, eq_self, decide_true, zdB, go_sem, ↓reduceIte, reduceAdd, reduceSub, reduceMul, reduceLeDiff, reduceLT, reduceEqDiff, reduceNeg, Nat.reduceBEq]; done))) | (refine aX (ca) ?_ ?_; (focus (simp -implicitDefEqProofs (disch := omega) only [gP, bV, cK, List.append_nil, eq_self, decide_true, zdB, go_sem, ↓reduceIte, reduceAdd, reduceSub, reduceMul, reduceLeDiff, reduceLT, reduceEqDiff, reduceNeg, Nat.reduceBEq]; done)))); simp -implicitDefEqProofs (disch := omega) only [gP, bV, cK, List.append_nil, eq_self, decide_true, go_sem, ↓reduceIte, reduceAdd, reduceSub, reduceMul, reduceLeDiff, reduceLT, reduceEqDiff, reduceNeg, Nat.reduceBEq]) | refine aZ (by omega) ?_ | (intro hr; have hc := hr; (try simp only [zdz] at hc); simp -implicitDefEqProofs (disch := omega) only [hr, gP, bV, cK, List.append_nil, eq_self, decide_true, go_sem, ↓reduceIte, reduceAdd, reduceSub, reduceMul, reduceLeDiff, reduceLT, reduceEqDiff, reduceNeg, Nat.reduceBEq]; (try clear hr))))
       trace_state
       all_goals exact aE (by cases V <;> rfl) rfl
     · rw [h2] at c2
       (refine zy3 (zA2 @gP (zA2 @bV.{0} (zA2 @cK.{0} @List.append_nil.{0}))) c1 c2 ca ?_; repeat' first | exact trivial | refine zJ ?_ ?_ | refine zH fun hc => ?_)
       all_goals exact aE rfl rfl
   · rw [h1] at c1
     (refine zy2 (zA2 @gP (zA2 @bV.{0} (zA2 @cK.{0} @List.append_nil.{0}))) c1 ca ?_; repeat' first | exact trivial | refine zJ ?_ ?_ | refine zH fun hc => ?_)
     all_goals exact aE rfl rfl

theorem aJw {a : LAsk} (h : KOk a) : OkX a.test ∧ PathOk a.path := ⟨⟨h.1.1, h.1.2⟩, h.2⟩
section
variable {H : Type} {enc : TypeId × Value → H} {X : Ctx} {w : World} {h : List AObj} {sp : Nat → Bool} {hd : Bool}
theorem bDl (hF : ∀ b, b < w.heap.size → X.F b) : Rd enc Tryz.prog X w h sp hd 41 (fun l : List LAsk => [ava l]) (fun l => (∀ t ∈ l, KOk t) ∧ l.length * 152 ≤ 140737488355328) :=
 (oA hF Tryz.underlying41 (sz := 10) (by_ := 152) (by kernel_rfl) (by kernel_rfl) (by decide) aAq (bDm hF)).map id (fun l hq => ⟨hq, rfl⟩)
theorem bLl (hF : ∀ b, b < w.heap.size → X.F b) : Rd enc Tryz.prog X w h sp hd 100 bM OkR := by
 refine (nC Tryz.underlying100 (N := 2) (by kernel_rfl) (eU rfl (sz := 1) (by kernel_rfl) rfl (by decide) (sL Tryz.underlying3) (eU rfl (sz := 1) (by kernel_rfl) rfl (by decide) (bDl hF) (tS (by decide))))).map (fun p => pY.mk p.1 p.2.1) (fun p hq => ⟨?_, rfl⟩)
 obtain ⟨q1, ⟨q2, q3⟩, _⟩ := hq
 have q := aHi q1
 have e1 : IntKind.min .i64 = -9223372036854775808 := by decide +kernel
 have e2 : IntKind.max .i64 = 9223372036854775807 := by decide +kernel
 rw [e1, e2] at q
 exact ⟨q, by show p.2.1.length ≤ _; omega, fun a ha => aJw (q2 a ha)⟩
theorem bDi (hF : ∀ b, b < w.heap.size → X.F b) : Rd enc Tryz.prog X w h sp hd 53 (fun l : List pY => [avr l]) (fun l => (∀ t ∈ l, OkR t) ∧ l.length * 32 ≤ 140737488355328) :=
 (oA hF Tryz.underlying53 (sz := 2) (by_ := 32) (by kernel_rfl) (by kernel_rfl) (by decide) F2 (bLl hF)).map id (fun l hq => ⟨hq, rfl⟩)
theorem aFj (hF : ∀ b, b < w.heap.size → X.F b) {m : Nat} (r : RdN m enc Tryz.prog X w h sp hd 56 bH E0) : RdN (m + 1) enc Tryz.prog X w h sp hd 54 (fun l : List cC => [avx l]) (fun l => (∀ t ∈ l, E0 t) ∧ l.length * 224 ≤ 140737488355328) :=
 (xC hF Tryz.underlying54 (sz := 13) (by_ := 224) (by kernel_rfl) (by kernel_rfl) (by decide) E1 r).map id (fun l hq => ⟨hq, rfl⟩)
theorem aXr (hF : ∀ b, b < w.heap.size → X.F b) : ∀ m, RdN m enc Tryz.prog X w h sp hd 56 bH E0 := by
 intro m
 induction m using Nat.strongRecOn with
 | ind m ih =>
   cases m with
   | zero => exact aPo
   | succ m =>
     have rk : RdN m enc Tryz.prog X w h sp hd 54 (fun l : List cC => [avx l]) (fun l => (∀ t ∈ l, E0 t) ∧ l.length * 224 ≤ 140737488355328) := by
       cases m with
       | zero => exact aPo
       | succ m => exact aFj hF (ih m (by omega))
     refine (A5 Tryz.underlying56 (N := 13) (by kernel_rfl) (iQ rfl (sz := 1) (by kernel_rfl) rfl (by decide) (bDi hF).n (iQ rfl (sz := 10) (by kernel_rfl) rfl (by decide) (bDm hF).n
       (iQ rfl (sz := 1) (by kernel_rfl) rfl (by decide) rk (iQ rfl (sz := 1) (by kernel_rfl) rfl (by decide) rk (aBs (by decide))))))).map (fun p => cC.mk p.1 p.2.1 p.2.2.1 p.2.2.2.1) (fun p hq => ⟨?_, ?_⟩)
     · obtain ⟨⟨q1, q2⟩, q3, ⟨q5, q5b⟩, ⟨q6, q6b⟩, _⟩ := hq
       exact .mk (aJw q3).1 (aJw q3).2 (by simp only [cC.rows]; omega) q1 (by simp only [cC.yes]; omega) (by simp only [cC.no]; omega) q5 q6
     · rw [dH]; rfl
theorem bDg (hF : ∀ b, b < w.heap.size → X.F b) : Rd enc Tryz.prog X w h sp hd 56 bH E0 := .of (aXr hF)
end
theorem Y4 {W : World} {qR : Nat} {v : Value} (h : Value.okWide Tryz.prog W .any qR 56 v) : ∃ cs, v = .agg cs := by
 unfold Value.okWide at h
 rw [Tryz.underlying56] at h
 obtain ⟨cs, rfl, _⟩ := h
 exact ⟨cs, rfl⟩
theorem aOr {H : Type} {enc : TypeId × Value → H} {W : World} {qR : Nat} {v : Value} {d : DataW H} {p : List MemPlace} (hval : Value.okWide Tryz.prog W .any qR 56 v) (h0 : DataW.Trod enc Tryz.prog W 0 (fun _ => true) true 56 v d p) (hw : ∀ n ∈ d.weights Tryz.prog 56, n ≤ reachBytes) :
   ∃ a, E0 a ∧ RV (.none fun b => b < W.heap.size) W [] (elX a) v := aAs (Y4 hval) h0 hw (bDg (fun _ h => h))
end Go.Proofs.YtifefbhllfdmlaaGreatDoor

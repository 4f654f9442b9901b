/-
  What functions of the chapter return, as plain functions of what they are given; no condition beyond those that each theorem names.
-/
import Derived.Test.YtifefbhllfdmlaaGreatDoorVaP47
set_option maxRecDepth 100000
set_option linter.unusedSimpArgs false
set_option linter.unusedVariables false
set_option maxHeartbeats 4000000
namespace Go.Proofs.YtifefbhllfdmlaaGreatDoor
open Go Go.Vo
open Nat (reduceAdd reduceSub reduceMul reduceLeDiff reduceLT reduceEqDiff)
open Int (reduceNeg)

theorem bGu (l m : List Int) (hl : l.length ≤ 1000000) (hm : m.length ≤ 1000000): CT 20 [.sl (ints l) l.length, .sl (ints m) m.length] (.b (decide (l = m))) := by
 refine dS (rx := true) (th := fun _ => none) mixed Tryz.func20 g0 ?_
 · simp -implicitDefEqProofs (disch := omega) only [Tryz.f20, go_sem, List.replicate, ↓reduceIte, reduceAdd, reduceSub, reduceMul, reduceLeDiff, reduceLT, reduceEqDiff, reduceNeg, Nat.reduceBEq]
   by_cases he : l.length = m.length
   · have hei : ((l.length : Nat) : Int) = ((m.length : Nat) : Int) := by omega
     refine zh (zt hei) ?_
     (refine zx0 (zt hei) ?_; repeat' first | exact trivial | refine zJ ?_ ?_ | refine zH fun hc => ?_)
     refine bT (fun (k : Nat) => [.k, .k, .k, .k, .j, .j, .k, .k, .k, .k, .k, .k, .k, .v (.i .i64 (k : Nat)), .j, .j, .j, .j, .j, .j, .j, .j, .j, .j, .j, .j]) (fun k => []) (fun k => k ≤ l.length ∧ ∀ j, j < k → l.getD j 0 = m.getD j 0) (fun k => l.length - k) (0) ⟨aG _, fun j h => by omega⟩ rfl (by simp [eQ]) ?_
     rintro k j ⟨hk, ha2⟩
     refine zg ?_
     (refine zs0 ?_; repeat' first | exact trivial | refine zJ ?_ ?_ | refine zH fun hc => ?_)
     all_goals first
       | exact aE (by rw [aYe (by omega) hc]) rfl
       | exact ⟨k + 1, ⟨by omega, bE ha2 hc⟩, by omega, rfl⟩
       | exact aE (by rw [aJj he (fun j hj => ha2 j (by omega))]) rfl
   · have hei : ¬ ((l.length : Nat) : Int) = ((m.length : Nat) : Int) := by omega
     refine zh (zf hei) ?_
     (refine zx0 (zf hei) ?_; repeat' first | exact trivial | refine zJ ?_ ?_ | refine zH fun hc => ?_)
     all_goals exact aE (by rw [zf (fun e => he (by rw [e]))]) rfl


structure pY where
 index : Int
 left : List LAsk
instance : Inhabited pY := ⟨⟨0, []⟩⟩
inductive cC where
 | mk (rows : List pY) (ask : LAsk) (yes no : List cC)
namespace cC
def rows : cC → List pY | mk r _ _ _ => r
def ask : cC → LAsk | mk _ a _ _ => a
def yes : cC → List cC | mk _ _ y _ => y
def no : cC → List cC | mk _ _ _ n => n
end cC
abbrev zA : LAsk := ⟨[], ⟨0, zT, [], 0⟩⟩
instance : Inhabited cC := ⟨.mk [] zA [] []⟩
theorem E9 {t k : cC} (h : k ∈ t.yes) : SizeOf.sizeOf k < SizeOf.sizeOf t := by
 cases t; simp only [cC.yes] at h; have := qU h; simp; omega
theorem W4 {t k : cC} (h : k ∈ t.no) : SizeOf.sizeOf k < SizeOf.sizeOf t := by
 cases t; simp only [cC.no] at h; have := qU h; simp; omega
theorem gX {Q : cC → Prop} (h : ∀ t, (∀ k ∈ t.yes, Q k) → (∀ k ∈ t.no, Q k) → Q t) (t : cC) : Q t :=
 h t (fun k hk => gX h k) (fun k hk => gX h k)
termination_by SizeOf.sizeOf t
decreasing_by
 · exact E9 hk
 · exact W4 hk
def bM (r : pY) : List AV := [.i .i64 r.index, .sl (r.left.flatMap aR) r.left.length]
theorem F2 (r : pY) : (bM r).length = 2 := rfl
def avr (l : List pY) : AV := .sl (l.flatMap bM) l.length
mutual
def bH : cC → List AV
 | .mk r a y n => avr r :: (aR a ++ [.sl (treesCells y) y.length, .sl (treesCells n) n.length])
def treesCells : List cC → List AV
 | [] => []
 | t :: l => bH t ++ treesCells l
end
theorem rZ : ∀ (l : List cC), treesCells l = l.flatMap bH
 | [] => by simp [treesCells]
 | t :: l => by rw [treesCells, rZ l, cY]
def avx (l : List cC) : AV := .sl (l.flatMap bH) l.length
theorem dH (x : cC) : bH x = [avr x.rows, .sl (x.ask.path.map (.i .i64)) x.ask.path.length, .i .i64 x.ask.test.op, .i .i64 x.ask.test.term.kind, .i .i64 x.ask.test.term.n, .s x.ask.test.term.text, .s x.ask.test.term.sort, avt x.ask.test.term.kids, avt x.ask.test.term.rest, .s x.ask.test.text, .i .i64 x.ask.test.n, avx x.yes, avx x.no] := by
 cases x
 simp only [bH, rZ, cC.rows, cC.ask, cC.yes, cC.no, avx, aR, dE, dG]
theorem E1 (x : cC) : (bH x).length = 13 := by rw [dH]; rfl
theorem aJh (r : pY) : persL (bM r) = true := by simp [bM, persL, pers, B0]
theorem vX {l : List pY} : persL (l.flatMap bM) = true := iE fun x _ => aJh x
theorem bDs (x : cC) : persL (bH x) = true := by
 induction x using gX with
 | h x hy hn =>
   rw [dH]
   simp [persL, avt, avr, avx, pers, lL, fP, vX, iE hy, iE hn]
theorem aJg {l : List cC} : persL (l.flatMap bH) = true := iE fun x _ => bDs x
abbrev elX (x : cC) : AV := .agg (bH x)
section
variable {k : Nat} {l : List cC} {r : List pY}
theorem aBd (h : k < l.length) : ((l.flatMap bH).drop (k * 13)).take 13 = bH (l.getD k default) := by
 rw [oG E1]
 simp [h, List.getD]
theorem aHm (h : 0 < l.length) : (l.flatMap bH).take 13 = bH (l.getD 0 default) := by
 have := aBd h
 simpa using this
theorem E2 : (l.flatMap bH).length = l.length * 13 := mJ E1 l
theorem aXo (h : k < r.length) : ((r.flatMap bM).drop (k * 2)).take 2 = bM (r.getD k default) := by
 rw [oG F2]
 simp [h, List.getD]
theorem aPk (h : k < r.length) : (r.flatMap bM)[k * 2]? = some (.i .i64 (r.getD k default).index) := by
 have := aCq F2 r k (j := 0) (by omega)
 simpa [h, List.getD, bM] using this
theorem O1 : (r.flatMap bM).length = r.length * 2 := mJ F2 r
end
attribute [go_sem] aBd aHm E2 aXo aPk O1 aJh vX bDs aJg dH avr avx

structure OkR (r : pY) : Prop where
 index : IntOk r.index
 len : r.left.length ≤ 1000000000000
 asks : ∀ a ∈ r.left, OkX a.test ∧ PathOk a.path
inductive E0 : cC → Prop
 | mk {x : cC} : OkX x.ask.test → PathOk x.ask.path → x.rows.length ≤ 10000000000000 → (∀ r ∈ x.rows, OkR r) → x.yes.length ≤ 10000000000000 → x.no.length ≤ 10000000000000 → (∀ k ∈ x.yes, E0 k) → (∀ k ∈ x.no, E0 k) → E0 x
def kO : List pY → Int → Option Int
 | [], m => some m
 | r :: l, m => if m - (r.left.length : Int) < 0 ∨ uH r.left = false then none else kO l (m - (r.left.length : Int))
mutual
def spT : cC → Int → Int
 | .mk rows ask yes no, m => if uH [ask] = false then -1 else match kO rows (m - (1 + (rows.length : Int))) with
   | none => -1
   | some m2 => spL no (spL yes m2)
def spL : List cC → Int → Int
 | [], m => m
 | y :: l, m => if m < 0 then m else spL l (spT y m)
end
theorem aId (x : cC) (m : Int) : spT x m = if uH [x.ask] = false then -1 else match kO x.rows (m - (1 + (x.rows.length : Int))) with
   | none => -1
   | some m2 => spL x.no (spL x.yes m2) := by cases x; rw [spT]; rfl
theorem wS : ∀ {l : List pY} {m m2 : Int}, kO l m = some m2 → m2 ≤ m ∧ (l = [] ∨ 0 ≤ m2)
 | [], m, m2, h => by simp only [kO, aA] at h; exact ⟨by omega, .inl rfl⟩
 | r :: l, m, m2, h => by
   rw [kO] at h
   split at h
   · cases h
   · rename_i hc
     have := wS h
     have h1 : ¬ m - (r.left.length : Int) < 0 := fun e => hc (.inl e)
     refine ⟨by omega, .inr ?_⟩
     rcases this.2 with rfl | h2
     · simp only [kO, aA] at h; omega
     · exact h2
theorem aBi : ∀ {l : List cC} {m : Int}, (∀ y ∈ l, ∀ m : Int, 0 ≤ m → -1 ≤ spT y m ∧ spT y m ≤ m) → -1 ≤ m → -1 ≤ spL l m ∧ spL l m ≤ m
 | [], m, _, h => by rw [spL]; omega
 | y :: l, m, hy, h => by
   rw [spL]
   split
   · omega
   · have h1 := hy y (by simp) m (by omega)
     have h2 := aBi (l := l) (m := spT y m) (fun z hz => hy z (by simp [hz])) h1.1
     omega
theorem aBh : ∀ (x : cC) (m : Int), 0 ≤ m → -1 ≤ spT x m ∧ spT x m ≤ m :=
 gX (Q := fun x => ∀ m : Int, 0 ≤ m → -1 ≤ spT x m ∧ spT x m ≤ m) fun x hy hn m hm => by
   rw [aId]
   split
   · omega
   · split
     · omega
     · rename_i m2 h2
       have h3 := wS h2
       have h4 : -1 ≤ m2 := by
         rcases h3.2 with e | e
         · rw [e] at h2; simp only [kO, aA, bJ] at h2; omega
         · omega
       have h5 := aBi (l := x.yes) (m := m2) hy h4
       have h6 := aBi (l := x.no) (m := spL x.yes m2) hn h5.1
       omega
theorem aIe {l : List pY} {k : Nat} {m : Int} (h : k < l.length) : kO (l.drop k) m = if m - ((l.getD k default).left.length : Int) < 0 ∨ uH (l.getD k default).left = false then none else kO (l.drop (k + 1)) (m - ((l.getD k default).left.length : Int)) := by
 rw [bB h, kO]; simp [List.getD, h]
theorem aUg {l : List cC} {k : Nat} {m : Int} (h : k < l.length) : spL (l.drop k) m = if m < 0 then m else spL (l.drop (k + 1)) (spT (l.getD k default) m) := by
 rw [bB h, spL]; simp [List.getD, h]
theorem bBi {a : LAsk} (h1 : OkX a.test) (h2 : PathOk a.path) : aWh a ≤ 150000000000000 := by
 have := h1.text
 have := h2.1
 unfold aWh; omega
theorem yN : ∀ {l : List LAsk}, (∀ a ∈ l, OkX a.test ∧ PathOk a.path) → kH l ≤ l.length * 150000000000000
 | [], _ => by simp
 | a :: l, h => by
   have h1 := bBi (h a (by simp)).1 (h a (by simp)).2
   have h2 := yN (l := l) (fun x hx => h x (by simp [hx]))
   rw [kH, aK]; omega
theorem E5 {l : List cC} {m : Int} (h : m < 0) : spL l m = m := by
 cases l with
 | nil => rw [spL]
 | cons y l => rw [spL, if_pos h]
theorem aSd (x : cC) (m : Int) (hx : E0 x) (h0 : 0 ≤ m) (h6 : m ≤ 600) (ihy : ∀ y ∈ x.yes, ∀ m : Int, 0 ≤ m → m ≤ 600 → CT 62 [elX y, .i .i64 m] (.i .i64 (spT y m))) (ihn : ∀ y ∈ x.no, ∀ m : Int, 0 ≤ m → m ≤ 600 → CT 62 [elX y, .i .i64 m] (.i .i64 (spT y m))): CT 62 [elX x, .i .i64 m] (.i .i64 (spT x m)) := by
 refine aF mixed Tryz.func62 g0 ?_
 · skip
   obtain ⟨x1, x2, x3, x4, x5, x6⟩ : OkX x.ask.test ∧ PathOk x.ask.path ∧ x.rows.length ≤ 10000000000000 ∧ (∀ r ∈ x.rows, OkR r) ∧ x.yes.length ≤ 10000000000000 ∧ x.no.length ≤ 10000000000000 := by cases hx; exact ⟨by assumption, by assumption, by assumption, by assumption, by assumption, by assumption⟩
   have ha := yN (l := [x.ask]) (by simpa using ⟨x1, x2⟩)
   have c1 := aVm [x.ask] (by simp) (by simp only [aK, bJ] at ha; omega) (by simpa using x1)
   simp only [ava, cY, mO, List.append_nil, aK, bJ, dB, aR, avt] at c1
   have e := aId x m
   rcases fE (uH [x.ask]) with h1 | h1
   · rw [h1] at c1
     rw [if_neg (by rw [h1]; simp)] at e
     refine zh (zA2 @gP (zA2 @bV.{0} (zA2 @cK.{0} @List.append_nil.{0}))) ?_
     (refine zy1 (zA2 @gP (zA2 @bV.{0} (zA2 @cK.{0} @List.append_nil.{0}))) c1 ?_; repeat' first | exact trivial | refine zJ ?_ ?_ | refine zH fun hc => ?_)
     refine dV (fun (q : Nat × Int) => [.k, .v (.i .i64 q.2), .k, .k, .j, .k, .j, .k, .k, .k, .k, .k, .k, .k, .k, .k, .k, .k, .k, .k, .k, .k, .k, .k, .k, .v (.i .i64 (q.1 : Nat)), .j, .j, .j, .j, .j, .j, .j, .j, .j, .j, .j, .j, .j, .j, .j, .j, .j, .k, .k, .k, .k, .k, .k, .k, .k, .k, .k, .k, .k, .k, .k, .k, .k, .k, .k, .k, .k, .k, .k, .k, .k, .k]) (fun q => [.box false [.sl ((x).rows.flatMap bM) (x).rows.length, .sl ((x).ask.path.map (.i .i64)) (x).ask.path.length, .i .i64 (x).ask.test.op, .i .i64 (x).ask.test.term.kind, .i .i64 (x).ask.test.term.n, .s (x).ask.test.term.text, .s (x).ask.test.term.sort, .sl ((x).ask.test.term.kids.flatMap aD) (x).ask.test.term.kids.length, .sl ((x).ask.test.term.rest.flatMap aD) (x).ask.test.term.rest.length, .s (x).ask.test.text, .i .i64 (x).ask.test.n, .sl ((x).yes.flatMap bH) (x).yes.length, .sl ((x).no.flatMap bH) (x).no.length]]) (fun q => q.1 ≤ x.rows.length ∧ (q.1 = 0 → q.2 = m - (1 + (x.rows.length : Int))) ∧ (0 < q.1 → 0 ≤ q.2) ∧ q.2 ≤ 600 ∧ kO x.rows (m - (1 + (x.rows.length : Int))) = kO (x.rows.drop q.1) q.2) (fun q => x.rows.length - q.1) ((0, m - (1 + (x.rows.length : Int)))) _ ⟨aG _, fun _ => rfl, fun h => absurd h (by simp), by dsimp only; omega, rfl⟩ rfl (by simp [eQ]) ?_
     rintro ⟨k, m1⟩ g j ⟨hk, hq0, hq1, hq6, hsp⟩
     dsimp only at hk hq0 hq1 hq6 hsp
     by_cases hlt : k < x.rows.length
     · have hki : (k : Int) < ((x.rows.length : Nat) : Int) := by omega
       have hr := x4 _ (aV (d := default) hlt)
       have hrl := hr.len
       rw [aIe hlt] at hsp
       have hlo : -20000000000000 ≤ m1 := by
         rcases jY k with h | h
         · have := hq0 h; omega
         · have := hq1 h; omega
       by_cases hneg : m1 - ((x.rows.getD k default).left.length : Int) < 0
       · rw [if_pos (.inl hneg)] at hsp
         refine zh (zA2 (zt hki) (zA2 @bM.eq_1 (zt hneg))) ?_
         (refine zx0 (zA2 (zt hki) (zA2 @bM.eq_1 (zt hneg))) ?_; repeat' first | exact trivial | refine zJ ?_ ?_ | refine zH fun hc => ?_)
         all_goals exact aE (by rw [e, hsp]) rfl
       · have hl6 : (x.rows.getD k default).left.length ≤ 600 := by omega
         have hb := yN hr.asks
         have c2 := aVm (x.rows.getD k default).left hrl (by have := bQ 150000000000000 hl6; omega) (fun a ha => (hr.asks a ha).1)
         simp only [ava] at c2
         rcases fE (uH (x.rows.getD k default).left) with h2 | h2
         · rw [h2] at c2
           rw [if_neg (by rintro (h | h); exact hneg h; rw [h2] at h; cases h)] at hsp
           refine zh (zA2 (zt hki) (zA2 @bM.eq_1 (zf hneg))) ?_
           (refine zy1 (zA2 (zt hki) (zA2 @bM.eq_1 (zf hneg))) c2 ?_; repeat' first | exact trivial | refine zJ ?_ ?_ | refine zH fun hc => ?_)
           all_goals exact ⟨(k + 1, m1 - ((x.rows.getD k default).left.length : Int)), _, ⟨by dsimp only; omega, fun h => absurd h (by simp), fun _ => by dsimp only; omega, by dsimp only; omega, hsp⟩, by dsimp only; omega, rfl, by simp⟩
         · rw [h2] at c2
           rw [if_pos (.inr h2)] at hsp
           refine zh (zA2 (zt hki) (zA2 @bM.eq_1 (zf hneg))) ?_
           (refine zy1 (zA2 (zt hki) (zA2 @bM.eq_1 (zf hneg))) c2 ?_; repeat' first | exact trivial | refine zJ ?_ ?_ | refine zH fun hc => ?_)
           all_goals exact aE (by rw [e, hsp]) rfl
     · have hki : ¬ (k : Int) < ((x.rows.length : Nat) : Int) := by omega
       rw [aQ (by omega), kO] at hsp
       rw [hsp] at e
       dsimp only at e
       have hm1 : -1 ≤ m1 := by
         rcases jY k with h | h
         · have := hq0 h; omega
         · have := hq1 h; omega
       simp -implicitDefEqProofs (disch := omega) only [zf hki, List.replicate, bV, cK, List.append_nil, go_sem, ↓reduceIte, reduceAdd, reduceSub, reduceMul, reduceLeDiff, reduceLT, reduceEqDiff, reduceNeg, Nat.reduceBEq]
       (repeat' (first | refine gT ?_ ?_ | refine gF ?_ ?_ | refine gC ?_ ?_ | refine aZ (by omega) ?_ | (intro hr; have hc := hr; (try simp only [zdz] at hc); simp -implicitDefEqProofs (disch := omega) only [hr, zf hki, List.replicate, bV, cK, List.append_nil, go_sem, ↓reduceIte, reduceAdd, reduceSub, reduceMul, reduceLeDiff, reduceLT, reduceEqDiff, reduceNeg, Nat.reduceBEq]; (try clear hr))))
       refine dV (fun (q : Nat × Int) => [.k, .v (.i .i64 q.2), .k, .k, .j, .k, .k, .k, .j, .k, .j, .k, .k, .k, .k, .k, .k, .k, .k, .k, .k, .k, .k, .k, .k, .k, .k, .k, .k, .k, .k, .k, .k, .k, .k, .k, .k, .k, .k, .k, .k, .k, .k, .k, .k, .k, .k, .k, .k, .v (.i .i64 (q.1 : Nat)), .j, .j, .j, .j, .j, .j, .j, .j, .j, .j, .j, .j, .j, .j, .j, .j, .j, .k]) (fun q => (.box false [.sl ((x).rows.flatMap bM) (x).rows.length, .sl ((x).ask.path.map (.i .i64)) (x).ask.path.length, .i .i64 (x).ask.test.op, .i .i64 (x).ask.test.term.kind, .i .i64 (x).ask.test.term.n, .s (x).ask.test.term.text, .s (x).ask.test.term.sort, .sl ((x).ask.test.term.kids.flatMap aD) (x).ask.test.term.kids.length, .sl ((x).ask.test.term.rest.flatMap aD) (x).ask.test.term.rest.length, .s (x).ask.test.text, .i .i64 (x).ask.test.n, .sl ((x).yes.flatMap bH) (x).yes.length, .sl ((x).no.flatMap bH) (x).no.length] :: (g ++ [.arr false 1 [.sl (x.yes.flatMap bH) x.yes.length, .sl (x.no.flatMap bH) x.no.length]]))) (fun q => q.1 ≤ 2 ∧ (q.1 = 0 → q.2 = m1) ∧ (q.1 = 1 → q.2 = spL x.yes m1) ∧ (q.1 = 2 → q.2 = spL x.no (spL x.yes m1)) ∧ -1 ≤ q.2 ∧ q.2 ≤ 600) (fun q => 2 - q.1) ((0, m1)) [] ⟨by simp, fun _ => rfl, fun h => absurd h (by simp), fun h => absurd h (by simp), hm1, hq6⟩ (by simp [avs, avb, avi, avo, bA, aO]) (by simp [eQ]) ?_
       rintro ⟨k2, m2⟩ g2 j2 ⟨hk2, hs0, hs1, hs2, hlo, hhi⟩
       dsimp only at hk2 hs0 hs1 hs2 hlo hhi
       have hgl : g.length + 1 < (g ++ [AObj.dead]).length + 1 := by simp
       rcases (by omega : k2 = 0 ∨ k2 = 1 ∨ k2 = 2) with rfl | rfl | rfl
       · obtain rfl := hs0 rfl
         have z0 : ((0 : Int) < ((2 : Nat) : Int)) = True := eq_true (by decide)
         have hf : ∀ {n : Int}, spL x.yes m2 = n → n < 0 → spT x m = n := fun h h2 => by rw [e, h, E5 h2]
         refine zh (zA2 z0 @decide_true) ?_
         (refine zx0 (zA2 z0 @decide_true) ?_; repeat' first | exact trivial | refine zJ ?_ ?_ | refine zH fun hc => ?_)
         refine dV (fun (p : Nat × Int) => [.k, .v (.i .i64 p.2), .k, .k, .j, .k, .k, .k, .k, .k, .j, .k, .k, .k, .k, .k, .k, .k, .k, .k, .k, .k, .k, .k, .k, .k, .k, .k, .k, .k, .k, .k, .k, .k, .k, .k, .k, .k, .k, .k, .k, .k, .k, .k, .k, .k, .k, .k, .k, .k, .k, .k, .k, .k, .k, .v (.i .i64 (p.1 : Nat)), .j, .j, .j, .j, .j, .j, .j, .j, .j, .j, .k, .k]) (fun p => ((.box false [.sl ((x).rows.flatMap bM) (x).rows.length, .sl ((x).ask.path.map (.i .i64)) (x).ask.path.length, .i .i64 (x).ask.test.op, .i .i64 (x).ask.test.term.kind, .i .i64 (x).ask.test.term.n, .s (x).ask.test.term.text, .s (x).ask.test.term.sort, .sl ((x).ask.test.term.kids.flatMap aD) (x).ask.test.term.kids.length, .sl ((x).ask.test.term.rest.flatMap aD) (x).ask.test.term.rest.length, .s (x).ask.test.text, .i .i64 (x).ask.test.n, .sl ((x).yes.flatMap bH) (x).yes.length, .sl ((x).no.flatMap bH) (x).no.length] :: (g ++ [.arr false 1 [.sl (x.yes.flatMap bH) x.yes.length, .sl (x.no.flatMap bH) x.no.length]])) ++ g2)) (fun p => p.1 ≤ x.yes.length ∧ -1 ≤ p.2 ∧ p.2 ≤ 600 ∧ spL x.yes m2 = spL (x.yes.drop p.1) p.2) (fun p => x.yes.length - p.1) ((0, m2)) [] ⟨aG _, hlo, hhi, rfl⟩ (by simp [avs, avb, avi, avo, bA, aO]) (by simp [eQ]) ?_
         rintro ⟨k3, m3⟩ g3 j3 ⟨hk3, hlo3, hhi3, hsl⟩
         dsimp only at hk3 hlo3 hhi3 hsl
         by_cases hlt3 : k3 < x.yes.length
         · have hki3 : (k3 : Int) < ((x.yes.length : Nat) : Int) := by omega
           rw [aUg hlt3] at hsl
           by_cases hneg : m3 < 0
           · rw [if_pos hneg] at hsl
             refine zh (zA2 (zt hki3) (zt hneg)) ?_
             (refine zx0 (zA2 (zt hki3) (zt hneg)) ?_; repeat' first | exact trivial | refine zJ ?_ ?_ | refine zH fun hc => ?_)
             exact aE (by rw [hf hsl hneg]) rfl
           · rw [if_neg hneg] at hsl
             have hm := aV (d := default) hlt3
             have ci := ihy _ hm m3 (by omega) hhi3
             have hb := aBh (x.yes.getD k3 default) m3 (by omega)
             simp only [elX, dH, avr, avt, avx] at ci
             refine zh (zA2 (zt hki3) (zf hneg)) ?_
             (refine zy1 (zA2 (zt hki3) (zf hneg)) ci ?_; repeat' first | exact trivial | refine zJ ?_ ?_ | refine zH fun hc => ?_)
             exact ⟨(k3 + 1, spT (x.yes.getD k3 default) m3), _, ⟨by dsimp only; omega, hb.1, by dsimp only; omega, hsl⟩, by dsimp only; omega, rfl, by simp⟩
         · have hki3 : ¬ (k3 : Int) < ((x.yes.length : Nat) : Int) := by omega
           rw [aQ (by omega), spL] at hsl
           refine zh (zf hki3) ?_
           (refine zx0 (zf hki3) ?_; repeat' first | exact trivial | refine zJ ?_ ?_ | refine zH fun hc => ?_)
           exact ⟨(1, m3), g2 ++ g3, ⟨by simp, fun h => absurd h (by simp), fun _ => hsl.symm, fun h => absurd h (by simp), hlo3, hhi3⟩, by dsimp only; omega, by simp, by simp⟩
       · have hm2 := hs1 rfl
         have z1 : (((1 : Nat) : Int) < ((2 : Nat) : Int)) = True := eq_true (by decide)
         have hf : ∀ {n : Int}, spL x.no m2 = n → n < 0 → spT x m = n := fun h h2 => by rw [e, ← hm2, h]
         refine zh (zA2 z1 @decide_true) ?_
         (refine zx0 (zA2 z1 @decide_true) ?_; repeat' first | exact trivial | refine zJ ?_ ?_ | refine zH fun hc => ?_)
         refine dV (fun (p : Nat × Int) => [.k, .v (.i .i64 p.2), .k, .k, .j, .k, .k, .k, .k, .k, .j, .k, .k, .k, .k, .k, .k, .k, .k, .k, .k, .k, .k, .k, .k, .k, .k, .k, .k, .k, .k, .k, .k, .k, .k, .k, .k, .k, .k, .k, .k, .k, .k, .k, .k, .k, .k, .k, .k, .k, .k, .k, .k, .k, .k, .v (.i .i64 (p.1 : Nat)), .j, .j, .j, .j, .j, .j, .j, .j, .j, .j, .k, .k]) (fun p => ((.box false [.sl ((x).rows.flatMap bM) (x).rows.length, .sl ((x).ask.path.map (.i .i64)) (x).ask.path.length, .i .i64 (x).ask.test.op, .i .i64 (x).ask.test.term.kind, .i .i64 (x).ask.test.term.n, .s (x).ask.test.term.text, .s (x).ask.test.term.sort, .sl ((x).ask.test.term.kids.flatMap aD) (x).ask.test.term.kids.length, .sl ((x).ask.test.term.rest.flatMap aD) (x).ask.test.term.rest.length, .s (x).ask.test.text, .i .i64 (x).ask.test.n, .sl ((x).yes.flatMap bH) (x).yes.length, .sl ((x).no.flatMap bH) (x).no.length] :: (g ++ [.arr false 1 [.sl (x.yes.flatMap bH) x.yes.length, .sl (x.no.flatMap bH) x.no.length]])) ++ g2)) (fun p => p.1 ≤ x.no.length ∧ -1 ≤ p.2 ∧ p.2 ≤ 600 ∧ spL x.no m2 = spL (x.no.drop p.1) p.2) (fun p => x.no.length - p.1) ((0, m2)) [] ⟨aG _, hlo, hhi, rfl⟩ (by simp [avs, avb, avi, avo, bA, aO]) (by simp [eQ]) ?_
         rintro ⟨k3, m3⟩ g3 j3 ⟨hk3, hlo3, hhi3, hsl⟩
         dsimp only at hk3 hlo3 hhi3 hsl
         by_cases hlt3 : k3 < x.no.length
         · have hki3 : (k3 : Int) < ((x.no.length : Nat) : Int) := by omega
           rw [aUg hlt3] at hsl
           by_cases hneg : m3 < 0
           · rw [if_pos hneg] at hsl
             refine zh (zA2 (zt hki3) (zt hneg)) ?_
             (refine zx0 (zA2 (zt hki3) (zt hneg)) ?_; repeat' first | exact trivial | refine zJ ?_ ?_ | refine zH fun hc => ?_)
             exact aE (by rw [hf hsl hneg]) rfl
           · rw [if_neg hneg] at hsl
             have hm := aV (d := default) hlt3
             have ci := ihn _ hm m3 (by omega) hhi3
             have hb := aBh (x.no.getD k3 default) m3 (by omega)
             simp only [elX, dH, avr, avt, avx] at ci
             refine zh (zA2 (zt hki3) (zf hneg)) ?_
             (refine zy1 (zA2 (zt hki3) (zf hneg)) ci ?_; repeat' first | exact trivial | refine zJ ?_ ?_ | refine zH fun hc => ?_)
             exact ⟨(k3 + 1, spT (x.no.getD k3 default) m3), _, ⟨by dsimp only; omega, hb.1, by dsimp only; omega, hsl⟩, by dsimp only; omega, rfl, by simp⟩
         · have hki3 : ¬ (k3 : Int) < ((x.no.length : Nat) : Int) := by omega
           rw [aQ (by omega), spL] at hsl
           refine zh (zf hki3) ?_
           (refine zx0 (zf hki3) ?_; repeat' first | exact trivial | refine zJ ?_ ?_ | refine zH fun hc => ?_)
           exact ⟨(2, m3), g2 ++ g3, ⟨by simp, fun h => absurd h (by simp), fun h => absurd h (by simp), fun _ => by dsimp only; rw [← hm2]; exact hsl.symm, hlo3, hhi3⟩, by dsimp only; omega, by simp, by simp⟩
       · have hm2 := hs2 rfl
         have z2 : (((2 : Nat) : Int) < ((2 : Nat) : Int)) = False := eq_false (by decide)
         refine zh (zA2 z2 @decide_false) ?_
         exact aE (by rw [e, hm2]) rfl
   · rw [h1] at c1
     rw [if_pos h1] at e
     refine zh (zA2 @gP (zA2 @bV.{0} (zA2 @cK.{0} @List.append_nil.{0}))) ?_
     (refine zy1 (zA2 @gP (zA2 @bV.{0} (zA2 @cK.{0} @List.append_nil.{0}))) c1 ?_; repeat' first | exact trivial | refine zJ ?_ ?_ | refine zH fun hc => ?_)
     all_goals exact aE (by rw [e]) rfl
theorem bGn : ∀ (x : cC), E0 x → ∀ m : Int, 0 ≤ m → m ≤ 600 → CT 62 [elX x, .i .i64 m] (.i .i64 (spT x m)) :=
 gX (Q := fun x => E0 x → ∀ m : Int, 0 ≤ m → m ≤ 600 → CT 62 [elX x, .i .i64 m] (.i .i64 (spT x m))) fun x hy hn hx m h0 h6 => by
   have hh : (∀ k ∈ x.yes, E0 k) ∧ (∀ k ∈ x.no, E0 k) := by cases hx; exact ⟨by assumption, by assumption⟩
   exact aSd x m hx h0 h6 (fun y hm => hy y hm (hh.1 y hm)) (fun y hm => hn y hm (hh.2 y hm))
def bCs (x : cC) : Bool := decide (0 ≤ spT x 600)
theorem bGt (x : cC) (hx : E0 x): CT 21 [elX x] (.b (bCs x)) := by
 refine aF mixed Tryz.func21 g0 ?_
 · skip
   have c := bGn x hx 600 (by decide) (by decide)
   simp only [elX, dH, avr, avt, avx] at c
   (refine zt1 c ?_; repeat' first | exact trivial | refine zJ ?_ ?_ | refine zH fun hc => ?_)
   all_goals exact aE rfl rfl
end Go.Proofs.YtifefbhllfdmlaaGreatDoor

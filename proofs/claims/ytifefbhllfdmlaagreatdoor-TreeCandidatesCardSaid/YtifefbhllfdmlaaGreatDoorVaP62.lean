/-
  What functions of the chapter return, as plain functions of what they are given; no condition beyond those that each theorem names.
-/
import Derived.Test.YtifefbhllfdmlaaGreatDoorVaP61
import Derived.Test.YtifefbhllfdmlaaGreatDoorVoP67
import Derived.Test.YtifefbhllfdmlaaGreatDoorSoP62
set_option maxRecDepth 100000
set_option linter.unusedSimpArgs false
set_option linter.unusedVariables false
set_option maxHeartbeats 4000000
namespace Go.Proofs.YtifefbhllfdmlaaGreatDoor
open Go Go.Vo
open Nat (reduceAdd reduceSub reduceMul reduceLeDiff reduceLT reduceEqDiff)
open Int (reduceNeg)

def kF (n : Nat) (h h' : List AObj) : Prop := ∀ (i : Nat) (z : List AV), n ≤ i → h[i]? = some (.box false z) → h'[i]? = some (.box false z)
theorem kF.refl (n : Nat) (h : List AObj) : kF n h h := fun _ _ _ x => x
theorem kF.trans {n : Nat} {a b c : List AObj} (x : kF n a b) (y : kF n b c) : kF n a c := fun i z hi h => y i z hi (x i z hi h)
theorem kF.app (n : Nat) (h m : List AObj) : kF n h (h ++ m) := fun i z _ x => by rw [aD (aO x)]; exact x
abbrev WalkC {α : Type} (n : Nat) (R : α → List AObj → Prop) (h : List AObj) (b : α) : AV → List AObj → Prop := fun r h' => r = .tup [] ∧ R b h' ∧ kF n h h'
structure bCe {α : Type} (F : FuncId) (capt : List AV) (n : Nat) (R : α → List AObj → Prop) (φ : LTerm × Int → α → α) (P : α → List (LTerm × Int) → Prop) : Prop where
 app : ∀ a h z, R a h → R a (h ++ z)
 len : ∀ a h, R a h → n ≤ h.length
 ok : ∀ a v l h, P a (v :: l) → OkT v.1 → R a h → (0 ≤ v.2 ∧ v.2 ≤ 1000 ∧ v.1.kids.length + v.1.rest.length ≤ 1000000) ∧ P (φ v a) l ∧ ACalls Tryz.prog G0 F (elT v.1 :: .i .i64 v.2 :: capt) h (WalkC n R h (φ v a))
theorem bCe.all {α : Type} {F : FuncId} {capt : List AV} {n : Nat} {R : α → List AObj → Prop} {φ : LTerm × Int → α → α} {P : α → List (LTerm × Int) → Prop} (V : bCe F capt n R φ P) (a0 : α) (h0 : List AObj) (hh : ∀ a, ∃ h, R a h) {m : List (LTerm × Int)} : ∀ {l : List (LTerm × Int)} {a : α}, P a (l ++ m) → (∀ v ∈ l, OkT v.1) → P (vG φ a l) m
 | [], a, h, _ => h
 | v :: l, a, h, ho => by
   obtain ⟨h1, r1⟩ := hh a
   exact V.all a0 h0 hh (l := l) (V.ok a v _ h1 h (ho v (by simp)) r1).2.1 (fun x hx => ho x (by simp [hx]))
theorem bCu {α : Type} {F : FuncId} {capt : List AV} {n : Nat} {R : α → List AObj → Prop} {φ : LTerm × Int → α → α} {P : α → List (LTerm × Int) → Prop} (V : bCe F capt n R φ P) (hh : ∀ a, ∃ h, R a h) (t : LTerm) (d : Int) (a : α) (m : List (LTerm × Int)) (h : List AObj) (ht : OkT t) (hR : R a h) (hP : P a (vis t d ++ m)) (ih : ∀ k ∈ t.kids ++ t.rest, ∀ (d : Int) (a : α) (m : List (LTerm × Int)) (h : List AObj), R a h → P a (vis k d ++ m) → ACalls Tryz.prog G0 128 [elT k, .i .i64 d, .fn F [] capt] h (WalkC n R h (vG φ a (vis k d)))): ACalls Tryz.prog G0 128 [elT t, .i .i64 d, .fn F [] capt] h (WalkC n R h (vG φ a (vis t d))) := by
 refine dH (rx := false) (th := fun _ => none) mixed Tryz.func128 ?_
 · simp -implicitDefEqProofs (disch := omega) only [Tryz.f128, go_sem, List.replicate, simprocAttr]
   rw [lM, dF] at hP
   obtain ⟨⟨hd0, hd, hlen⟩, hP2, cv⟩ := V.ok a (t, d) _ (h ++ [.box false [.i .i64 (t).kind, .i .i64 (t).n, .s (t).text, .s (t).sort, .sl ((t).kids.flatMap aC) (t).kids.length, .sl ((t).rest.flatMap aC) (t).rest.length]]) hP ht (V.app _ _ _ hR)
   have hn := V.len _ _ hR
   dsimp only at hd0 hd hlen hP2 cv
   have hr : vG φ a (vis t d) = vG φ (φ (t, d) a) (visL (t.kids ++ t.rest) (d + 1)) := by rw [lM]; rfl
   rw [hr]
   have hoL : ∀ x ∈ t.kids ++ t.rest, OkT x := fun x hx => by
     rcases bJ.1 hx with hx | hx
     · exact ht.kid x hx
     · exact ht.rst x hx
   have c : CT 189 [.sl [avt t.kids, avt t.rest] 2] (avt (t.kids ++ t.rest)) := by
     have := bHj [t.kids, t.rest] (by simp) (by simp [K9]; omega)
     simpa using this
   have hLl : (t.kids ++ t.rest).length ≤ 1000000 := by rw [aH]; exact hlen
   simp only [elT, bA, avt] at cv
   generalize t.kids ++ t.rest = L at *
   generalize φ (t, d) a = a1 at *
   (refine zs0 ?_; repeat' first | exact trivial | refine zJ ?_ ?_ | refine zH fun hc => ?_)
   refine eO cv ?_
   rintro r h1 ⟨rfl, hR1, hs1⟩
   have hb : h1[h.length]? = some (.box false [.i .i64 (t).kind, .i .i64 (t).n, .s (t).text, .s (t).sort, .sl ((t).kids.flatMap aC) (t).kids.length, .sl ((t).rest.flatMap aC) (t).rest.length]) := hs1 _ _ hn (by simp)
   have hsg : kF n h h1 := (kF.app n h _).trans hs1
   refine zh hb ?_
   (refine zy1 hb c ?_; repeat' first | exact trivial | refine zJ ?_ ?_ | refine zH fun hc => ?_)
   have hite : ∀ (c : Bool) (k : Nat) (x : List AV), ∃ z, (if c = true then h1 ++ [AObj.arr false k x] else h1 ++ [AObj.arr true k x]) = h1 ++ [z] := fun c k x => by cases c <;> exact ⟨_, rfl⟩
   obtain ⟨z, hz⟩ := hite ((List.flatMap aC L).isEmpty && L.length == 0) 1 [.sl (t.kids.flatMap aC) t.kids.length, .sl (t.rest.flatMap aC) t.rest.length]
   rw [hz]
   refine bP (fun (s : Nat × α × List AObj) => [.k, .k, .k, .k, .k, .k, .k, .j, .k, .k, .k, .k, .k, .k, .k, .k, .k, .k, .k, .v (.i .i64 (s.1 : Nat)), .j, .j, .j, .j, .j, .j, .j, .j, .j]) (fun s => s.2.2) (fun s => s.1 ≤ L.length ∧ P s.2.1 (visL (L.drop s.1) (d + 1) ++ m) ∧ vG φ a1 (visL L (d + 1)) = vG φ s.2.1 (visL (L.drop s.1) (d + 1)) ∧ R s.2.1 s.2.2 ∧ kF n h s.2.2) (fun s => L.length - s.1) ((0, a1, h1 ++ [z])) ⟨aG _, hP2, rfl, V.app _ _ _ hR1, hsg.trans (.app _ _ _)⟩ rfl (by simp [eN]) ?_
   rintro ⟨k, a2, h2⟩ j ⟨hk, hPk, he, hR2, hs2⟩
   dsimp only at hk hPk he hR2 hs2
   by_cases hlt : k < L.length
   · have hki : (k : Int) < ((L.length : Nat) : Int) := by omega
     rw [uF hlt, bT] at hPk
     rw [uF hlt, W3] at he
     have hmm := bB (d := default) hlt
     have ci := ih _ hmm (d + 1) a2 _ (h2 ++ [.box false [.i .i64 (L.getD k default).kind, .i .i64 (L.getD k default).n, .s (L.getD k default).text, .s (L.getD k default).sort, .sl ((L.getD k default).kids.flatMap aC) (L.getD k default).kids.length, .sl ((L.getD k default).rest.flatMap aC) (L.getD k default).rest.length]]) (V.app _ _ _ hR2) hPk
     simp only [elT, bA, avt] at ci
     refine zh (zt hki) ?_
     (refine zx0 (zt hki) ?_; repeat' first | exact trivial | refine zJ ?_ ?_ | refine zH fun hc => ?_)
     refine eO ci ?_
     rintro r h3 ⟨rfl, hR3, hs3⟩
     refine zg ?_
     refine ⟨(k + 1, vG φ a2 (vis (L.getD k default) (d + 1)), h3), ⟨by dsimp only; omega, ?_, he, hR3, hs2.trans ((kF.app _ _ _).trans hs3)⟩, by dsimp only; omega, rfl, by simp⟩
     exact V.all a h hh hPk (aUf _ (hoL _ hmm) _)
   · have hki : ¬ (k : Int) < ((L.length : Nat) : Int) := by omega
     refine zh (zf hki) ?_
     (refine zx0 (zf hki) ?_; repeat' first | exact trivial | refine zJ ?_ ?_ | refine zH fun hc => ?_)
     rw [bF (by omega)] at he
     rw [he]
     exact ⟨rfl, hR2, hs2⟩
theorem aXd {α : Type} {F : FuncId} {capt : List AV} {n : Nat} {R : α → List AObj → Prop} {φ : LTerm × Int → α → α} {P : α → List (LTerm × Int) → Prop} (V : bCe F capt n R φ P) (hh : ∀ a, ∃ h, R a h) : ∀ (t : LTerm), OkT t → ∀ (d : Int) (a : α) (m : List (LTerm × Int)) (h : List AObj), R a h → P a (vis t d ++ m) → ACalls Tryz.prog G0 128 [elT t, .i .i64 d, .fn F [] capt] h (WalkC n R h (vG φ a (vis t d))) :=
 dD fun t hk hr ht d a m h hR hP => bCu V hh t d a m h ht hR hP fun k hm => by
   rcases bJ.1 hm with hm | hm
   · exact hk k hm (ht.kid k hm)
   · exact hr k hm (ht.rst k hm)

def bKs {α : Type} (_ : α) (l : List (LTerm × Int)) : Prop := ∀ v ∈ l, 0 ≤ v.2 ∧ v.2 ≤ 1000 ∧ v.1.kids.length + v.1.rest.length ≤ 1000000
theorem aHl {α : Type} {a : α} {t : LTerm} (h : eS cB t = true) : bKs a (vis t 1 ++ []) := fun v hv => (W4 h).2 v hv
theorem bMb (s : cC) (t : LTerm) (d : Int) (b : Bool) (x : AObj) (g : List AObj) (ht : OkT t): ACalls Tryz.prog G0 187 [elT t, .i .i64 d, .ptr 0 0, .ptr 2 0] (.box false [cN s] :: x :: .box false [.b b] :: g) (fun r h' => r = .tup [] ∧ ∃ z, h' = .box false [cN s] :: x :: .box false [.b (aFz s (t, d) b)] :: (g ++ z)) := by
 refine dH (rx := false) (th := fun _ => none) mixed Tryz.func187 ?_
 · simp -implicitDefEqProofs (disch := omega) only [Tryz.f187, go_sem, List.replicate, simprocAttr]
   by_cases h5 : t.kind = 5
   · have e : aFz s (t, d) b = (b || (called s t.text).2.1) := by simp [aFz, h5]
     rw [e]
     refine zh (zt h5) ?_
     (refine zy1 (zt h5) (aLx s t.text) ?_; repeat' first | exact trivial | refine zJ ?_ ?_ | refine zH fun hc => ?_)
     all_goals
       subst_vars
       exact ⟨_, rfl⟩
   · have e : aFz s (t, d) b = b := by simp [aFz, h5]
     rw [e]
     refine zh (zf h5) ?_
     (refine zx0 (zf h5) ?_; repeat' first | exact trivial | refine zJ ?_ ?_ | refine zH fun hc => ?_)
     all_goals exact ⟨_, rfl⟩
theorem Q6 {a b c c' : AObj} {g z : List AObj} : kF 3 (a :: b :: c :: g) (a :: b :: c' :: (g ++ z)) := fun i y hi h => by
 match i, hi with
 | i + 3, _ =>
   simp only [cX] at h ⊢
   rw [aD (aO h)]; exact h
def HfR (s : cC) (x : AObj) (b : Bool) (h : List AObj) : Prop := ∃ g, h = .box false [cN s] :: x :: .box false [.b b] :: g
theorem bLb (s : cC) (x : AObj) : bCe 187 [.ptr 0 0, .ptr 2 0] 3 (HfR s x) (aFz s) bKs := by
 refine ⟨?_, ?_, ?_⟩
 · rintro b h z ⟨g, rfl⟩; exact ⟨g ++ z, rfl⟩
 · rintro b h ⟨g, rfl⟩; simp
 · rintro b ⟨t, d⟩ l h hP ho ⟨g, rfl⟩
   refine ⟨hP _ (by simp), fun v hv => hP v (by simp [hv]), ?_⟩
   refine (bMb s t d b x g ho).mono ?_
   rintro r h' ⟨rfl, z, rfl⟩
   exact ⟨rfl, ⟨g ++ z, rfl⟩, Q6⟩
theorem bFt (s : cC) (t : LTerm) (ht : OkT t) (hv : eS cB t = true): CT 126 [cN s, elT t] (.b (vG (aFz s) false (vis t 1))) := by
 refine aF mixed Tryz.func126 g0 ?_
 · skip
   have cw := aXd (bLb s (.box false [.i .i64 (t).kind, .i .i64 (t).n, .s (t).text, .s (t).sort, .sl ((t).kids.flatMap aC) (t).kids.length, .sl ((t).rest.flatMap aC) (t).rest.length])) (fun a => ⟨_, [], rfl⟩) t ht 1 false [] _ ⟨[], rfl⟩ (aHl (a := false) hv)
   simp only [elT, bA, avt] at cw
   (refine zs0 ?_; repeat' first | exact trivial | refine zJ ?_ ?_ | refine zH fun hc => ?_)
   refine eO cw ?_
   rintro r h' ⟨rfl, ⟨g, rfl⟩, _⟩
   refine zg ?_
   exact aE rfl rfl
theorem S6 {l : List LTerm} {k : Nat} : kC l (k + 1) = (kC l k && aVa (l.getD (2 * k) default)) := by
 unfold kC A8
 rw [List.range_succ, pA]; simp
theorem bRd (t : LTerm) (d : Int) (b : Bool) (x y : AObj) (g : List AObj) (ht : OkT t) (hl : t.kids.length ≤ 1000000): ACalls Tryz.prog G0 129 [elT t, .i .i64 d, .ptr 2 0] (x :: y :: .box false [.b b] :: g) (fun r h' => r = .tup [] ∧ ∃ z, h' = x :: y :: .box false [.b (aQc (t, d) b)] :: (g ++ z)) := by
 refine dH (rx := false) (th := fun _ => none) mixed Tryz.func129 ?_
 · simp -implicitDefEqProofs (disch := omega) only [Tryz.f129, go_sem, List.replicate, simprocAttr]
   obtain ⟨q, hq⟩ : ∃ q, (b && !(decide (t.kind = 6) && decide (t.text = [36]))) = q := ⟨_, rfl⟩
   have e : aQc (t, d) b = (q && (!decide (t.kind = 8) || kC t.kids ((t.kids.length + 1) / 2))) := by
     rw [aQc, G4, ← hq, jZ]
   rw [e]
   by_cases h8 : t.kind = 8
   · have h6 : ¬ t.kind = 6 := by omega
     have hb : b = q := by rw [← hq]; simp [h6]
     subst hb
     rw [zt h8, Bool.not_true, cI]
     cases b
     · refine zh (zA2 (zt h8) (zf h6)) ?_
       refine bP (fun (s : Nat × List AObj) => [.k, .k, .k, .k, .k, .v (.i .i64 ((2 * s.1 : Nat) : Int)), .j, .k, .k, .k, .k, .k, .k, .k, .k, .k, .k, .k, .k, .k, .k, .k, .j, .j, .j, .j, .j, .j, .j, .j, .j, .j, .j, .j, .j, .j, .j, .j, .j, .j, .j, .j, .j, .j, .j, .j, .j, .j, .j]) (fun s => (x :: y :: .box false [.b (false && kC t.kids s.1)] :: (g ++ (.box false [.i .i64 (t).kind, .i .i64 (t).n, .s (t).text, .s (t).sort, .sl ((t).kids.flatMap aC) (t).kids.length, .sl ((t).rest.flatMap aC) (t).rest.length] :: s.2)))) (fun s => s.1 ≤ (t.kids.length + 1) / 2) (fun s => (t.kids.length + 1) / 2 - s.1) ((0, [])) (aG _) rfl (by simp [eN]) ?_
       rintro ⟨k, z⟩ j hk
       dsimp only at hk
       have q0 := S6 (l := t.kids) (k := k)
       obtain ⟨v, hv⟩ : ∃ v, (false && kC t.kids k) = v := ⟨_, rfl⟩
       by_cases hlt : 2 * k < t.kids.length
       · have hki : (((2 * k : Nat) : Int) < ((t.kids.length : Nat) : Int)) := by omega
         have hkey : (false && kC t.kids (k + 1)) = (v && aVa (t.kids.getD (2 * k) default)) := by rw [q0, ← jZ, hv]
         have hnx : (((2 * k : Nat) : Int) + 2) = ((2 * (k + 1) : Nat) : Int) := by omega
         refine zh (zA2 (zt hki) hv) ?_
         (refine zy1 (zA2 (zt hki) (zA2 hv hnx)) (aLy (t.kids.getD (2 * k) default)) ?_; repeat' first | exact trivial | refine zJ ?_ ?_ | refine zH fun hc => ?_)
         all_goals
           refine ⟨(k + 1, z ++ [.box false [.i .i64 (t.kids.getD (2 * k) default).kind, .i .i64 (t.kids.getD (2 * k) default).n, .s (t.kids.getD (2 * k) default).text, .s (t.kids.getD (2 * k) default).sort, .sl ((t.kids.getD (2 * k) default).kids.flatMap aC) (t.kids.getD (2 * k) default).kids.length, .sl ((t.kids.getD (2 * k) default).rest.flatMap aC) (t.kids.getD (2 * k) default).rest.length]]), by dsimp only; omega, by dsimp only; omega, ?_, by simp⟩
           try dsimp only
           try simp_all [aVa]
       · have hki : ¬ (((2 * k : Nat) : Int) < ((t.kids.length : Nat) : Int)) := by omega
         have hke : k = (t.kids.length + 1) / 2 := by omega
         subst hke
         refine zh (zf hki) ?_
         (refine zx0 (zf hki) ?_; repeat' first | exact trivial | refine zJ ?_ ?_ | refine zH fun hc => ?_)
         all_goals exact ⟨_, rfl⟩
     · refine zh (zA2 (zt h8) (zf h6)) ?_
       refine bP (fun (s : Nat × List AObj) => [.k, .k, .k, .k, .k, .v (.i .i64 ((2 * s.1 : Nat) : Int)), .j, .k, .k, .k, .k, .k, .k, .k, .k, .k, .k, .k, .k, .k, .k, .k, .j, .j, .j, .j, .j, .j, .j, .j, .j, .j, .j, .j, .j, .j, .j, .j, .j, .j, .j, .j, .j, .j, .j, .j, .j, .j, .j]) (fun s => (x :: y :: .box false [.b (true && kC t.kids s.1)] :: (g ++ (.box false [.i .i64 (t).kind, .i .i64 (t).n, .s (t).text, .s (t).sort, .sl ((t).kids.flatMap aC) (t).kids.length, .sl ((t).rest.flatMap aC) (t).rest.length] :: s.2)))) (fun s => s.1 ≤ (t.kids.length + 1) / 2) (fun s => (t.kids.length + 1) / 2 - s.1) ((0, [])) (aG _) rfl (by simp [eN]) ?_
       rintro ⟨k, z⟩ j hk
       dsimp only at hk
       have q0 := S6 (l := t.kids) (k := k)
       obtain ⟨v, hv⟩ : ∃ v, (true && kC t.kids k) = v := ⟨_, rfl⟩
       by_cases hlt : 2 * k < t.kids.length
       · have hki : (((2 * k : Nat) : Int) < ((t.kids.length : Nat) : Int)) := by omega
         have hkey : (true && kC t.kids (k + 1)) = (v && aVa (t.kids.getD (2 * k) default)) := by rw [q0, ← jZ, hv]
         have hnx : (((2 * k : Nat) : Int) + 2) = ((2 * (k + 1) : Nat) : Int) := by omega
         refine zh (zA2 (zt hki) hv) ?_
         (refine zy1 (zA2 (zt hki) (zA2 hv hnx)) (aLy (t.kids.getD (2 * k) default)) ?_; repeat' first | exact trivial | refine zJ ?_ ?_ | refine zH fun hc => ?_)
         all_goals
           refine ⟨(k + 1, z ++ [.box false [.i .i64 (t.kids.getD (2 * k) default).kind, .i .i64 (t.kids.getD (2 * k) default).n, .s (t.kids.getD (2 * k) default).text, .s (t.kids.getD (2 * k) default).sort, .sl ((t.kids.getD (2 * k) default).kids.flatMap aC) (t.kids.getD (2 * k) default).kids.length, .sl ((t.kids.getD (2 * k) default).rest.flatMap aC) (t.kids.getD (2 * k) default).rest.length]]), by dsimp only; omega, by dsimp only; omega, ?_, by simp⟩
           try dsimp only
           try simp_all [aVa]
       · have hki : ¬ (((2 * k : Nat) : Int) < ((t.kids.length : Nat) : Int)) := by omega
         have hke : k = (t.kids.length + 1) / 2 := by omega
         subst hke
         refine zh (zf hki) ?_
         (refine zx0 (zf hki) ?_; repeat' first | exact trivial | refine zJ ?_ ?_ | refine zH fun hc => ?_)
         all_goals exact ⟨_, rfl⟩
   · rw [zf h8, Bool.not_false, cQ, Bool.and_true]
     (refine zx0 (zf h8) ?_; repeat' first | exact trivial | refine zJ ?_ ?_ | refine zH fun hc => ?_)
     all_goals
       refine ⟨[.box false [.i .i64 (t).kind, .i .i64 (t).n, .s (t).text, .s (t).sort, .sl ((t).kids.flatMap aC) (t).kids.length, .sl ((t).rest.flatMap aC) (t).rest.length]], ?_⟩
       rw [← hq]
       simp_all

theorem aGf {m : List (Str × Str)} {x : Str} (h : findS m x = none) : ((m.map (·.1)).findIdx? fun y => decide (x = y)) = none := by
 rw [eC]
 intro y hy
 obtain ⟨p, hp, rfl⟩ := dI.1 hy
 unfold findS at h
 rw [Option.map_eq_none_iff, List.find?_eq_none] at h
 simpa using h p hp
theorem aGe {m : List (Str × Str)} {x y : Str} (h : findS m x = some y) : ∃ j, ((m.map (·.1)).findIdx? fun z => decide (x = z)) = some j ∧ ((m.map (·.2)).map AV.s)[j]? = some (.s y) := by
 induction m with
 | nil => simp [findS] at h
 | cons p m ih =>
   unfold findS at h
   rw [List.find?_cons] at h
   by_cases hx : x = p.1
   · rw [zt hx] at h
     simp only [cK, aA] at h
     exact ⟨0, by simp [iK, hx], by simp [h]⟩
   · rw [zf hx] at h
     obtain ⟨j, h1, h2⟩ := ih h
     refine ⟨j + 1, ?_, by simpa using h2⟩
     rw [aU, iK, zf hx, h1]; rfl
abbrev aOa (m : List (Str × Str)) : AObj := .map false ((m.map (·.1)).map .s) ((m.map (·.2)).map .s)
theorem bQx (t : LTerm) (d : Int) (m : List (Str × Str)) (tw : Str) (g : List AObj) (ht : OkT t) (hl : m.length ≤ 1000000): ACalls Tryz.prog G0 188 [elT t, .i .i64 d, .ptr 0 0, .ptr 1 0] (.box false [.mp 2] :: .box false [.s tw] :: .map false ((m.map (·.1)).map .s) ((m.map (·.2)).map .s) :: g) (fun r h' => r = .tup [] ∧ ∃ z, h' = .box false [.mp 2] :: .box false [.s (W8 (t, d) (m, tw)).2] :: aOa (W8 (t, d) (m, tw)).1 :: (g ++ z)) := by
 refine dH (rx := false) (th := fun _ => none) mixed Tryz.func188 ?_
 · simp -implicitDefEqProofs (disch := omega) only [Tryz.f188, go_sem, List.replicate, simprocAttr]
   by_cases h6 : t.kind = 6
   · by_cases h95 : t.text = [95]
     · have e : W8 (t, d) (m, tw) = (m, tw) := by rw [W8, if_neg (by simp [isV, h95])]
       rw [e]
       refine zh (zA2 (zt h6) (zt h95)) ?_
       (refine zx0 (zA2 (zt h6) (zt h95)) ?_; repeat' first | exact trivial | refine zJ ?_ ?_ | refine zH fun hc => ?_)
       all_goals exact ⟨_, rfl⟩
     · have hv : isV t = true := by simp [isV, h6, h95]
       rw [W8, if_pos hv, aOw]
       dsimp only [xX]
       cases hf : findS m t.text with
       | none =>
         have k1 := aGf hf
         refine zh (zA2 (zt h6) (zA2 (zf h95) (zA2 @lU.eq_1 (zA2 @aOb @k1)))) ?_
         (refine zx0 (zA2 (zt h6) (zA2 (zf h95) (zA2 @lU.eq_1 (zA2 @aOb @k1)))) ?_; repeat' first | exact trivial | refine zJ ?_ ?_ | refine zH fun hc => ?_)
         all_goals exact ⟨[.box false [.i .i64 (t).kind, .i .i64 (t).n, .s (t).text, .s (t).sort, .sl ((t).kids.flatMap aC) (t).kids.length, .sl ((t).rest.flatMap aC) (t).rest.length]], by simp [aOa]⟩
       | some old =>
         obtain ⟨j, k1, k2⟩ := aGe hf
         refine zh (zA2 (zt h6) (zA2 (zf h95) (zA2 @lU.eq_1 (zA2 @aOb (zA2 @k1 @k2))))) ?_
         (refine zx0 (zA2 (zt h6) (zA2 (zf h95) (zA2 @lU.eq_1 (zA2 @aOb (zA2 @k1 @k2))))) ?_; repeat' first | exact trivial | refine zJ ?_ ?_ | refine zH fun hc => ?_)
         all_goals simp only [ne_eq, bytesLess_eq, decide_eq_true_eq, decide_eq_false_iff_not] at *
         all_goals by_cases hq : (¬ old = t.sort ∧ (tw = [] ∨ t.text < tw))
         all_goals simp only [hq, and_self, true_and, not_false_eq_true, if_true, if_false]
         all_goals first | exact ⟨_, rfl⟩ | (exfalso; simp_all; done) | exact absurd hq (fun q => q.2.elim (fun e => absurd (List.length_eq_zero_iff.2 e) (by assumption)) (fun e => absurd e (by assumption)))
   · have e : W8 (t, d) (m, tw) = (m, tw) := by rw [W8, if_neg (by simp [isV, h6])]
     rw [e]
     refine zh (zf h6) ?_
     (refine zx0 (zf h6) ?_; repeat' first | exact trivial | refine zJ ?_ ?_ | refine zH fun hc => ?_)
     all_goals exact ⟨_, rfl⟩
def SrR (r : List (Str × Str) × Str) (h : List AObj) : Prop := ∃ g, h = .box false [.mp 2] :: .box false [.s r.2] :: aOa r.1 :: g
def SrP (r : List (Str × Str) × Str) (l : List (LTerm × Int)) : Prop := r.1.length + l.length ≤ 1000000 ∧ bKs () l
theorem aOx {v : LTerm × Int} {r : List (Str × Str) × Str} : (W8 v r).1.length ≤ r.1.length + 1 := by
 unfold W8 aOw
 split
 · split
   · split <;> simp
   · simp
 · omega
theorem aFw {a b b' c c' : AObj} {g z : List AObj} : kF 3 (a :: b :: c :: g) (a :: b' :: c' :: (g ++ z)) := fun i y hi h => by
 match i, hi with
 | i + 3, _ =>
   simp only [cX] at h ⊢
   rw [aD (aO h)]; exact h
theorem bKz : bCe 188 [.ptr 0 0, .ptr 1 0] 3 SrR W8 SrP := by
 refine ⟨?_, ?_, ?_⟩
 · rintro b h z ⟨g, rfl⟩; exact ⟨g ++ z, rfl⟩
 · rintro b h ⟨g, rfl⟩; simp
 · rintro ⟨m, tw⟩ ⟨t, d⟩ l h hP ho ⟨g, rfl⟩
   have h1 := hP.1
   have h2 := aOx (v := (t, d)) (r := (m, tw))
   rw [aQ] at h1
   dsimp only at h1 h2
   refine ⟨hP.2 _ (by simp), ⟨by omega, fun v hv => hP.2 v (by simp [hv])⟩, ?_⟩
   refine (bQx t d m tw g ho (by omega)).mono ?_
   rintro r h' ⟨rfl, z, rfl⟩
   exact ⟨rfl, ⟨g ++ z, rfl⟩, aFw⟩
def pR (t : LTerm) : List (Str × Str) × Str := vG W8 ([], []) (vis t 1)
def aQq (m : List (Str × Str)) : AV := .mapv ((m.map (·.1)).map .s) ((m.map (·.2)).map .s)
theorem aOz {H : List AObj} {id : Nat} {fz : Bool} {ks vs : List Str} (h : H[id]? = some (.map fz (ks.map .s) (vs.map .s))) : gG dep H (.mp id) = .mapv (ks.map .s) (vs.map .s) := by
 simp only [iT, pers, aP, if_false, zW, h, iO, if_true]
theorem bAk {H : List AObj} {id : Nat} {fz : Bool} {m : List (Str × Str)} {x : Str} (h : H[id]? = some (.map fz ((m.map (·.1)).map .s) ((m.map (·.2)).map .s))) : Fin H (.tup [.mp id, .s x]) (.tup [aQq m, .s x]) := by
 refine .inr ⟨⟨?_, rfl, trivial⟩, ?_, ?_⟩
 · show aQq m = gG dep H (.mp id)
   rw [aOz h]; rfl
 · show List.Nodup []; exact dC
 · intro i hi; exact absurd hi (by show ¬ i ∈ []; simp)
theorem bFs (t : LTerm) (ht : OkT t) (hv : eS cB t = true): CT 127 [avt [t]] (.tup [aQq (pR t).1, .s (pR t).2]) := by
 refine dK (rx := true) (th := fun i => if i = 7 then some ⟨none, [0], false, true, false, [], []⟩ else none) mixed Tryz.func127 g0 ?_
 · simp -implicitDefEqProofs (disch := omega) only [Tryz.f127, go_sem, List.replicate, simprocAttr, avt]
   have hP := W4 hv
   have hP' : SrP ([], []) (vis t 1 ++ []) := ⟨by have := hP.1; simp at this ⊢; omega, fun v hv => hP.2 v hv⟩
   refine bP (fun (s : Nat × (List (Str × Str) × Str) × List AObj) => [.k, .k, .k, .k, .k, .j, .k, .k, .k, .v (.i .i64 (s.1 : Nat)), .j, .j, .j, .j, .j, .j, .j, .k, .k]) (fun s => (.box false [.mp 2] :: .box false [.s s.2.1.2] :: aOa s.2.1.1 :: s.2.2)) (fun s => s.1 ≤ 1 ∧ (s.1 = 0 → s.2.1 = ([], [])) ∧ (s.1 = 1 → s.2.1 = pR t)) (fun s => 1 - s.1) ((0, ([], []), [])) ⟨aG _, fun _ => rfl, fun h => (by cases h)⟩ rfl (by simp [eN]) ?_
   rintro ⟨k, r, g⟩ j ⟨hk, h0, h1⟩
   dsimp only at hk h0 h1
   have h01 : ((0 : Int) < ((1 : Nat) : Int)) = True := eq_true (by decide)
   have h11 : (((1 : Nat) : Int) < ((1 : Nat) : Int)) = False := eq_false (by decide)
   rcases (by omega : k = 0 ∨ k = 1) with rfl | rfl
   · obtain rfl := h0 rfl
     have cw := aXd bKz (fun a => ⟨_, [], rfl⟩) t ht 1 ([], []) [] (.box false [.mp 2] :: .box false [.s []] :: aOa [] :: (g ++ [.box false [.i .i64 (t).kind, .i .i64 (t).n, .s (t).text, .s (t).sort, .sl ((t).kids.flatMap aC) (t).kids.length, .sl ((t).rest.flatMap aC) (t).rest.length]])) ⟨_, rfl⟩ hP'
     simp only [elT, bA, avt, aOa, bN] at cw
     refine zh (zA2 @aOa.eq_1 (zA2 @cV.{0,0} (zA2 @jW.{0,0} (zA2 @List.append_nil.{0} (zA2 @bA (zA2 @avt.eq_1 (zA2 h01 (zA2 @decide_true @bN.{0,0})))))))) ?_
     (refine zx0 (zA2 @aOa.eq_1 (zA2 @cV.{0,0} (zA2 @jW.{0,0} (zA2 @List.append_nil.{0} (zA2 @bA (zA2 @avt.eq_1 (zA2 h01 (zA2 @decide_true @bN.{0,0})))))))) ?_; repeat' first | exact trivial | refine zJ ?_ ?_ | refine zH fun hc => ?_)
     refine eO cw ?_
     rintro r h' ⟨rfl, ⟨g', rfl⟩, _⟩
     refine zg ?_
     exact ⟨(1, pR t, g'), ⟨aZ _, fun h => (by cases h), fun _ => rfl⟩, by simp, rfl, by simp⟩
   · obtain rfl := h1 rfl
     refine zh (zA2 @aOa.eq_1 (zA2 h11 @decide_false)) ?_
     (refine zx0 (zA2 @aOa.eq_1 (zA2 h11 @decide_false)) ?_; repeat' first | exact trivial | refine zJ ?_ ?_ | refine zH fun hc => ?_)
     exact bAk rfl
end Go.Proofs.YtifefbhllfdmlaaGreatDoor

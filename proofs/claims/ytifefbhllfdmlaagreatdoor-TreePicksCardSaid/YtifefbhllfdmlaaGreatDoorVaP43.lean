/-
  What functions of the chapter return, as plain functions of what they are given; no condition beyond those that each theorem names.
-/
import Derived.Test.YtifefbhllfdmlaaGreatDoorTeP42
import Derived.Test.YtifefbhllfdmlaaGreatDoorTeP43
import Derived.Test.YtifefbhllfdmlaaGreatDoorVaP42
import Derived.Test.YtifefbhllfdmlaaGreatDoorVaP41
import Derived.Test.YtifefbhllfdmlaaGreatDoorSoP43
set_option maxRecDepth 100000
set_option linter.unusedSimpArgs false
set_option linter.unusedVariables false
set_option maxHeartbeats 4000000
namespace Go.Proofs.YtifefbhllfdmlaaGreatDoor
open Go Go.Vo
open Nat (reduceAdd reduceSub reduceMul reduceLeDiff reduceLT reduceEqDiff)
open Int (reduceNeg)

def aJv (s : bX) (t : LTerm) : Bool := (kQ s t.text).2.2 && (decide ((kQ s t.text).1.args.length = t.kids.length) && aEi t.kids.length (fun i => aKg s (pG s (t.kids.getD i default)) ((kQ s t.text).1.args.getD i [])))
mutual
def vO (s : bX) : LTerm → Bool
 | .mk k n x so ks rs => fitsPL s ks && (if k = 6 then dA s so else if k = 5 then aJv s (.mk k n x so ks rs) else true)
def fitsPL (s : bX) : List LTerm → Bool
 | [] => true
 | k :: l => vO s k && fitsPL s l
end
theorem R6 {s : bX} : ∀ l, fitsPL s l = l.all (vO s)
 | [] => rfl
 | k :: l => by rw [fitsPL, R6 l]; rfl
theorem aRn (s : bX) (t : LTerm) : vO s t = (t.kids.all (vO s) && (if t.kind = 6 then dA s t.sort else if t.kind = 5 then aJv s t else true)) := by
 cases t; rw [vO, R6]; rfl
theorem aSe (s : bX) (t : LTerm) (hs : Small s) (ht : OkT t) (ih : ∀ k ∈ t.kids, CT 125 [cB s, elT k] (.b (vO s k))): CT 125 [cB s, elT t] (.b (vO s t)) := by
 refine aF mixed Tryz.func125 g0 ?_
 · skip
   have e := aRn s t
   have hk1 := ht.kids
   have c1 := aMe s t.text
   obtain ⟨⟨q, fn, ok⟩, hq⟩ : ∃ p, kQ s t.text = p := ⟨_, rfl⟩
   simp only [aJv, hq] at e
   rw [hq] at c1
   (refine zs0 ?_; repeat' first | exact trivial | refine zJ ?_ ?_ | refine zH fun hc => ?_)
   refine dV (fun (k : Nat) => [.k, .k, .k, .k, .j, .k, .j, .k, .k, .k, .k, .k, .k, .k, .k, .v (.i .i64 (k : Nat)), .j, .j, .j, .j, .j, .j, .j, .j, .k, .k, .k, .k, .k, .k, .k, .k, .k, .k, .k, .k, .k, .k, .k, .k, .k, .k, .k, .k, .k, .k, .k, .k, .k, .k, .k, .k, .k, .k, .k, .k, .k, .k, .k, .k, .k, .k, .k, .k, .k, .k, .k, .k, .k, .k, .k, .k, .k]) (fun k => [.box false [.i .i64 (t).kind, .i .i64 (t).n, .s (t).text, .s (t).sort, .sl ((t).kids.flatMap aD) (t).kids.length, .sl ((t).rest.flatMap aD) (t).rest.length]]) (fun k => k ≤ t.kids.length ∧ ∀ j, j < k → vO s (t.kids.getD j default) = true) (fun k => t.kids.length - k) (0) _ ⟨aG _, fun j h => by omega⟩ rfl (by simp [eQ]) ?_
   rintro k g j ⟨hk, ha⟩
   have o : k < t.kids.length → CT 125 [cB s, elT (t.kids.getD k default)] (.b (vO s (t.kids.getD k default))) := fun h => ih _ (aV h)
   refine zg ?_
   (repeat' (first | refine gT ?_ ?_ | refine gF ?_ ?_ | refine gC ?_ ?_ | ((first | (refine aX ((o (by omega))) ?_ ?_; (focus (simp -implicitDefEqProofs (disch := omega) only [oX, cB, zdB, go_sem, simprocAttr]; done))) | (refine aX (H8 s t.sort) ?_ ?_; (focus (simp -implicitDefEqProofs (disch := omega) only [oX, cB, zdB, go_sem, simprocAttr]; done))) | (refine aX (c1) ?_ ?_; (focus (simp -implicitDefEqProofs (disch := omega) only [oX, cB, zdB, go_sem, simprocAttr]; done)))); simp -implicitDefEqProofs (disch := omega) only [oX, cB, go_sem, simprocAttr]) | refine aZ (by omega) ?_ | (intro hr; have hc := hr; (try simp only [zdz] at hc); simp -implicitDefEqProofs (disch := omega) only [hr, oX, cB, go_sem, simprocAttr]; (try clear hr))))
   all_goals first
     | exact aE (by rw [e, yR k (by omega) hc, Bool.false_and]) rfl
     | exact ⟨k + 1, _, ⟨by omega, bE ha hc⟩, by omega, rfl, by simp⟩
     | skip
   all_goals rw [oO (fun j hj => ha j (by omega)), Bool.true_and] at e
   all_goals first
     | (exfalso; omega)
     | exact aE (by rw [e, if_pos (by assumption)]) rfl
     | exact aE (by rw [e, if_neg (by assumption), if_neg (by assumption)]) rfl
     | exact aE (by rw [e, if_neg (by assumption), if_pos (by omega), show ok = false from hc, Bool.false_and]) rfl
     | exact aE (by rw [e, if_neg (by assumption), if_pos (by omega), zf (by omega : ¬ q.args.length = t.kids.length), Bool.false_and, Bool.and_false]) rfl
     | skip
   have hn : q.args.length = t.kids.length := by omega
   have hok : ok = true := by assumption
   rw [if_neg (by assumption), if_pos (by omega), zt hn, Bool.true_and, hok, Bool.true_and] at e
   refine dV (fun (k : Nat) => [.k, .k, .k, .k, .j, .k, .k, .k, .k, .k, .j, .j, .k, .k, .k, .k, .k, .k, .k, .k, .k, .k, .k, .k, .k, .k, .k, .k, .k, .k, .k, .k, .k, .k, .k, .k, .k, .k, .k, .k, .k, .k, .k, .k, .k, .k, .k, .k, .k, .k, .k, .k, .k, .k, .k, .k, .v (.i .i64 (k : Nat)), .j, .j, .j, .j, .j, .j, .j, .j, .j, .j, .j, .j, .j, .j, .j, .j]) (fun k => (.box false [.i .i64 (t).kind, .i .i64 (t).n, .s (t).text, .s (t).sort, .sl ((t).kids.flatMap aD) (t).kids.length, .sl ((t).rest.flatMap aD) (t).rest.length] :: (g ++ [.box false (bA q)]))) (fun k => k ≤ t.kids.length ∧ ∀ j, j < k → aKg s (pG s (t.kids.getD j default)) (q.args.getD j []) = true) (fun k => t.kids.length - k) (0) [] ⟨aG _, fun j h => by omega⟩ (by simp [avs, avb, avi, avo, bA, aO]) (by simp [eQ]) ?_
   rintro kk g2 j2 ⟨hkk, ha2⟩
   refine zg ?_
   (refine zt2 (aMh s (t.kids.getD kk default)) (bNo s (pG s (t.kids.getD kk default)) (q.args.getD kk []) hs) ?_; repeat' first | exact trivial | refine zJ ?_ ?_ | refine zH fun hc => ?_)
   all_goals first
     | exact aE (by rw [e, iZ kk (by omega) hc]) rfl
     | exact ⟨kk + 1, _, ⟨by omega, bE ha2 hc⟩, by omega, rfl, by simp⟩
     | exact aE (by rw [e, pU (fun j hj => ha2 j (by omega))]) rfl
     | (exfalso; omega)
theorem bHb (s : bX) (hs : Small s) : ∀ (t : LTerm), OkT t → CT 125 [cB s, elT t] (.b (vO s t)) :=
 dY fun t hk _ ht => aSe s t hs ht (fun k hm => hk k hm (ht.kid k hm))
theorem aLz (s : bX) (t : LTerm) (hm : Small s) (hs : OkS s) (ht : OkT t): CT 58 [.agg (aO s), elT t] (.b (cV s && kA s t)) := by
 refine aF mixed Tryz.func58 g0 ?_
 · skip
   have c2 := aGh s hm hs
   rcases fE (cV s) with h2 | h2
   · rw [h2] at c2
     (refine zt3 c2 (S5 s hm (gD h2)) (aMj s t hm ht) ?_; repeat' first | exact trivial | refine zJ ?_ ?_ | refine zH fun hc => ?_)
     all_goals exact aE (by rw [h2]; rfl) rfl
   · rw [h2] at c2
     (refine zt1 c2 ?_; repeat' first | exact trivial | refine zJ ?_ ?_ | refine zH fun hc => ?_)
     all_goals exact aE (by rw [h2]; rfl) rfl

def PtR (x y : AObj) (b : Bool) (h : List AObj) : Prop := ∃ g, h = x :: y :: .box false [.b b] :: g
theorem bLc (x y : AObj) : bBs 129 [.ptr 2 0] 3 (PtR x y) bDv bKv := by
 refine ⟨?_, ?_, ?_⟩
 · rintro b h z ⟨g, rfl⟩; exact ⟨g ++ z, rfl⟩
 · rintro b h ⟨g, rfl⟩; simp
 · rintro b ⟨t, d⟩ l h hP ho ⟨g, rfl⟩
   have hb := hP (t, d) (by simp)
   refine ⟨hb, fun v hv => hP v (by simp [hv]), ?_⟩
   refine (bSa t d b x y g ho (by have := hb.2.2; dsimp only at this; omega)).mono ?_
   rintro r h' ⟨rfl, z, rfl⟩
   exact ⟨rfl, ⟨g ++ z, rfl⟩, Q3⟩
def bDu (s : bX) (t : LTerm) : Bool := gO dD t && (vO s t && (!K5 (aRm s) false (vis t 1) && K5 bDv (decide ((tQ t).2 = [])) (vis t 1)))
theorem bGj (s : bX) (t : LTerm) (hs : Small s) (ht : OkT t): CT 76 [cB s, elT t] (.b (bDu s t)) := by
 refine aF mixed Tryz.func76 g0 ?_
 · skip
   have c1 := aMi t ht
   have c2 := bHb s hs t ht
   rcases fE (gO dD t) with hv | hv
   · have c3 := bFw s t ht hv
     have c4 := bFv t ht hv
     rw [hv] at c1
     rw [bDu, hv, Bool.true_and]
     rcases fE (vO s t) with hf | hf
     · rw [hf] at c2
       rw [hf, Bool.true_and]
       rcases fE (K5 (aRm s) false (vis t 1)) with hn | hn
       · rw [hn] at c3
         (refine zt3 c1 c2 c3 ?_; repeat' first | exact trivial | refine zJ ?_ ?_ | refine zH fun hc => ?_)
         all_goals exact aE (by rw [hn]; rfl) rfl
       · rw [hn] at c3
         rw [hn, Bool.not_false, Bool.true_and]
         generalize tQ t = sv at *
         refine zh @gP ?_
         (repeat' (first | refine gT ?_ ?_ | refine gF ?_ ?_ | refine gC ?_ ?_ | ((first | (refine aX (c1) ?_ ?_; (focus (simp -implicitDefEqProofs (disch := omega) only [gP, aQo, zdB, go_sem, ↓reduceIte, reduceAdd, reduceSub, reduceMul, reduceLeDiff, reduceLT, reduceEqDiff, reduceNeg, Nat.reduceBEq]; done))) | (refine aX (c2) ?_ ?_; (focus (simp -implicitDefEqProofs (disch := omega) only [gP, aQo, zdB, go_sem, ↓reduceIte, reduceAdd, reduceSub, reduceMul, reduceLeDiff, reduceLT, reduceEqDiff, reduceNeg, Nat.reduceBEq]; done))) | (refine aX (c3) ?_ ?_; (focus (simp -implicitDefEqProofs (disch := omega) only [gP, aQo, zdB, go_sem, ↓reduceIte, reduceAdd, reduceSub, reduceMul, reduceLeDiff, reduceLT, reduceEqDiff, reduceNeg, Nat.reduceBEq]; done))) | (refine aX (c4) ?_ ?_; (focus (simp -implicitDefEqProofs (disch := omega) only [gP, aQo, zdB, go_sem, ↓reduceIte, reduceAdd, reduceSub, reduceMul, reduceLeDiff, reduceLT, reduceEqDiff, reduceNeg, Nat.reduceBEq]; done)))); simp -implicitDefEqProofs (disch := omega) only [gP, aQo, go_sem, ↓reduceIte, reduceAdd, reduceSub, reduceMul, reduceLeDiff, reduceLT, reduceEqDiff, reduceNeg, Nat.reduceBEq]) | refine aZ (by omega) ?_ | (intro hr; have hc := hr; (try simp only [zdz] at hc); simp -implicitDefEqProofs (disch := omega) only [hr, gP, aQo, go_sem, ↓reduceIte, reduceAdd, reduceSub, reduceMul, reduceLeDiff, reduceLT, reduceEqDiff, reduceNeg, Nat.reduceBEq]; (try clear hr))))
         have cw := fun (b : Bool) => aWs (bLc (.box false [.i .i64 (t).kind, .i .i64 (t).n, .s (t).text, .s (t).sort, .sl ((t).kids.flatMap aD) (t).kids.length, .sl ((t).rest.flatMap aD) (t).rest.length]) (.arr true 6 [.i .i64 (t).kind, .i .i64 (t).n, .s (t).text, .s (t).sort, .sl ((t).kids.flatMap aD) (t).kids.length, .sl ((t).rest.flatMap aD) (t).rest.length])) (fun a => ⟨_, [], rfl⟩) t ht 1 b [] _ ⟨[], rfl⟩ (aHk (a := false) hv)
         simp only [elT, bC, avt] at cw
         refine eV (cw _) ?_
         rintro r h' ⟨rfl, ⟨g, rfl⟩, _⟩
         refine zg ?_
         exact aE rfl rfl
     · rw [hf] at c2
       (refine zt2 c1 c2 ?_; repeat' first | exact trivial | refine zJ ?_ ?_ | refine zH fun hc => ?_)
       all_goals exact aE (by rw [hf]; rfl) rfl
   · rw [hv] at c1
     (refine zt1 c1 ?_; repeat' first | exact trivial | refine zJ ?_ ?_ | refine zH fun hc => ?_)
     all_goals exact aE (by rw [bDu, hv]; rfl) rfl

theorem oN {f : Nat → Bool} {k : Nat} (h : ∀ j, j < k → f j = false) (hk : f k = false) : ∀ j, j < k + 1 → f j = false := fun j hj => by
 rcases Nat.lt_succ_iff_lt_or_eq.1 hj with h1 | rfl
 · exact h j h1
 · exact hk

theorem M4 : ∀ (t : LTerm) (d e : Int), (vis t d).map (·.1) = (vis t e).map (·.1) :=
 dY (Q := fun t => ∀ d e : Int, (vis t d).map (·.1) = (vis t e).map (·.1)) fun t hk hr d e => by
   have L : ∀ (l : List LTerm) (d e : Int), (∀ k ∈ l, ∀ d e : Int, (vis k d).map (·.1) = (vis k e).map (·.1)) → (visL l d).map (·.1) = (visL l e).map (·.1) := by
     intro l
     induction l with
     | nil => intro d e _; rfl
     | cons x l ih => intro d e h; rw [visL, visL, aT, aT, h x (by simp) d e, ih d e (fun k hk => h k (by simp [hk]))]
   rw [rA, rA, aY, aY, L (t.kids ++ t.rest) (d + 1) (e + 1) fun k hm => by
     rcases bY.1 hm with hm | hm
     · exact hk k hm
     · exact hr k hm]
def zP (l : List LTerm) (t : LTerm) : List LTerm := (aEr t).foldl V5 l
theorem aOa (l : List LTerm) (t : LTerm) : zP l t = t.rest.foldl zP (t.kids.foldl zP (if isV t = true then V5 l t else l)) := by
 have L : ∀ (ks : List LTerm) (d : Int) (l : List LTerm), (((visL ks d).map (·.1)).filter isV).foldl V5 l = ks.foldl zP l := by
   intro ks
   induction ks with
   | nil => intro d l; rfl
   | cons x ks ih =>
     intro d l
     rw [visL, aT, wK, lE, ih, iV, zP, aEr, M4 x d 1]
 rw [zP, aEr, rA, jP, aY, aT, fO]
 split
 · rw [iV, wK, lE, L, L]
 · rw [wK, lE, L, L]
def aAu (t : LTerm) : Prop := ∀ v ∈ vis t 1, (v.1.kind = 6 → v.1.kids = [] ∧ v.1.rest = []) ∧ v.1.kids.length + v.1.rest.length ≤ 1000000
theorem aAu.at {t : LTerm} (h : aAu t) : (t.kind = 6 → t.kids = [] ∧ t.rest = []) ∧ t.kids.length + t.rest.length ≤ 1000000 := h (t, 1) (by rw [rA]; simp)
theorem aAu.kid {t k : LTerm} (h : aAu t) (hk : k ∈ t.kids ++ t.rest) : aAu k := by
 intro v hv
 have L : ∀ (l : List LTerm) (d : Int), k ∈ l → ∃ w ∈ visL l d, w.1 = v.1 := by
   intro l
   induction l with
   | nil => intro d h; cases h
   | cons x l ih =>
     intro d h
     rw [visL]
     rcases bZ.1 h with rfl | h
     · have hm : v.1 ∈ (vis k d).map (·.1) := by rw [M4 k d 1]; exact qW.2 ⟨v, hv, rfl⟩
       obtain ⟨w, hw, he⟩ := qW.1 hm
       exact ⟨w, dP _ hw, he⟩
     · obtain ⟨w, hw, he⟩ := ih d h
       exact ⟨w, cW _ hw, he⟩
 obtain ⟨w, hw, he⟩ := L (t.kids ++ t.rest) 2 hk
 rw [← he]
 exact h w (by rw [rA]; exact lX _ hw)
theorem kR (t : LTerm) (d e : Int) : (vis t d).length = (vis t e).length := by
 have := congrArg List.length (M4 t d e); simpa using this
theorem aTo {l : List LTerm} {t : LTerm} : (V5 l t).length ≤ l.length + 1 := by unfold V5; split <;> simp
abbrev SoK (l' : List LTerm) (h : List AObj) : AV → List AObj → Prop := fun r h' => eZ 6 0 h' r (l'.flatMap aD) l'.length ∧ kL 0 h h'
theorem so1 (t : LTerm) (l : List LTerm) (out : AV) (h : List AObj) (ht : OkT t) (hol : ∀ x ∈ l, OkT x) (hl : l.length ≤ 1000000) (h6 : t.kind = 6) (h95 : ¬ t.text = [95]) (ho : eZ 6 0 h out (l.flatMap aD) l.length): ACalls Tryz.prog G0 135 [out, elT t] h (SoK (V5 l t) h) := by
 refine dI (rx := false) (th := fun _ => none) mixed Tryz.func135 ?_
 · simp -implicitDefEqProofs (disch := omega) only [Tryz.f135, go_sem, List.replicate, ↓reduceIte, reduceAdd, reduceSub, reduceMul, reduceLeDiff, reduceLT, reduceEqDiff, reduceNeg, Nat.reduceBEq]
   have hk0 : ∀ m : List AObj, kL 0 h (h ++ m) := fun m => .app _ _ _
   rcases ho with ⟨rfl, hc, hn⟩ | ⟨i, rfl, hi, hil⟩
   · obtain rfl : l = [] := List.length_eq_zero_iff.1 hn
     have e : V5 ([] : List LTerm) t = [t] := by simp [V5]
     rw [e]
     refine zh (zA2 (zt h6) (zf h95)) ?_
     (refine zx0 (zA2 (zt h6) (zf h95)) ?_; repeat' first | exact trivial | refine zJ ?_ ?_ | refine zH fun hc => ?_)
     refine bT (fun (s : Nat) => [.k, .k, .k, .k, .j, .k, .j, .k, .k, .k, .k, .k, .k, .k, .k, .k, .k, .k, .k, .k, .k, .v (.i .i64 (0 : Int)), .j, .j, .j, .j, .j, .j, .j, .j, .k, .k, .k, .k, .k, .k, .k, .k, .k, .k, .k, .k, .k, .k, .k, .k, .k, .k, .k, .k, .k, .k, .k, .k, .k, .k, .k]) (fun s => (h ++ [.box false [.i .i64 (t).kind, .i .i64 (t).n, .s (t).text, .s (t).sort, .sl ((t).kids.flatMap aD) (t).kids.length, .sl ((t).rest.flatMap aD) (t).rest.length]])) (fun s => True) (fun s => s) (0) trivial rfl (by simp [eQ]) ?_
     rintro s j _
     simp -implicitDefEqProofs (disch := omega) only [go_sem, ↓reduceIte, reduceAdd, reduceSub, reduceMul, reduceLeDiff, reduceLT, reduceEqDiff, reduceNeg, Nat.reduceBEq]
     (repeat' (first | refine gT ?_ ?_ | refine gF ?_ ?_ | refine gC ?_ ?_ | refine aZ (by omega) ?_ | (intro hr; have hc := hr; (try simp only [zdz] at hc); simp -implicitDefEqProofs (disch := omega) only [hr, gP, go_sem, ↓reduceIte, reduceAdd, reduceSub, reduceMul, reduceLeDiff, reduceLT, reduceEqDiff, reduceNeg, Nat.reduceBEq]; (try clear hr))))
     all_goals first
       | (exfalso; omega)
       | exact ⟨.inr ⟨h.length + 2, rfl, by simp [bC, avt], by simp [bC]⟩, hk0 _⟩
   · have hi2 : ∀ m : List AObj, (h ++ m)[i]? = some (.arr false 6 (l.flatMap aD)) := fun m => by rw [aC (aM hi)]; exact hi
     refine zh (zA2 (zt h6) (zA2 (zf h95) hi2)) ?_
     (refine zx0 (zA2 (zt h6) (zA2 (zf h95) hi2)) ?_; repeat' first | exact trivial | refine zJ ?_ ?_ | refine zH fun hc => ?_)
     refine bT (fun (s : Nat × List AObj) => [.k, .k, .k, .k, .j, .k, .j, .k, .k, .k, .k, .k, .k, .k, .k, .k, .k, .k, .k, .k, .k, .v (.i .i64 (s.1 : Nat)), .j, .j, .j, .j, .j, .j, .j, .j, .k, .k, .k, .k, .k, .k, .k, .k, .k, .k, .k, .k, .k, .k, .k, .k, .k, .k, .k, .k, .k, .k, .k, .k, .k, .k, .k]) (fun s => (h ++ (.box false [.i .i64 (t).kind, .i .i64 (t).n, .s (t).text, .s (t).sort, .sl ((t).kids.flatMap aD) (t).kids.length, .sl ((t).rest.flatMap aD) (t).rest.length] :: s.2))) (fun s => s.1 ≤ l.length ∧ ∀ j, j < s.1 → ¬ l.getD j default = t) (fun s => l.length - s.1) ((0, [])) ⟨aG _, fun j h => by omega⟩ rfl (by simp [eQ]) ?_
     rintro ⟨k, z⟩ j ⟨hk, ha⟩
     dsimp only at hk ha
     by_cases hlt : k < l.length
     · have hki : (k : Int) < ((l.length : Nat) : Int) := by omega
       have cs := aDk (l.getD k default) t (hol _ (aV hlt)) ht
       refine zh (zA2 (zt hki) hi2) ?_
       (refine zy1 (zA2 (zt hki) hi2) cs ?_; repeat' first | exact trivial | refine zJ ?_ ?_ | refine zH fun hc => ?_)
       all_goals first
         | exact ⟨(k + 1, z ++ [.box false [.i .i64 (l.getD k default).kind, .i .i64 (l.getD k default).n, .s (l.getD k default).text, .s (l.getD k default).sort, .sl ((l.getD k default).kids.flatMap aD) (l.getD k default).kids.length, .sl ((l.getD k default).rest.flatMap aD) (l.getD k default).rest.length]]), ⟨by dsimp only; omega, fun j hj => (by rcases Nat.lt_succ_iff_lt_or_eq.1 hj with h1 | rfl; exact ha j h1; exact hc)⟩, by dsimp only; omega, by simp, by simp⟩
         | skip
       have e : V5 l t = l := by unfold V5; rw [if_pos (hc ▸ aV hlt)]
       rw [e]
       exact ⟨.inr ⟨i, rfl, hi2 _, hil⟩, hk0 _⟩
     · have hki : ¬ (k : Int) < ((l.length : Nat) : Int) := by omega
       have hb1 : (l.length + 1) * 96 ≤ 140737488355328 := by omega
       have hb2 : l.length ≤ 140737488355327 := by omega
       have hlt2 := aM hi
       have hkl : k = l.length := by omega
       have e : V5 l t = l ++ [t] := by
         unfold V5
         rw [if_neg]
         intro hm
         obtain ⟨j, hj, he⟩ := bR.1 hm
         exact ha j (by omega) (by simp [List.getD, hj, he])
       rw [e]
       simp -implicitDefEqProofs (disch := omega) only [zf hki, hi2, gP, hil, hb1, hb2, bG, true_and, and_true, go_sem, ↓reduceIte, reduceAdd, reduceSub, reduceMul, reduceLeDiff, reduceLT, reduceEqDiff, reduceNeg, Nat.reduceBEq]
       refine ⟨.inr ⟨h.length + (z.length + 1 + 1), by simp, ?_, ?_⟩, fun i' y _ hy => ?_⟩
       · rw [aH (by simp)]; simp [bC, avt]
       · simp [bC, hil]; omega
       · have hne : i ≠ i' := by rintro rfl; rw [hi] at hy; cases hy
         have hl' := aM hy
         rw [aC (by simp; omega), cN hne, aC hl']; exact hy
theorem qG {α β : Type} {f : α → β → α} {a : α} {l : List β} {k : Nat} {d : β} (h : k < l.length) : (l.take (k + 1)).foldl f a = f ((l.take k).foldl f a) (l.getD k d) := by
 rw [oY h, lE]; simp [List.getD, h]
theorem wG {l : List LTerm} {t : LTerm} : (zP l t).length ≤ l.length + (vis t 1).length := by
 have L : ∀ (m : List LTerm) (l : List LTerm), (m.foldl V5 l).length ≤ l.length + m.length := by
   intro m
   induction m with
   | nil => intro l; simp
   | cons x m ih => intro l; have := ih (V5 l x); have := aTo (l := l) (t := x); simp only [iV, aK]; omega
 have := L (aEr t) l
 have h2 : (aEr t).length ≤ (vis t 1).length := by
   have := List.length_filter_le isV ((vis t 1).map (·.1))
   simpa [aEr] using this
 unfold zP; omega
theorem J2 {l : List LTerm} {t : LTerm} (hl : ∀ x ∈ l, OkT x) (ht : OkT t) : ∀ x ∈ zP l t, OkT x := by
 have L : ∀ (m l : List LTerm), (∀ x ∈ l, OkT x) → (∀ x ∈ m, OkT x) → ∀ x ∈ m.foldl V5 l, OkT x := by
   intro m
   induction m with
   | nil => intro l h _; exact h
   | cons y m ih =>
     intro l h hm
     refine ih _ (fun x hx => ?_) (fun x hx => hm x (by simp [hx]))
     unfold V5 at hx
     split at hx
     · exact h x hx
     · rcases bY.1 hx with hx | hx
       · exact h x hx
       · rw [cL] at hx; rw [hx]; exact hm y (by simp)
 refine L _ _ hl fun x hx => ?_
 have hx := (List.mem_filter.1 hx).1
 obtain ⟨v, hv, rfl⟩ := qW.1 hx
 exact aUc t ht 1 v hv
theorem so2 (t : LTerm) (l : List LTerm) (out : AV) (h : List AObj) (ht : OkT t) (hol : ∀ x ∈ l, OkT x) (hvl : aAu t) (hl : l.length + (vis t 1).length ≤ 1000000) (hnv : isV t = false) (ho : eZ 6 0 h out (l.flatMap aD) l.length) (ih : ∀ k ∈ t.kids ++ t.rest, ∀ (l : List LTerm) (out : AV) (h : List AObj), (∀ x ∈ l, OkT x) → l.length + (vis k 1).length ≤ 1000000 → eZ 6 0 h out (l.flatMap aD) l.length → ACalls Tryz.prog G0 135 [out, elT k] h (SoK (zP l k) h)): ACalls Tryz.prog G0 135 [out, elT t] h (SoK (zP l t) h) := by
 refine dI (rx := false) (th := fun _ => none) mixed Tryz.func135 ?_
 · simp -implicitDefEqProofs (disch := omega) only [Tryz.f135, go_sem, List.replicate, ↓reduceIte, reduceAdd, reduceSub, reduceMul, reduceLeDiff, reduceLT, reduceEqDiff, reduceNeg, Nat.reduceBEq]
   have e := aOa l t
   rw [hnv, if_neg (by simp)] at e
   have hk := hvl.at.2
   have hcond : (decide (t.kind = 6) && !decide (t.text = [95])) = false := hnv
   rw [rA, aK, jP, aI, show (1 : Int) + 1 = 2 from rfl] at hl
   by_cases h6 : t.kind = 6
   · have h95 : t.text = [95] := by simpa [h6] using hcond
     refine zh (zA2 (zt h6) (zt h95)) ?_
     (refine zx0 (zA2 (zt h6) (zt h95)) ?_; repeat' first | exact trivial | refine zJ ?_ ?_ | refine zH fun hc => ?_)
     refine bT (fun (s : Nat × List LTerm × AV × List AObj) => [.v (s.2.2.1), .k, .k, .k, .k, .k, .k, .k, .j, .k, .k, .k, .k, .k, .k, .k, .k, .k, .k, .k, .k, .k, .k, .k, .k, .k, .k, .k, .k, .k, .k, .k, .k, .k, .k, .k, .k, .v (.i .i64 (s.1 : Nat)), .j, .j, .j, .j, .j, .j, .j, .k, .k, .k, .k, .k, .k, .k, .k, .k, .k, .k, .k]) (fun s => s.2.2.2) (fun s => s.1 ≤ t.kids.length ∧ (∀ x ∈ s.2.1, OkT x) ∧ s.2.1.length + (visL (t.kids.drop s.1) 2).length + (visL t.rest 2).length ≤ 1000000 ∧ s.2.1 = (t.kids.take s.1).foldl zP l ∧ eZ 6 0 s.2.2.2 s.2.2.1 (s.2.1.flatMap aD) s.2.1.length ∧ kL 0 (h ++ [.box false [.i .i64 (t).kind, .i .i64 (t).n, .s (t).text, .s (t).sort, .sl ((t).kids.flatMap aD) (t).kids.length, .sl ((t).rest.flatMap aD) (t).rest.length]]) s.2.2.2) (fun s => t.kids.length - s.1) ((0, l, out, h ++ [.box false [.i .i64 (t).kind, .i .i64 (t).n, .s (t).text, .s (t).sort, .sl ((t).kids.flatMap aD) (t).kids.length, .sl ((t).rest.flatMap aD) (t).rest.length]])) ⟨aG _, hol, (by rw [dJ]; dsimp only; omega), rfl, ho.more _, .refl _ _⟩ rfl (by simp [eQ]) ?_
     rintro ⟨k, l2, out2, H⟩ j ⟨hkl, ho2, hb2, he2, hi2, hs2⟩
     dsimp only at hkl ho2 hb2 he2 hi2 hs2
     by_cases hlt : k < t.kids.length
     · have hki : (k : Int) < ((t.kids.length : Nat) : Int) := by omega
       have hmm := aV (d := default) hlt
       rw [tO hlt, aI, kR _ 2 1] at hb2
       have ci := ih _ (dP _ hmm) l2 out2 (H ++ [.box false [.i .i64 (t.kids.getD k default).kind, .i .i64 (t.kids.getD k default).n, .s (t.kids.getD k default).text, .s (t.kids.getD k default).sort, .sl ((t.kids.getD k default).kids.flatMap aD) (t.kids.getD k default).kids.length, .sl ((t.kids.getD k default).rest.flatMap aD) (t.kids.getD k default).rest.length]]) ho2 (by omega) (hi2.more _)
       simp only [elT, bC, avt] at ci
       refine zh (zt hki) ?_
       (refine zx0 (zt hki) ?_; repeat' first | exact trivial | refine zJ ?_ ?_ | refine zH fun hc => ?_)
       refine eV ci ?_
       rintro r h3 ⟨hi3, hs3⟩
       refine zg ?_
       have hw := wG (l := l2) (t := t.kids.getD k default)
       refine ⟨(k + 1, zP l2 (t.kids.getD k default), r, h3), ⟨by dsimp only; omega, J2 ho2 (ht.kid _ hmm), by dsimp only; omega, ?_, hi3, hs2.trans ((kL.app _ _ _).trans hs3)⟩, by dsimp only; omega, rfl, by simp⟩
       dsimp only
       rw [qG (d := default) hlt, ← he2]
     · have hki : ¬ (k : Int) < ((t.kids.length : Nat) : Int) := by omega
       have hke : t.kids.take k = t.kids := aS (by omega)
       have hd : (visL (t.kids.drop k) 2).length = 0 := by rw [aQ (by omega)]; rfl
       rw [hke] at he2
       have hbx : H[h.length]? = some (.box false [.i .i64 (t).kind, .i .i64 (t).n, .s (t).text, .s (t).sort, .sl ((t).kids.flatMap aD) (t).kids.length, .sl ((t).rest.flatMap aD) (t).rest.length]) := hs2 _ _ (aG _) (by simp)
       refine zh (zA2 (zf hki) hbx) ?_
       (refine zx0 (zA2 (zf hki) hbx) ?_; repeat' first | exact trivial | refine zJ ?_ ?_ | refine zH fun hc => ?_)
       refine bT (fun (s : Nat × List LTerm × AV × List AObj) => [.v (s.2.2.1), .k, .k, .k, .k, .k, .k, .k, .k, .k, .j, .k, .k, .k, .k, .k, .k, .k, .k, .k, .k, .k, .k, .k, .k, .k, .k, .k, .k, .k, .k, .k, .k, .k, .k, .k, .k, .k, .k, .k, .k, .k, .k, .k, .k, .k, .k, .k, .v (.i .i64 (s.1 : Nat)), .j, .j, .j, .j, .j, .j, .j, .k]) (fun s => s.2.2.2) (fun s => s.1 ≤ t.rest.length ∧ (∀ x ∈ s.2.1, OkT x) ∧ s.2.1.length + (visL (t.rest.drop s.1) 2).length ≤ 1000000 ∧ s.2.1 = (t.rest.take s.1).foldl zP l2 ∧ eZ 6 0 s.2.2.2 s.2.2.1 (s.2.1.flatMap aD) s.2.1.length ∧ kL 0 (h ++ [.box false [.i .i64 (t).kind, .i .i64 (t).n, .s (t).text, .s (t).sort, .sl ((t).kids.flatMap aD) (t).kids.length, .sl ((t).rest.flatMap aD) (t).rest.length]]) s.2.2.2) (fun s => t.rest.length - s.1) ((0, l2, out2, H)) ⟨aG _, ho2, (by rw [dJ]; dsimp only; omega), rfl, hi2, hs2⟩ rfl (by simp [eQ]) ?_
       rintro ⟨k3, l3, out3, H3⟩ j3 ⟨hkl3, ho3, hb3, he3, hi3, hs3⟩
       dsimp only at hkl3 ho3 hb3 he3 hi3 hs3
       by_cases hlt3 : k3 < t.rest.length
       · have hki3 : (k3 : Int) < ((t.rest.length : Nat) : Int) := by omega
         have hmm := aV (d := default) hlt3
         rw [tO hlt3, aI, kR _ 2 1] at hb3
         have ci := ih _ (cW _ hmm) l3 out3 (H3 ++ [.box false [.i .i64 (t.rest.getD k3 default).kind, .i .i64 (t.rest.getD k3 default).n, .s (t.rest.getD k3 default).text, .s (t.rest.getD k3 default).sort, .sl ((t.rest.getD k3 default).kids.flatMap aD) (t.rest.getD k3 default).kids.length, .sl ((t.rest.getD k3 default).rest.flatMap aD) (t.rest.getD k3 default).rest.length]]) ho3 (by omega) (hi3.more _)
         simp only [elT, bC, avt] at ci
         refine zh (zt hki3) ?_
         (refine zx0 (zt hki3) ?_; repeat' first | exact trivial | refine zJ ?_ ?_ | refine zH fun hc => ?_)
         refine eV ci ?_
         rintro r h4 ⟨hi4, hs4⟩
         refine zg ?_
         have hw := wG (l := l3) (t := t.rest.getD k3 default)
         refine ⟨(k3 + 1, zP l3 (t.rest.getD k3 default), r, h4), ⟨by dsimp only; omega, J2 ho3 (ht.rst _ hmm), by dsimp only; omega, ?_, hi4, hs3.trans ((kL.app _ _ _).trans hs4)⟩, by dsimp only; omega, rfl, by simp⟩
         dsimp only
         rw [qG (d := default) hlt3, ← he3]
       · have hki3 : ¬ (k3 : Int) < ((t.rest.length : Nat) : Int) := by omega
         have hke3 : t.rest.take k3 = t.rest := aS (by omega)
         rw [hke3, he2] at he3
         refine zh (zf hki3) ?_
         (refine zx0 (zf hki3) ?_; repeat' first | exact trivial | refine zJ ?_ ?_ | refine zH fun hc => ?_)
         rw [e, ← he3]
         exact ⟨hi3, (kL.app _ _ _).trans hs3⟩
   · refine zh (zf h6) ?_
     (refine zx0 (zf h6) ?_; repeat' first | exact trivial | refine zJ ?_ ?_ | refine zH fun hc => ?_)
     refine bT (fun (s : Nat × List LTerm × AV × List AObj) => [.v (s.2.2.1), .k, .k, .k, .k, .k, .k, .k, .j, .k, .k, .k, .k, .k, .k, .k, .k, .k, .k, .k, .k, .k, .k, .k, .k, .k, .k, .k, .k, .k, .k, .k, .k, .k, .k, .k, .k, .v (.i .i64 (s.1 : Nat)), .j, .j, .j, .j, .j, .j, .j, .k, .k, .k, .k, .k, .k, .k, .k, .k, .k, .k, .k]) (fun s => s.2.2.2) (fun s => s.1 ≤ t.kids.length ∧ (∀ x ∈ s.2.1, OkT x) ∧ s.2.1.length + (visL (t.kids.drop s.1) 2).length + (visL t.rest 2).length ≤ 1000000 ∧ s.2.1 = (t.kids.take s.1).foldl zP l ∧ eZ 6 0 s.2.2.2 s.2.2.1 (s.2.1.flatMap aD) s.2.1.length ∧ kL 0 (h ++ [.box false [.i .i64 (t).kind, .i .i64 (t).n, .s (t).text, .s (t).sort, .sl ((t).kids.flatMap aD) (t).kids.length, .sl ((t).rest.flatMap aD) (t).rest.length]]) s.2.2.2) (fun s => t.kids.length - s.1) ((0, l, out, h ++ [.box false [.i .i64 (t).kind, .i .i64 (t).n, .s (t).text, .s (t).sort, .sl ((t).kids.flatMap aD) (t).kids.length, .sl ((t).rest.flatMap aD) (t).rest.length]])) ⟨aG _, hol, (by rw [dJ]; dsimp only; omega), rfl, ho.more _, .refl _ _⟩ rfl (by simp [eQ]) ?_
     rintro ⟨k, l2, out2, H⟩ j ⟨hkl, ho2, hb2, he2, hi2, hs2⟩
     dsimp only at hkl ho2 hb2 he2 hi2 hs2
     by_cases hlt : k < t.kids.length
     · have hki : (k : Int) < ((t.kids.length : Nat) : Int) := by omega
       have hmm := aV (d := default) hlt
       rw [tO hlt, aI, kR _ 2 1] at hb2
       have ci := ih _ (dP _ hmm) l2 out2 (H ++ [.box false [.i .i64 (t.kids.getD k default).kind, .i .i64 (t.kids.getD k default).n, .s (t.kids.getD k default).text, .s (t.kids.getD k default).sort, .sl ((t.kids.getD k default).kids.flatMap aD) (t.kids.getD k default).kids.length, .sl ((t.kids.getD k default).rest.flatMap aD) (t.kids.getD k default).rest.length]]) ho2 (by omega) (hi2.more _)
       simp only [elT, bC, avt] at ci
       refine zh (zt hki) ?_
       (refine zx0 (zt hki) ?_; repeat' first | exact trivial | refine zJ ?_ ?_ | refine zH fun hc => ?_)
       refine eV ci ?_
       rintro r h3 ⟨hi3, hs3⟩
       refine zg ?_
       have hw := wG (l := l2) (t := t.kids.getD k default)
       refine ⟨(k + 1, zP l2 (t.kids.getD k default), r, h3), ⟨by dsimp only; omega, J2 ho2 (ht.kid _ hmm), by dsimp only; omega, ?_, hi3, hs2.trans ((kL.app _ _ _).trans hs3)⟩, by dsimp only; omega, rfl, by simp⟩
       dsimp only
       rw [qG (d := default) hlt, ← he2]
     · have hki : ¬ (k : Int) < ((t.kids.length : Nat) : Int) := by omega
       have hke : t.kids.take k = t.kids := aS (by omega)
       have hd : (visL (t.kids.drop k) 2).length = 0 := by rw [aQ (by omega)]; rfl
       rw [hke] at he2
       have hbx : H[h.length]? = some (.box false [.i .i64 (t).kind, .i .i64 (t).n, .s (t).text, .s (t).sort, .sl ((t).kids.flatMap aD) (t).kids.length, .sl ((t).rest.flatMap aD) (t).rest.length]) := hs2 _ _ (aG _) (by simp)
       refine zh (zA2 (zf hki) hbx) ?_
       (refine zx0 (zA2 (zf hki) hbx) ?_; repeat' first | exact trivial | refine zJ ?_ ?_ | refine zH fun hc => ?_)
       refine bT (fun (s : Nat × List LTerm × AV × List AObj) => [.v (s.2.2.1), .k, .k, .k, .k, .k, .k, .k, .k, .k, .j, .k, .k, .k, .k, .k, .k, .k, .k, .k, .k, .k, .k, .k, .k, .k, .k, .k, .k, .k, .k, .k, .k, .k, .k, .k, .k, .k, .k, .k, .k, .k, .k, .k, .k, .k, .k, .k, .v (.i .i64 (s.1 : Nat)), .j, .j, .j, .j, .j, .j, .j, .k]) (fun s => s.2.2.2) (fun s => s.1 ≤ t.rest.length ∧ (∀ x ∈ s.2.1, OkT x) ∧ s.2.1.length + (visL (t.rest.drop s.1) 2).length ≤ 1000000 ∧ s.2.1 = (t.rest.take s.1).foldl zP l2 ∧ eZ 6 0 s.2.2.2 s.2.2.1 (s.2.1.flatMap aD) s.2.1.length ∧ kL 0 (h ++ [.box false [.i .i64 (t).kind, .i .i64 (t).n, .s (t).text, .s (t).sort, .sl ((t).kids.flatMap aD) (t).kids.length, .sl ((t).rest.flatMap aD) (t).rest.length]]) s.2.2.2) (fun s => t.rest.length - s.1) ((0, l2, out2, H)) ⟨aG _, ho2, (by rw [dJ]; dsimp only; omega), rfl, hi2, hs2⟩ rfl (by simp [eQ]) ?_
       rintro ⟨k3, l3, out3, H3⟩ j3 ⟨hkl3, ho3, hb3, he3, hi3, hs3⟩
       dsimp only at hkl3 ho3 hb3 he3 hi3 hs3
       by_cases hlt3 : k3 < t.rest.length
       · have hki3 : (k3 : Int) < ((t.rest.length : Nat) : Int) := by omega
         have hmm := aV (d := default) hlt3
         rw [tO hlt3, aI, kR _ 2 1] at hb3
         have ci := ih _ (cW _ hmm) l3 out3 (H3 ++ [.box false [.i .i64 (t.rest.getD k3 default).kind, .i .i64 (t.rest.getD k3 default).n, .s (t.rest.getD k3 default).text, .s (t.rest.getD k3 default).sort, .sl ((t.rest.getD k3 default).kids.flatMap aD) (t.rest.getD k3 default).kids.length, .sl ((t.rest.getD k3 default).rest.flatMap aD) (t.rest.getD k3 default).rest.length]]) ho3 (by omega) (hi3.more _)
         simp only [elT, bC, avt] at ci
         refine zh (zt hki3) ?_
         (refine zx0 (zt hki3) ?_; repeat' first | exact trivial | refine zJ ?_ ?_ | refine zH fun hc => ?_)
         refine eV ci ?_
         rintro r h4 ⟨hi4, hs4⟩
         refine zg ?_
         have hw := wG (l := l3) (t := t.rest.getD k3 default)
         refine ⟨(k3 + 1, zP l3 (t.rest.getD k3 default), r, h4), ⟨by dsimp only; omega, J2 ho3 (ht.rst _ hmm), by dsimp only; omega, ?_, hi4, hs3.trans ((kL.app _ _ _).trans hs4)⟩, by dsimp only; omega, rfl, by simp⟩
         dsimp only
         rw [qG (d := default) hlt3, ← he3]
       · have hki3 : ¬ (k3 : Int) < ((t.rest.length : Nat) : Int) := by omega
         have hke3 : t.rest.take k3 = t.rest := aS (by omega)
         rw [hke3, he2] at he3
         refine zh (zf hki3) ?_
         (refine zx0 (zf hki3) ?_; repeat' first | exact trivial | refine zJ ?_ ?_ | refine zH fun hc => ?_)
         rw [e, ← he3]
         exact ⟨hi3, (kL.app _ _ _).trans hs3⟩
theorem so : ∀ (t : LTerm), OkT t → aAu t → ∀ (l : List LTerm) (out : AV) (h : List AObj), (∀ x ∈ l, OkT x) → l.length + (vis t 1).length ≤ 1000000 → eZ 6 0 h out (l.flatMap aD) l.length → ACalls Tryz.prog G0 135 [out, elT t] h (SoK (zP l t) h) :=
 dY (Q := fun t => OkT t → aAu t → ∀ (l : List LTerm) (out : AV) (h : List AObj), (∀ x ∈ l, OkT x) → l.length + (vis t 1).length ≤ 1000000 → eZ 6 0 h out (l.flatMap aD) l.length → ACalls Tryz.prog G0 135 [out, elT t] h (SoK (zP l t) h)) fun t hk hr ht hv l out h hol hl ho => by
   cases hvt : isV t with
   | false =>
     refine so2 t l out h ht hol hv hl hvt ho fun k hm l out h hol hl ho => ?_
     have hvk := hv.kid hm
     rcases bY.1 hm with hm | hm
     · exact hk k hm (ht.kid k hm) hvk l out h hol hl ho
     · exact hr k hm (ht.rst k hm) hvk l out h hol hl ho
   | true =>
     have h6 : t.kind = 6 := by have := hvt; simp only [isV, aB, decide_eq_true_eq] at this; exact this.1
     have h95 : ¬ t.text = [95] := by have := hvt; simp only [isV, aB, cO, decide_eq_false_iff_not] at this; exact this.2
     have e := aOa l t
     rw [hvt, if_pos rfl, (hv.at.1 h6).1, (hv.at.1 h6).2] at e
     rw [e]
     exact so1 t l out h ht hol (by omega) h6 h95 ho



def P1 (s : bX) (t : LTerm) : Bool := cV s && bDu s t
theorem S7 (s : bX) (t : LTerm) (hm : Small s) (hs : OkS s) (ht : OkT t): CT 42 [.agg (aO s), elT t] (.b (P1 s t)) := by
 refine dS (rx := true) (th := fun _ => none) mixed Tryz.func42 g0 ?_
 · simp -implicitDefEqProofs (disch := omega) only [Tryz.f42, go_sem, List.replicate, simprocAttr]
   have c2 := aGh s hm hs
   have c3 := bGj s t hm ht
   rw [P1]
   rcases fE (cV s) with h2 | h2
   · rw [h2] at c2
     (refine zt3 c2 (S5 s hm (gD h2)) c3 ?_; repeat' first | exact trivial | refine zJ ?_ ?_ | refine zH fun hc => ?_)
     all_goals exact aE (by rw [h2]; rfl) rfl
   · rw [h2] at c2
     (refine zt1 c2 ?_; repeat' first | exact trivial | refine zJ ?_ ?_ | refine zH fun hc => ?_)
     all_goals exact aE (by rw [h2]; rfl) rfl

def M8 (s : bX) (t : LTerm) : List LAsk × Int := if P1 s t = true then (dO t [], 0) else ([], 2)
def aDv (r : List LAsk × Int) : AV := .tup [ava r.1, .i .i64 r.2]
theorem tT {s : bX} {t : LTerm} (h : P1 s t = true) : gO dD t = true := by
 rw [P1, bDu, aB, aB] at h; exact h.2.1
theorem wO : ∀ (t : LTerm) (p : List Int), (dO t p).length ≤ nodesT t :=
 dY (Q := fun t => ∀ p : List Int, (dO t p).length ≤ nodesT t) fun t hk _ p => by
   have L : ∀ (l : List LTerm) (i : Nat), (∀ k ∈ l, ∀ p : List Int, (dO k p).length ≤ nodesT k) → (testsL l p i).length ≤ nodesL l := by
     intro l
     induction l with
     | nil => intro i _; simp [testsL, nodesL]
     | cons x l ih => intro i h; rw [testsL, nodesL, aI]; have := h x (by simp) (p ++ [(i : Int)]); have := ih (i + 1) (fun k hk => h k (by simp [hk])); omega
   have e := sS t
   have q := L t.kids 0 hk
   rw [lH]
   split
   · simp only [aK]; omega
   · split
     · simp only [aK]; omega
     · split
       · simp; omega
       · split
         · split <;> simp; omega
         · simp; omega
end Go.Proofs.YtifefbhllfdmlaaGreatDoor

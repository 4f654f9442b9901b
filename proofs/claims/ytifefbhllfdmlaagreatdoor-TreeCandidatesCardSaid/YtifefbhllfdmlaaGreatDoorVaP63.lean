/-
  What functions of the chapter return, as plain functions of what they are given; no condition beyond those that each theorem names.
-/
import Derived.Test.YtifefbhllfdmlaaGreatDoorTeP63
import Derived.Test.YtifefbhllfdmlaaGreatDoorTeP65
import Derived.Test.YtifefbhllfdmlaaGreatDoorVaP62
import Derived.Test.YtifefbhllfdmlaaGreatDoorVaP61
import Derived.Test.YtifefbhllfdmlaaGreatDoorSoP63
set_option maxRecDepth 100000
set_option linter.unusedSimpArgs false
set_option linter.unusedVariables false
set_option maxHeartbeats 4000000
namespace Go.Proofs.YtifefbhllfdmlaaGreatDoor
open Go Go.Vo
open Nat (reduceAdd reduceSub reduceMul reduceLeDiff reduceLT reduceEqDiff)
open Int (reduceNeg)

def aBt (s : cC) (t : LTerm) : Bool := (called s t.text).2.2 && (decide ((called s t.text).1.args.length = t.kids.length) && A8 t.kids.length (fun i => aFr s (jS s (t.kids.getD i default)) ((called s t.text).1.args.getD i [])))
mutual
def nC (s : cC) : LTerm → Bool
 | .mk k n x so ks rs => fitsPL s ks && (if k = 6 then existsA s so else if k = 5 then aBt s (.mk k n x so ks rs) else true)
def fitsPL (s : cC) : List LTerm → Bool
 | [] => true
 | k :: l => nC s k && fitsPL s l
end
theorem S0 {s : cC} : ∀ l, fitsPL s l = l.all (nC s)
 | [] => rfl
 | k :: l => by rw [fitsPL, S0 l]; rfl
theorem aCq (s : cC) (t : LTerm) : nC s t = (t.kids.all (nC s) && (if t.kind = 6 then existsA s t.sort else if t.kind = 5 then aBt s t else true)) := by
 cases t; rw [nC, S0]; rfl
theorem aSe (s : cC) (t : LTerm) (hs : Small s) (ht : OkT t) (ih : ∀ k ∈ t.kids, CT 125 [cN s, elT k] (.b (nC s k))): CT 125 [cN s, elT t] (.b (nC s t)) := by
 refine aF mixed Tryz.func125 g0 ?_
 · skip
   have e := aCq s t
   have hk1 := ht.kids
   have c1 := aLx s t.text
   obtain ⟨⟨q, fn, ok⟩, hq⟩ : ∃ p, called s t.text = p := ⟨_, rfl⟩
   simp only [aBt, hq] at e
   rw [hq] at c1
   (refine zs0 ?_; repeat' first | exact trivial | refine zJ ?_ ?_ | refine zH fun hc => ?_)
   refine eJ (fun (k : Nat) => [.k, .k, .k, .k, .j, .k, .j, .k, .k, .k, .k, .k, .k, .k, .k, .v (.i .i64 (k : Nat)), .j, .j, .j, .j, .j, .j, .j, .j, .k, .k, .k, .k, .k, .k, .k, .k, .k, .k, .k, .k, .k, .k, .k, .k, .k, .k, .k, .k, .k, .k, .k, .k, .k, .k, .k, .k, .k, .k, .k, .k, .k, .k, .k, .k, .k, .k, .k, .k, .k, .k, .k, .k, .k, .k, .k, .k, .k]) (fun k => [.box false [.i .i64 (t).kind, .i .i64 (t).n, .s (t).text, .s (t).sort, .sl ((t).kids.flatMap aC) (t).kids.length, .sl ((t).rest.flatMap aC) (t).rest.length]]) (fun k => k ≤ t.kids.length ∧ ∀ j, j < k → nC s (t.kids.getD j default) = true) (fun k => t.kids.length - k) (0) _ ⟨aG _, fun j h => by omega⟩ rfl (by simp [eN]) ?_
   rintro k g j ⟨hk, ha⟩
   have o : k < t.kids.length → CT 125 [cN s, elT (t.kids.getD k default)] (.b (nC s (t.kids.getD k default))) := fun h => ih _ (bB h)
   refine zg ?_
   (repeat' (first | refine gT ?_ ?_ | refine gF ?_ ?_ | refine gC ?_ ?_ | ((first | (refine aW ((o (by omega))) ?_ ?_; (focus (simp -implicitDefEqProofs (disch := omega) only [pJ, cN, zdB, go_sem, simprocAttr]; done))) | (refine aW (I2 s t.sort) ?_ ?_; (focus (simp -implicitDefEqProofs (disch := omega) only [pJ, cN, zdB, go_sem, simprocAttr]; done))) | (refine aW (c1) ?_ ?_; (focus (simp -implicitDefEqProofs (disch := omega) only [pJ, cN, zdB, go_sem, simprocAttr]; done)))); simp -implicitDefEqProofs (disch := omega) only [pJ, cN, go_sem, simprocAttr]) | refine aV (by omega) ?_ | (intro hr; have hc := hr; (try simp only [zdz] at hc); simp -implicitDefEqProofs (disch := omega) only [hr, pJ, cN, go_sem, simprocAttr]; (try clear hr))))
   all_goals first
     | exact aE (by rw [e, uB k (by omega) hc, Bool.false_and]) rfl
     | exact ⟨k + 1, _, ⟨by omega, aY ha hc⟩, by omega, rfl, by simp⟩
     | skip
   all_goals rw [lG (fun j hj => ha j (by omega)), Bool.true_and] at e
   all_goals first
     | (exfalso; omega)
     | exact aE (by rw [e, if_pos (by assumption)]) rfl
     | exact aE (by rw [e, if_neg (by assumption), if_neg (by assumption)]) rfl
     | exact aE (by rw [e, if_neg (by assumption), if_pos (by omega), show ok = false from hc, Bool.false_and]) rfl
     | exact aE (by rw [e, if_neg (by assumption), if_pos (by omega), zf (by omega : ¬ q.args.length = t.kids.length), Bool.false_and, Bool.and_false]) rfl
     | skip
   have hn : q.args.length = t.kids.length := by omega
   have hok : ok = true := by assumption
   rw [if_neg (by assumption), if_pos (by omega), zt hn, Bool.true_and, hok, Bool.true_and] at e
   refine eJ (fun (k : Nat) => [.k, .k, .k, .k, .j, .k, .k, .k, .k, .k, .j, .j, .k, .k, .k, .k, .k, .k, .k, .k, .k, .k, .k, .k, .k, .k, .k, .k, .k, .k, .k, .k, .k, .k, .k, .k, .k, .k, .k, .k, .k, .k, .k, .k, .k, .k, .k, .k, .k, .k, .k, .k, .k, .k, .k, .k, .v (.i .i64 (k : Nat)), .j, .j, .j, .j, .j, .j, .j, .j, .j, .j, .j, .j, .j, .j, .j, .j]) (fun k => (.box false [.i .i64 (t).kind, .i .i64 (t).n, .s (t).text, .s (t).sort, .sl ((t).kids.flatMap aC) (t).kids.length, .sl ((t).rest.flatMap aC) (t).rest.length] :: (g ++ [.box false (bI q)]))) (fun k => k ≤ t.kids.length ∧ ∀ j, j < k → aFr s (jS s (t.kids.getD j default)) (q.args.getD j []) = true) (fun k => t.kids.length - k) (0) [] ⟨aG _, fun j h => by omega⟩ (by simp [avs, avb, avi, avo, bI, aN]) (by simp [eN]) ?_
   rintro kk g2 j2 ⟨hkk, ha2⟩
   refine zg ?_
   (refine zt2 (aLz s (t.kids.getD kk default)) (bNd s (jS s (t.kids.getD kk default)) (q.args.getD kk []) hs) ?_; repeat' first | exact trivial | refine zJ ?_ ?_ | refine zH fun hc => ?_)
   all_goals first
     | exact aE (by rw [e, fX kk (by omega) hc]) rfl
     | exact ⟨kk + 1, _, ⟨by omega, aY ha2 hc⟩, by omega, rfl, by simp⟩
     | exact aE (by rw [e, jM (fun j hj => ha2 j (by omega))]) rfl
     | (exfalso; omega)
theorem bGy (s : cC) (hs : Small s) : ∀ (t : LTerm), OkT t → CT 125 [cN s, elT t] (.b (nC s t)) :=
 dD fun t hk _ ht => aSe s t hs ht (fun k hm => hk k hm (ht.kid k hm))
theorem aVu (s : cC) (t : LTerm) (hm : Small s) (hs : OkS s) (ht : OkT t): CT 58 [.agg (aN s), elT t] (.b (cU s && kK s t)) := by
 refine aF mixed Tryz.func58 g0 ?_
 · skip
   have c2 := aMd s hm hs
   rcases eQ (cU s) with h2 | h2
   · rw [h2] at c2
     (refine zt3 c2 (aGi s hm (iQ h2)) (aMb s t hm ht) ?_; repeat' first | exact trivial | refine zJ ?_ ?_ | refine zH fun hc => ?_)
     all_goals exact aE (by rw [h2]; rfl) rfl
   · rw [h2] at c2
     (refine zt1 c2 ?_; repeat' first | exact trivial | refine zJ ?_ ?_ | refine zH fun hc => ?_)
     all_goals exact aE (by rw [h2]; rfl) rfl

def PtR (x y : AObj) (b : Bool) (h : List AObj) : Prop := ∃ g, h = x :: y :: .box false [.b b] :: g
theorem bLa (x y : AObj) : bCe 129 [.ptr 2 0] 3 (PtR x y) aQc bKs := by
 refine ⟨?_, ?_, ?_⟩
 · rintro b h z ⟨g, rfl⟩; exact ⟨g ++ z, rfl⟩
 · rintro b h ⟨g, rfl⟩; simp
 · rintro b ⟨t, d⟩ l h hP ho ⟨g, rfl⟩
   have hb := hP (t, d) (by simp)
   refine ⟨hb, fun v hv => hP v (by simp [hv]), ?_⟩
   refine (bRd t d b x y g ho (by have := hb.2.2; dsimp only at this; omega)).mono ?_
   rintro r h' ⟨rfl, z, rfl⟩
   exact ⟨rfl, ⟨g ++ z, rfl⟩, Q6⟩
def aYp (s : cC) (t : LTerm) : Bool := eS cB t && (nC s t && (!vG (aFz s) false (vis t 1) && vG aQc (decide ((pR t).2 = [])) (vis t 1)))
theorem bGd (s : cC) (t : LTerm) (hs : Small s) (ht : OkT t): CT 76 [cN s, elT t] (.b (aYp s t)) := by
 refine aF mixed Tryz.func76 g0 ?_
 · skip
   have c1 := aMa t ht
   have c2 := bGy s hs t ht
   rcases eQ (eS cB t) with hv | hv
   · have c3 := bFt s t ht hv
     have c4 := bFs t ht hv
     rw [hv] at c1
     rw [aYp, hv, Bool.true_and]
     rcases eQ (nC s t) with hf | hf
     · rw [hf] at c2
       rw [hf, Bool.true_and]
       rcases eQ (vG (aFz s) false (vis t 1)) with hn | hn
       · rw [hn] at c3
         (refine zt3 c1 c2 c3 ?_; repeat' first | exact trivial | refine zJ ?_ ?_ | refine zH fun hc => ?_)
         all_goals exact aE (by rw [hn]; rfl) rfl
       · rw [hn] at c3
         rw [hn, Bool.not_false, Bool.true_and]
         generalize pR t = sv at *
         refine zh @dS ?_
         (repeat' (first | refine gT ?_ ?_ | refine gF ?_ ?_ | refine gC ?_ ?_ | ((first | (refine aW (c1) ?_ ?_; (focus (simp -implicitDefEqProofs (disch := omega) only [dS, aQq, zdB, go_sem, ↓reduceIte, reduceAdd, reduceSub, reduceMul, reduceLeDiff, reduceLT, reduceEqDiff, reduceNeg, Nat.reduceBEq]; done))) | (refine aW (c2) ?_ ?_; (focus (simp -implicitDefEqProofs (disch := omega) only [dS, aQq, zdB, go_sem, ↓reduceIte, reduceAdd, reduceSub, reduceMul, reduceLeDiff, reduceLT, reduceEqDiff, reduceNeg, Nat.reduceBEq]; done))) | (refine aW (c3) ?_ ?_; (focus (simp -implicitDefEqProofs (disch := omega) only [dS, aQq, zdB, go_sem, ↓reduceIte, reduceAdd, reduceSub, reduceMul, reduceLeDiff, reduceLT, reduceEqDiff, reduceNeg, Nat.reduceBEq]; done))) | (refine aW (c4) ?_ ?_; (focus (simp -implicitDefEqProofs (disch := omega) only [dS, aQq, zdB, go_sem, ↓reduceIte, reduceAdd, reduceSub, reduceMul, reduceLeDiff, reduceLT, reduceEqDiff, reduceNeg, Nat.reduceBEq]; done)))); simp -implicitDefEqProofs (disch := omega) only [dS, aQq, go_sem, ↓reduceIte, reduceAdd, reduceSub, reduceMul, reduceLeDiff, reduceLT, reduceEqDiff, reduceNeg, Nat.reduceBEq]) | refine aV (by omega) ?_ | (intro hr; have hc := hr; (try simp only [zdz] at hc); simp -implicitDefEqProofs (disch := omega) only [hr, dS, aQq, go_sem, ↓reduceIte, reduceAdd, reduceSub, reduceMul, reduceLeDiff, reduceLT, reduceEqDiff, reduceNeg, Nat.reduceBEq]; (try clear hr))))
         have cw := fun (b : Bool) => aXd (bLa (.box false [.i .i64 (t).kind, .i .i64 (t).n, .s (t).text, .s (t).sort, .sl ((t).kids.flatMap aC) (t).kids.length, .sl ((t).rest.flatMap aC) (t).rest.length]) (.arr true 6 [.i .i64 (t).kind, .i .i64 (t).n, .s (t).text, .s (t).sort, .sl ((t).kids.flatMap aC) (t).kids.length, .sl ((t).rest.flatMap aC) (t).rest.length])) (fun a => ⟨_, [], rfl⟩) t ht 1 b [] _ ⟨[], rfl⟩ (aHl (a := false) hv)
         simp only [elT, bA, avt] at cw
         refine eO (cw _) ?_
         rintro r h' ⟨rfl, ⟨g, rfl⟩, _⟩
         refine zg ?_
         exact aE rfl rfl
     · rw [hf] at c2
       (refine zt2 c1 c2 ?_; repeat' first | exact trivial | refine zJ ?_ ?_ | refine zH fun hc => ?_)
       all_goals exact aE (by rw [hf]; rfl) rfl
   · rw [hv] at c1
     (refine zt1 c1 ?_; repeat' first | exact trivial | refine zJ ?_ ?_ | refine zH fun hc => ?_)
     all_goals exact aE (by rw [aYp, hv]; rfl) rfl

theorem aWt {l : List LTerm} {f : LTerm → Bool} {k : Nat} (hk : k < l.length) (h : f (l.getD k default) = true) : l.any f = true := mW.2 ⟨_, bB hk, h⟩
theorem aWs {l : List LTerm} {f : LTerm → Bool} (h : ∀ j, j < l.length → f (l.getD j default) = false) : l.any f = false := by
 rw [jC]
 intro x hx
 obtain ⟨j, hj, rfl⟩ := bL.1 hx
 have := h j hj
 simpa [List.getD, hj] using this
theorem kD {f : Nat → Bool} {k : Nat} (h : ∀ j, j < k → f j = false) (hk : f k = false) : ∀ j, j < k + 1 → f j = false := fun j hj => by
 rcases Nat.lt_succ_iff_lt_or_eq.1 hj with h1 | rfl
 · exact h j h1
 · exact hk
theorem aRz (s : cC) (t : LTerm) (hm : Small s) (ht : OkT t) (ih : ∀ k ∈ t.kids, CT 133 [.agg (aN s), elT k] (.b (nY s k))): CT 133 [.agg (aN s), elT t] (.b (nY s t)) := by
 refine aF mixed Tryz.func133 g0 ?_
 · skip
   have e := aCl s t
   have hk1 := ht.kids
   have c1 := aDl s.ops t.text (by have := hm.ops; omega)
   have o : ∀ k, k < t.kids.length → CT 133 [.agg (aN s), elT (t.kids.getD k default)] (.b (nY s (t.kids.getD k default))) := fun k h => ih _ (bB h)
   by_cases h5 : t.kind = 5
   · cases hf : s.ops.find? fun o => decide (o.name = t.text) with
     | none =>
       rw [hf] at c1 e
       refine zh (zt h5) ?_
       (repeat' (first | refine gT ?_ ?_ | refine gF ?_ ?_ | refine gC ?_ ?_ | ((refine aW (c1) ?_ ?_; (focus (simp -implicitDefEqProofs (disch := omega) only [zt h5, fS, zdB, go_sem, simprocAttr]; done))); simp -implicitDefEqProofs (disch := omega) only [zt h5, fS, go_sem, simprocAttr]) | refine aV (by omega) ?_ | (intro hr; have hc := hr; (try simp only [zdz] at hc); simp -implicitDefEqProofs (disch := omega) only [hr, zt h5, fS, go_sem, simprocAttr]; (try clear hr))))
       all_goals exact aE (by rw [e, zt h5]; rfl) rfl
     | some q =>
       rw [hf] at c1 e
       rw [gM, Bool.and_false, cI] at e
       refine zh (zt h5) ?_
       (repeat' (first | refine gT ?_ ?_ | refine gF ?_ ?_ | refine gC ?_ ?_ | ((refine aW (c1) ?_ ?_; (focus (simp -implicitDefEqProofs (disch := omega) only [zt h5, fS, zdB, go_sem, simprocAttr]; done))); simp -implicitDefEqProofs (disch := omega) only [zt h5, fS, go_sem, simprocAttr]) | refine aV (by omega) ?_ | (intro hr; have hc := hr; (try simp only [zdz] at hc); simp -implicitDefEqProofs (disch := omega) only [hr, zt h5, fS, go_sem, simprocAttr]; (try clear hr))))
       refine eJ (fun (k : Nat) => [.k, .k, .k, .k, .j, .k, .k, .k, .j, .k, .k, .k, .k, .k, .k, .k, .k, .k, .k, .k, .k, .k, .k, .k, .k, .v (.i .i64 (k : Nat)), .j, .j, .j, .j, .j, .j, .j]) (fun k => [.box false (aN s), .box false [.i .i64 (t).kind, .i .i64 (t).n, .s (t).text, .s (t).sort, .sl ((t).kids.flatMap aC) (t).kids.length, .sl ((t).rest.flatMap aC) (t).rest.length]]) (fun k => k ≤ t.kids.length ∧ ∀ j, j < k → nY s (t.kids.getD j default) = false) (fun k => t.kids.length - k) (0) _ ⟨aG _, fun j h => by omega⟩ rfl (by simp [eN]) ?_
       rintro k g j ⟨hk, ha⟩
       refine zg ?_
       (refine zt1 (o k) ?_; repeat' first | exact trivial | refine zJ ?_ ?_ | refine zH fun hc => ?_)
       all_goals first
         | exact aE (by rw [e, aWt (by omega) hc]) rfl
         | exact ⟨k + 1, _, ⟨by omega, kD ha hc⟩, by omega, rfl, by simp⟩
         | exact aE (by rw [e, aWs (fun j hj => ha j (by omega))]) rfl
         | (exfalso; omega)
   · rw [zf h5, Bool.false_and, cI] at e
     refine zh (zf h5) ?_
     (refine zx0 (zf h5) ?_; repeat' first | exact trivial | refine zJ ?_ ?_ | refine zH fun hc => ?_)
     refine eJ (fun (k : Nat) => [.k, .k, .k, .k, .j, .k, .k, .k, .j, .k, .k, .k, .k, .k, .k, .k, .k, .k, .k, .k, .k, .k, .k, .k, .k, .v (.i .i64 (k : Nat)), .j, .j, .j, .j, .j, .j, .j]) (fun k => [.box false (aN s), .box false [.i .i64 (t).kind, .i .i64 (t).n, .s (t).text, .s (t).sort, .sl ((t).kids.flatMap aC) (t).kids.length, .sl ((t).rest.flatMap aC) (t).rest.length]]) (fun k => k ≤ t.kids.length ∧ ∀ j, j < k → nY s (t.kids.getD j default) = false) (fun k => t.kids.length - k) (0) _ ⟨aG _, fun j h => by omega⟩ rfl (by simp [eN]) ?_
     rintro k g j ⟨hk, ha⟩
     refine zg ?_
     (refine zt1 (o k) ?_; repeat' first | exact trivial | refine zJ ?_ ?_ | refine zH fun hc => ?_)
     all_goals first
       | exact aE (by rw [e, aWt (by omega) hc]) rfl
       | exact ⟨k + 1, _, ⟨by omega, kD ha hc⟩, by omega, rfl, by simp⟩
       | exact aE (by rw [e, aWs (fun j hj => ha j (by omega))]) rfl
       | (exfalso; omega)
theorem aVl (s : cC) (hm : Small s) : ∀ (t : LTerm), OkT t → CT 133 [.agg (aN s), elT t] (.b (nY s t)) :=
 dD fun t hk _ ht => aRz s t hm ht (fun k hmm => hk k hmm (ht.kid k hmm))
theorem aRy (t : LTerm) (ht : OkT t) (ih : ∀ k ∈ t.kids, CT 134 [elT k] (.b (nW k))): CT 134 [elT t] (.b (nW t)) := by
 refine aF mixed Tryz.func134 g0 ?_
 · skip
   have e := aCj t
   obtain ⟨b8, hb8⟩ : ∃ b, decide (t.kind = 8) = b := ⟨_, rfl⟩
   rw [hb8] at e
   have hk1 := ht.kids
   have o : ∀ k, k < t.kids.length → CT 134 [elT (t.kids.getD k default)] (.b (nW (t.kids.getD k default))) := fun k h => ih _ (bB h)
   have q : ∀ k, k < t.kids.length → OkT (t.kids.getD k default) := fun k h => ht.kid _ (bB h)
   (refine zs0 ?_; repeat' first | exact trivial | refine zJ ?_ ?_ | refine zH fun hc => ?_)
   refine eJ (fun (k : Nat) => [.k, .k, .j, .j, .j, .k, .k, .k, .v (.i .i64 (k : Nat)), .j, .j, .j, .j, .j, .j, .j, .j, .j, .j, .j, .j, .j, .j, .j, .j, .j, .j, .j, .j, .j, .j, .j, .j, .j, .j, .j, .j, .j, .j, .j, .j]) (fun k => [.box false [.i .i64 (t).kind, .i .i64 (t).n, .s (t).text, .s (t).sort, .sl ((t).kids.flatMap aC) (t).kids.length, .sl ((t).rest.flatMap aC) (t).rest.length]]) (fun k => k ≤ t.kids.length ∧ ∀ j, j < k → (nW (t.kids.getD j default) && aUz b8 j (t.kids.getD j default)) = true) (fun k => t.kids.length - k) (0) _ ⟨aG _, fun j h => by omega⟩ rfl (by simp [eN]) ?_
   rintro k g j ⟨hk, ha⟩
   have hmod : ((k : Nat) : Int).tmod 2 = ((k % 2 : Nat) : Int) := rfl
   refine zh hmod ?_
   (repeat' (first | refine gT ?_ ?_ | refine gF ?_ ?_ | refine gC ?_ ?_ | ((first | (refine aW ((o k (by omega))) ?_ ?_; (focus (simp -implicitDefEqProofs (disch := omega) only [hmod, Int.reduceEq, zdB, go_sem, simprocAttr]; done))) | refine cF (aWh (t.kids.getD k default)) ?_ | refine cF (I3 (t.kids.getD k default).text (q k (by omega)).text) ?_); simp -implicitDefEqProofs (disch := omega) only [hmod, Int.reduceEq, go_sem, simprocAttr]) | refine aV (by omega) ?_ | (intro hr; have hc := hr; (try simp only [zdz] at hc); simp -implicitDefEqProofs (disch := omega) only [hr, hmod, Int.reduceEq, go_sem, simprocAttr]; (try clear hr))))
   all_goals try simp only [Int.natCast_eq_zero] at *
   all_goals first
     | exact aE (by rw [e, fX k (by omega) (by simp_all [aUz])]) rfl
     | exact ⟨k + 1, _, ⟨by omega, aY ha (by simp_all [aUz])⟩, by omega, rfl, by simp⟩
     | exact aE (by rw [e, jM (fun j hj => ha j (by omega))]) rfl
theorem aVk : ∀ (t : LTerm), OkT t → CT 134 [elT t] (.b (nW t)) :=
 dD fun t hk _ ht => aRy t ht (fun k hmm => hk k hmm (ht.kid k hmm))

theorem xB : ∀ (t : LTerm) (d e : Int), (vis t d).map (·.1) = (vis t e).map (·.1) :=
 dD (Q := fun t => ∀ d e : Int, (vis t d).map (·.1) = (vis t e).map (·.1)) fun t hk hr d e => by
   have L : ∀ (l : List LTerm) (d e : Int), (∀ k ∈ l, ∀ d e : Int, (vis k d).map (·.1) = (vis k e).map (·.1)) → (visL l d).map (·.1) = (visL l e).map (·.1) := by
     intro l
     induction l with
     | nil => intro d e _; rfl
     | cons x l ih => intro d e h; rw [visL, visL, aT, aT, h x (by simp) d e, ih d e (fun k hk => h k (by simp [hk]))]
   rw [lM, lM, aU, aU, L (t.kids ++ t.rest) (d + 1) (e + 1) fun k hm => by
     rcases bJ.1 hm with hm | hm
     · exact hk k hm
     · exact hr k hm]
def rK (l : List LTerm) (t : LTerm) : List LTerm := (zU t).foldl wR l
theorem aNs (l : List LTerm) (t : LTerm) : rK l t = t.rest.foldl rK (t.kids.foldl rK (if isV t = true then wR l t else l)) := by
 have L : ∀ (ks : List LTerm) (d : Int) (l : List LTerm), (((visL ks d).map (·.1)).filter isV).foldl wR l = ks.foldl rK l := by
   intro ks
   induction ks with
   | nil => intro d l; rfl
   | cons x ks ih =>
     intro d l
     rw [visL, aT, wV, lH, ih, hJ, rK, zU, xB x d 1]
 rw [rK, zU, lM, iX, aU, aT, eZ]
 split
 · rw [hJ, wV, lH, L, L]
 · rw [wV, lH, L, L]
def mC (t : LTerm) : Prop := ∀ v ∈ vis t 1, (v.1.kind = 6 → v.1.kids = [] ∧ v.1.rest = []) ∧ v.1.kids.length + v.1.rest.length ≤ 1000000
theorem mC.at {t : LTerm} (h : mC t) : (t.kind = 6 → t.kids = [] ∧ t.rest = []) ∧ t.kids.length + t.rest.length ≤ 1000000 := h (t, 1) (by rw [lM]; simp)
theorem mC.kid {t k : LTerm} (h : mC t) (hk : k ∈ t.kids ++ t.rest) : mC k := by
 intro v hv
 have L : ∀ (l : List LTerm) (d : Int), k ∈ l → ∃ w ∈ visL l d, w.1 = v.1 := by
   intro l
   induction l with
   | nil => intro d h; cases h
   | cons x l ih =>
     intro d h
     rw [visL]
     rcases bV.1 h with rfl | h
     · have hm : v.1 ∈ (vis k d).map (·.1) := by rw [xB k d 1]; exact dI.2 ⟨v, hv, rfl⟩
       obtain ⟨w, hw, he⟩ := dI.1 hm
       exact ⟨w, cH _ hw, he⟩
     · obtain ⟨w, hw, he⟩ := ih d h
       exact ⟨w, cP _ hw, he⟩
 obtain ⟨w, hw, he⟩ := L (t.kids ++ t.rest) 2 hk
 rw [← he]
 exact h w (by rw [lM]; exact iW _ hw)
theorem kW (t : LTerm) (d e : Int) : (vis t d).length = (vis t e).length := by
 have := congrArg List.length (xB t d e); simpa using this
theorem aTp {l : List LTerm} {t : LTerm} : (wR l t).length ≤ l.length + 1 := by unfold wR; split <;> simp
abbrev SoK (l' : List LTerm) (h : List AObj) : AV → List AObj → Prop := fun r h' => eP 6 0 h' r (l'.flatMap aC) l'.length ∧ kF 0 h h'
theorem so1 (t : LTerm) (l : List LTerm) (out : AV) (h : List AObj) (ht : OkT t) (hol : ∀ x ∈ l, OkT x) (hl : l.length ≤ 1000000) (h6 : t.kind = 6) (h95 : ¬ t.text = [95]) (ho : eP 6 0 h out (l.flatMap aC) l.length): ACalls Tryz.prog G0 135 [out, elT t] h (SoK (wR l t) h) := by
 refine dH (rx := false) (th := fun _ => none) mixed Tryz.func135 ?_
 · simp -implicitDefEqProofs (disch := omega) only [Tryz.f135, go_sem, List.replicate, ↓reduceIte, reduceAdd, reduceSub, reduceMul, reduceLeDiff, reduceLT, reduceEqDiff, reduceNeg, Nat.reduceBEq]
   have hk0 : ∀ m : List AObj, kF 0 h (h ++ m) := fun m => .app _ _ _
   rcases ho with ⟨rfl, hc, hn⟩ | ⟨i, rfl, hi, hil⟩
   · obtain rfl : l = [] := List.length_eq_zero_iff.1 hn
     have e : wR ([] : List LTerm) t = [t] := by simp [wR]
     rw [e]
     refine zh (zA2 (zt h6) (zf h95)) ?_
     (refine zx0 (zA2 (zt h6) (zf h95)) ?_; repeat' first | exact trivial | refine zJ ?_ ?_ | refine zH fun hc => ?_)
     refine bP (fun (s : Nat) => [.k, .k, .k, .k, .j, .k, .j, .k, .k, .k, .k, .k, .k, .k, .k, .k, .k, .k, .k, .k, .k, .v (.i .i64 (0 : Int)), .j, .j, .j, .j, .j, .j, .j, .j, .k, .k, .k, .k, .k, .k, .k, .k, .k, .k, .k, .k, .k, .k, .k, .k, .k, .k, .k, .k, .k, .k, .k, .k, .k, .k, .k]) (fun s => (h ++ [.box false [.i .i64 (t).kind, .i .i64 (t).n, .s (t).text, .s (t).sort, .sl ((t).kids.flatMap aC) (t).kids.length, .sl ((t).rest.flatMap aC) (t).rest.length]])) (fun s => True) (fun s => s) (0) trivial rfl (by simp [eN]) ?_
     rintro s j _
     simp -implicitDefEqProofs (disch := omega) only [go_sem, ↓reduceIte, reduceAdd, reduceSub, reduceMul, reduceLeDiff, reduceLT, reduceEqDiff, reduceNeg, Nat.reduceBEq]
     (repeat' (first | refine gT ?_ ?_ | refine gF ?_ ?_ | refine gC ?_ ?_ | refine aV (by omega) ?_ | (intro hr; have hc := hr; (try simp only [zdz] at hc); simp -implicitDefEqProofs (disch := omega) only [hr, dS, go_sem, ↓reduceIte, reduceAdd, reduceSub, reduceMul, reduceLeDiff, reduceLT, reduceEqDiff, reduceNeg, Nat.reduceBEq]; (try clear hr))))
     all_goals first
       | (exfalso; omega)
       | exact ⟨.inr ⟨h.length + 2, rfl, by simp [bA, avt], by simp [bA]⟩, hk0 _⟩
   · have hi2 : ∀ m : List AObj, (h ++ m)[i]? = some (.arr false 6 (l.flatMap aC)) := fun m => by rw [aD (aO hi)]; exact hi
     refine zh (zA2 (zt h6) (zA2 (zf h95) hi2)) ?_
     (refine zx0 (zA2 (zt h6) (zA2 (zf h95) hi2)) ?_; repeat' first | exact trivial | refine zJ ?_ ?_ | refine zH fun hc => ?_)
     refine bP (fun (s : Nat × List AObj) => [.k, .k, .k, .k, .j, .k, .j, .k, .k, .k, .k, .k, .k, .k, .k, .k, .k, .k, .k, .k, .k, .v (.i .i64 (s.1 : Nat)), .j, .j, .j, .j, .j, .j, .j, .j, .k, .k, .k, .k, .k, .k, .k, .k, .k, .k, .k, .k, .k, .k, .k, .k, .k, .k, .k, .k, .k, .k, .k, .k, .k, .k, .k]) (fun s => (h ++ (.box false [.i .i64 (t).kind, .i .i64 (t).n, .s (t).text, .s (t).sort, .sl ((t).kids.flatMap aC) (t).kids.length, .sl ((t).rest.flatMap aC) (t).rest.length] :: s.2))) (fun s => s.1 ≤ l.length ∧ ∀ j, j < s.1 → ¬ l.getD j default = t) (fun s => l.length - s.1) ((0, [])) ⟨aG _, fun j h => by omega⟩ rfl (by simp [eN]) ?_
     rintro ⟨k, z⟩ j ⟨hk, ha⟩
     dsimp only at hk ha
     by_cases hlt : k < l.length
     · have hki : (k : Int) < ((l.length : Nat) : Int) := by omega
       have cs := aDk (l.getD k default) t (hol _ (bB hlt)) ht
       refine zh (zA2 (zt hki) hi2) ?_
       (refine zy1 (zA2 (zt hki) hi2) cs ?_; repeat' first | exact trivial | refine zJ ?_ ?_ | refine zH fun hc => ?_)
       all_goals first
         | exact ⟨(k + 1, z ++ [.box false [.i .i64 (l.getD k default).kind, .i .i64 (l.getD k default).n, .s (l.getD k default).text, .s (l.getD k default).sort, .sl ((l.getD k default).kids.flatMap aC) (l.getD k default).kids.length, .sl ((l.getD k default).rest.flatMap aC) (l.getD k default).rest.length]]), ⟨by dsimp only; omega, fun j hj => (by rcases Nat.lt_succ_iff_lt_or_eq.1 hj with h1 | rfl; exact ha j h1; exact hc)⟩, by dsimp only; omega, by simp, by simp⟩
         | skip
       have e : wR l t = l := by unfold wR; rw [if_pos (hc ▸ bB hlt)]
       rw [e]
       exact ⟨.inr ⟨i, rfl, hi2 _, hil⟩, hk0 _⟩
     · have hki : ¬ (k : Int) < ((l.length : Nat) : Int) := by omega
       have hb1 : (l.length + 1) * 96 ≤ 140737488355328 := by omega
       have hb2 : l.length ≤ 140737488355327 := by omega
       have hlt2 := aO hi
       have hkl : k = l.length := by omega
       have e : wR l t = l ++ [t] := by
         unfold wR
         rw [if_neg]
         intro hm
         obtain ⟨j, hj, he⟩ := bL.1 hm
         exact ha j (by omega) (by simp [List.getD, hj, he])
       rw [e]
       simp -implicitDefEqProofs (disch := omega) only [zf hki, hi2, dS, hil, hb1, hb2, aZ, true_and, and_true, go_sem, ↓reduceIte, reduceAdd, reduceSub, reduceMul, reduceLeDiff, reduceLT, reduceEqDiff, reduceNeg, Nat.reduceBEq]
       refine ⟨.inr ⟨h.length + (z.length + 1 + 1), by simp, ?_, ?_⟩, fun i' y _ hy => ?_⟩
       · rw [aI (by simp)]; simp [bA, avt]
       · simp [bA, hil]; omega
       · have hne : i ≠ i' := by rintro rfl; rw [hi] at hy; cases hy
         have hl' := aO hy
         rw [aD (by simp; omega), cW hne, aD hl']; exact hy
theorem qR {α β : Type} {f : α → β → α} {a : α} {l : List β} {k : Nat} {d : β} (h : k < l.length) : (l.take (k + 1)).foldl f a = f ((l.take k).foldl f a) (l.getD k d) := by
 rw [pK h, lH]; simp [List.getD, h]
theorem uD {l : List LTerm} {t : LTerm} : (rK l t).length ≤ l.length + (vis t 1).length := by
 have L : ∀ (m : List LTerm) (l : List LTerm), (m.foldl wR l).length ≤ l.length + m.length := by
   intro m
   induction m with
   | nil => intro l; simp
   | cons x m ih => intro l; have := ih (wR l x); have := aTp (l := l) (t := x); simp only [hJ, aQ]; omega
 have := L (zU t) l
 have h2 : (zU t).length ≤ (vis t 1).length := by
   have := List.length_filter_le isV ((vis t 1).map (·.1))
   simpa [zU] using this
 unfold rK; omega
theorem J5 {l : List LTerm} {t : LTerm} (hl : ∀ x ∈ l, OkT x) (ht : OkT t) : ∀ x ∈ rK l t, OkT x := by
 have L : ∀ (m l : List LTerm), (∀ x ∈ l, OkT x) → (∀ x ∈ m, OkT x) → ∀ x ∈ m.foldl wR l, OkT x := by
   intro m
   induction m with
   | nil => intro l h _; exact h
   | cons y m ih =>
     intro l h hm
     refine ih _ (fun x hx => ?_) (fun x hx => hm x (by simp [hx]))
     unfold wR at hx
     split at hx
     · exact h x hx
     · rcases bJ.1 hx with hx | hx
       · exact h x hx
       · rw [bC] at hx; rw [hx]; exact hm y (by simp)
 refine L _ _ hl fun x hx => ?_
 have hx := (oX.1 hx).1
 obtain ⟨v, hv, rfl⟩ := dI.1 hx
 exact aUf t ht 1 v hv
theorem so2 (t : LTerm) (l : List LTerm) (out : AV) (h : List AObj) (ht : OkT t) (hol : ∀ x ∈ l, OkT x) (hvl : mC t) (hl : l.length + (vis t 1).length ≤ 1000000) (hnv : isV t = false) (ho : eP 6 0 h out (l.flatMap aC) l.length) (ih : ∀ k ∈ t.kids ++ t.rest, ∀ (l : List LTerm) (out : AV) (h : List AObj), (∀ x ∈ l, OkT x) → l.length + (vis k 1).length ≤ 1000000 → eP 6 0 h out (l.flatMap aC) l.length → ACalls Tryz.prog G0 135 [out, elT k] h (SoK (rK l k) h)): ACalls Tryz.prog G0 135 [out, elT t] h (SoK (rK l t) h) := by
 refine dH (rx := false) (th := fun _ => none) mixed Tryz.func135 ?_
 · simp -implicitDefEqProofs (disch := omega) only [Tryz.f135, go_sem, List.replicate, ↓reduceIte, reduceAdd, reduceSub, reduceMul, reduceLeDiff, reduceLT, reduceEqDiff, reduceNeg, Nat.reduceBEq]
   have e := aNs l t
   rw [hnv, if_neg (by simp)] at e
   have hk := hvl.at.2
   have hcond : (decide (t.kind = 6) && !decide (t.text = [95])) = false := hnv
   rw [lM, aQ, iX, aH, show (1 : Int) + 1 = 2 from rfl] at hl
   by_cases h6 : t.kind = 6
   · have h95 : t.text = [95] := by simpa [h6] using hcond
     refine zh (zA2 (zt h6) (zt h95)) ?_
     (refine zx0 (zA2 (zt h6) (zt h95)) ?_; repeat' first | exact trivial | refine zJ ?_ ?_ | refine zH fun hc => ?_)
     refine bP (fun (s : Nat × List LTerm × AV × List AObj) => [.v (s.2.2.1), .k, .k, .k, .k, .k, .k, .k, .j, .k, .k, .k, .k, .k, .k, .k, .k, .k, .k, .k, .k, .k, .k, .k, .k, .k, .k, .k, .k, .k, .k, .k, .k, .k, .k, .k, .k, .v (.i .i64 (s.1 : Nat)), .j, .j, .j, .j, .j, .j, .j, .k, .k, .k, .k, .k, .k, .k, .k, .k, .k, .k, .k]) (fun s => s.2.2.2) (fun s => s.1 ≤ t.kids.length ∧ (∀ x ∈ s.2.1, OkT x) ∧ s.2.1.length + (visL (t.kids.drop s.1) 2).length + (visL t.rest 2).length ≤ 1000000 ∧ s.2.1 = (t.kids.take s.1).foldl rK l ∧ eP 6 0 s.2.2.2 s.2.2.1 (s.2.1.flatMap aC) s.2.1.length ∧ kF 0 (h ++ [.box false [.i .i64 (t).kind, .i .i64 (t).n, .s (t).text, .s (t).sort, .sl ((t).kids.flatMap aC) (t).kids.length, .sl ((t).rest.flatMap aC) (t).rest.length]]) s.2.2.2) (fun s => t.kids.length - s.1) ((0, l, out, h ++ [.box false [.i .i64 (t).kind, .i .i64 (t).n, .s (t).text, .s (t).sort, .sl ((t).kids.flatMap aC) (t).kids.length, .sl ((t).rest.flatMap aC) (t).rest.length]])) ⟨aG _, hol, (by rw [dG]; dsimp only; omega), rfl, ho.more _, .refl _ _⟩ rfl (by simp [eN]) ?_
     rintro ⟨k, l2, out2, H⟩ j ⟨hkl, ho2, hb2, he2, hi2, hs2⟩
     dsimp only at hkl ho2 hb2 he2 hi2 hs2
     by_cases hlt : k < t.kids.length
     · have hki : (k : Int) < ((t.kids.length : Nat) : Int) := by omega
       have hmm := bB (d := default) hlt
       rw [uF hlt, aH, kW _ 2 1] at hb2
       have ci := ih _ (cH _ hmm) l2 out2 (H ++ [.box false [.i .i64 (t.kids.getD k default).kind, .i .i64 (t.kids.getD k default).n, .s (t.kids.getD k default).text, .s (t.kids.getD k default).sort, .sl ((t.kids.getD k default).kids.flatMap aC) (t.kids.getD k default).kids.length, .sl ((t.kids.getD k default).rest.flatMap aC) (t.kids.getD k default).rest.length]]) ho2 (by omega) (hi2.more _)
       simp only [elT, bA, avt] at ci
       refine zh (zt hki) ?_
       (refine zx0 (zt hki) ?_; repeat' first | exact trivial | refine zJ ?_ ?_ | refine zH fun hc => ?_)
       refine eO ci ?_
       rintro r h3 ⟨hi3, hs3⟩
       refine zg ?_
       have hw := uD (l := l2) (t := t.kids.getD k default)
       refine ⟨(k + 1, rK l2 (t.kids.getD k default), r, h3), ⟨by dsimp only; omega, J5 ho2 (ht.kid _ hmm), by dsimp only; omega, ?_, hi3, hs2.trans ((kF.app _ _ _).trans hs3)⟩, by dsimp only; omega, rfl, by simp⟩
       dsimp only
       rw [qR (d := default) hlt, ← he2]
     · have hki : ¬ (k : Int) < ((t.kids.length : Nat) : Int) := by omega
       have hke : t.kids.take k = t.kids := aJ (by omega)
       have hd : (visL (t.kids.drop k) 2).length = 0 := by rw [bF (by omega)]; rfl
       rw [hke] at he2
       have hbx : H[h.length]? = some (.box false [.i .i64 (t).kind, .i .i64 (t).n, .s (t).text, .s (t).sort, .sl ((t).kids.flatMap aC) (t).kids.length, .sl ((t).rest.flatMap aC) (t).rest.length]) := hs2 _ _ (aG _) (by simp)
       refine zh (zA2 (zf hki) hbx) ?_
       (refine zx0 (zA2 (zf hki) hbx) ?_; repeat' first | exact trivial | refine zJ ?_ ?_ | refine zH fun hc => ?_)
       refine bP (fun (s : Nat × List LTerm × AV × List AObj) => [.v (s.2.2.1), .k, .k, .k, .k, .k, .k, .k, .k, .k, .j, .k, .k, .k, .k, .k, .k, .k, .k, .k, .k, .k, .k, .k, .k, .k, .k, .k, .k, .k, .k, .k, .k, .k, .k, .k, .k, .k, .k, .k, .k, .k, .k, .k, .k, .k, .k, .k, .v (.i .i64 (s.1 : Nat)), .j, .j, .j, .j, .j, .j, .j, .k]) (fun s => s.2.2.2) (fun s => s.1 ≤ t.rest.length ∧ (∀ x ∈ s.2.1, OkT x) ∧ s.2.1.length + (visL (t.rest.drop s.1) 2).length ≤ 1000000 ∧ s.2.1 = (t.rest.take s.1).foldl rK l2 ∧ eP 6 0 s.2.2.2 s.2.2.1 (s.2.1.flatMap aC) s.2.1.length ∧ kF 0 (h ++ [.box false [.i .i64 (t).kind, .i .i64 (t).n, .s (t).text, .s (t).sort, .sl ((t).kids.flatMap aC) (t).kids.length, .sl ((t).rest.flatMap aC) (t).rest.length]]) s.2.2.2) (fun s => t.rest.length - s.1) ((0, l2, out2, H)) ⟨aG _, ho2, (by rw [dG]; dsimp only; omega), rfl, hi2, hs2⟩ rfl (by simp [eN]) ?_
       rintro ⟨k3, l3, out3, H3⟩ j3 ⟨hkl3, ho3, hb3, he3, hi3, hs3⟩
       dsimp only at hkl3 ho3 hb3 he3 hi3 hs3
       by_cases hlt3 : k3 < t.rest.length
       · have hki3 : (k3 : Int) < ((t.rest.length : Nat) : Int) := by omega
         have hmm := bB (d := default) hlt3
         rw [uF hlt3, aH, kW _ 2 1] at hb3
         have ci := ih _ (cP _ hmm) l3 out3 (H3 ++ [.box false [.i .i64 (t.rest.getD k3 default).kind, .i .i64 (t.rest.getD k3 default).n, .s (t.rest.getD k3 default).text, .s (t.rest.getD k3 default).sort, .sl ((t.rest.getD k3 default).kids.flatMap aC) (t.rest.getD k3 default).kids.length, .sl ((t.rest.getD k3 default).rest.flatMap aC) (t.rest.getD k3 default).rest.length]]) ho3 (by omega) (hi3.more _)
         simp only [elT, bA, avt] at ci
         refine zh (zt hki3) ?_
         (refine zx0 (zt hki3) ?_; repeat' first | exact trivial | refine zJ ?_ ?_ | refine zH fun hc => ?_)
         refine eO ci ?_
         rintro r h4 ⟨hi4, hs4⟩
         refine zg ?_
         have hw := uD (l := l3) (t := t.rest.getD k3 default)
         refine ⟨(k3 + 1, rK l3 (t.rest.getD k3 default), r, h4), ⟨by dsimp only; omega, J5 ho3 (ht.rst _ hmm), by dsimp only; omega, ?_, hi4, hs3.trans ((kF.app _ _ _).trans hs4)⟩, by dsimp only; omega, rfl, by simp⟩
         dsimp only
         rw [qR (d := default) hlt3, ← he3]
       · have hki3 : ¬ (k3 : Int) < ((t.rest.length : Nat) : Int) := by omega
         have hke3 : t.rest.take k3 = t.rest := aJ (by omega)
         rw [hke3, he2] at he3
         refine zh (zf hki3) ?_
         (refine zx0 (zf hki3) ?_; repeat' first | exact trivial | refine zJ ?_ ?_ | refine zH fun hc => ?_)
         rw [e, ← he3]
         exact ⟨hi3, (kF.app _ _ _).trans hs3⟩
   · refine zh (zf h6) ?_
     (refine zx0 (zf h6) ?_; repeat' first | exact trivial | refine zJ ?_ ?_ | refine zH fun hc => ?_)
     refine bP (fun (s : Nat × List LTerm × AV × List AObj) => [.v (s.2.2.1), .k, .k, .k, .k, .k, .k, .k, .j, .k, .k, .k, .k, .k, .k, .k, .k, .k, .k, .k, .k, .k, .k, .k, .k, .k, .k, .k, .k, .k, .k, .k, .k, .k, .k, .k, .k, .v (.i .i64 (s.1 : Nat)), .j, .j, .j, .j, .j, .j, .j, .k, .k, .k, .k, .k, .k, .k, .k, .k, .k, .k, .k]) (fun s => s.2.2.2) (fun s => s.1 ≤ t.kids.length ∧ (∀ x ∈ s.2.1, OkT x) ∧ s.2.1.length + (visL (t.kids.drop s.1) 2).length + (visL t.rest 2).length ≤ 1000000 ∧ s.2.1 = (t.kids.take s.1).foldl rK l ∧ eP 6 0 s.2.2.2 s.2.2.1 (s.2.1.flatMap aC) s.2.1.length ∧ kF 0 (h ++ [.box false [.i .i64 (t).kind, .i .i64 (t).n, .s (t).text, .s (t).sort, .sl ((t).kids.flatMap aC) (t).kids.length, .sl ((t).rest.flatMap aC) (t).rest.length]]) s.2.2.2) (fun s => t.kids.length - s.1) ((0, l, out, h ++ [.box false [.i .i64 (t).kind, .i .i64 (t).n, .s (t).text, .s (t).sort, .sl ((t).kids.flatMap aC) (t).kids.length, .sl ((t).rest.flatMap aC) (t).rest.length]])) ⟨aG _, hol, (by rw [dG]; dsimp only; omega), rfl, ho.more _, .refl _ _⟩ rfl (by simp [eN]) ?_
     rintro ⟨k, l2, out2, H⟩ j ⟨hkl, ho2, hb2, he2, hi2, hs2⟩
     dsimp only at hkl ho2 hb2 he2 hi2 hs2
     by_cases hlt : k < t.kids.length
     · have hki : (k : Int) < ((t.kids.length : Nat) : Int) := by omega
       have hmm := bB (d := default) hlt
       rw [uF hlt, aH, kW _ 2 1] at hb2
       have ci := ih _ (cH _ hmm) l2 out2 (H ++ [.box false [.i .i64 (t.kids.getD k default).kind, .i .i64 (t.kids.getD k default).n, .s (t.kids.getD k default).text, .s (t.kids.getD k default).sort, .sl ((t.kids.getD k default).kids.flatMap aC) (t.kids.getD k default).kids.length, .sl ((t.kids.getD k default).rest.flatMap aC) (t.kids.getD k default).rest.length]]) ho2 (by omega) (hi2.more _)
       simp only [elT, bA, avt] at ci
       refine zh (zt hki) ?_
       (refine zx0 (zt hki) ?_; repeat' first | exact trivial | refine zJ ?_ ?_ | refine zH fun hc => ?_)
       refine eO ci ?_
       rintro r h3 ⟨hi3, hs3⟩
       refine zg ?_
       have hw := uD (l := l2) (t := t.kids.getD k default)
       refine ⟨(k + 1, rK l2 (t.kids.getD k default), r, h3), ⟨by dsimp only; omega, J5 ho2 (ht.kid _ hmm), by dsimp only; omega, ?_, hi3, hs2.trans ((kF.app _ _ _).trans hs3)⟩, by dsimp only; omega, rfl, by simp⟩
       dsimp only
       rw [qR (d := default) hlt, ← he2]
     · have hki : ¬ (k : Int) < ((t.kids.length : Nat) : Int) := by omega
       have hke : t.kids.take k = t.kids := aJ (by omega)
       have hd : (visL (t.kids.drop k) 2).length = 0 := by rw [bF (by omega)]; rfl
       rw [hke] at he2
       have hbx : H[h.length]? = some (.box false [.i .i64 (t).kind, .i .i64 (t).n, .s (t).text, .s (t).sort, .sl ((t).kids.flatMap aC) (t).kids.length, .sl ((t).rest.flatMap aC) (t).rest.length]) := hs2 _ _ (aG _) (by simp)
       refine zh (zA2 (zf hki) hbx) ?_
       (refine zx0 (zA2 (zf hki) hbx) ?_; repeat' first | exact trivial | refine zJ ?_ ?_ | refine zH fun hc => ?_)
       refine bP (fun (s : Nat × List LTerm × AV × List AObj) => [.v (s.2.2.1), .k, .k, .k, .k, .k, .k, .k, .k, .k, .j, .k, .k, .k, .k, .k, .k, .k, .k, .k, .k, .k, .k, .k, .k, .k, .k, .k, .k, .k, .k, .k, .k, .k, .k, .k, .k, .k, .k, .k, .k, .k, .k, .k, .k, .k, .k, .k, .v (.i .i64 (s.1 : Nat)), .j, .j, .j, .j, .j, .j, .j, .k]) (fun s => s.2.2.2) (fun s => s.1 ≤ t.rest.length ∧ (∀ x ∈ s.2.1, OkT x) ∧ s.2.1.length + (visL (t.rest.drop s.1) 2).length ≤ 1000000 ∧ s.2.1 = (t.rest.take s.1).foldl rK l2 ∧ eP 6 0 s.2.2.2 s.2.2.1 (s.2.1.flatMap aC) s.2.1.length ∧ kF 0 (h ++ [.box false [.i .i64 (t).kind, .i .i64 (t).n, .s (t).text, .s (t).sort, .sl ((t).kids.flatMap aC) (t).kids.length, .sl ((t).rest.flatMap aC) (t).rest.length]]) s.2.2.2) (fun s => t.rest.length - s.1) ((0, l2, out2, H)) ⟨aG _, ho2, (by rw [dG]; dsimp only; omega), rfl, hi2, hs2⟩ rfl (by simp [eN]) ?_
       rintro ⟨k3, l3, out3, H3⟩ j3 ⟨hkl3, ho3, hb3, he3, hi3, hs3⟩
       dsimp only at hkl3 ho3 hb3 he3 hi3 hs3
       by_cases hlt3 : k3 < t.rest.length
       · have hki3 : (k3 : Int) < ((t.rest.length : Nat) : Int) := by omega
         have hmm := bB (d := default) hlt3
         rw [uF hlt3, aH, kW _ 2 1] at hb3
         have ci := ih _ (cP _ hmm) l3 out3 (H3 ++ [.box false [.i .i64 (t.rest.getD k3 default).kind, .i .i64 (t.rest.getD k3 default).n, .s (t.rest.getD k3 default).text, .s (t.rest.getD k3 default).sort, .sl ((t.rest.getD k3 default).kids.flatMap aC) (t.rest.getD k3 default).kids.length, .sl ((t.rest.getD k3 default).rest.flatMap aC) (t.rest.getD k3 default).rest.length]]) ho3 (by omega) (hi3.more _)
         simp only [elT, bA, avt] at ci
         refine zh (zt hki3) ?_
         (refine zx0 (zt hki3) ?_; repeat' first | exact trivial | refine zJ ?_ ?_ | refine zH fun hc => ?_)
         refine eO ci ?_
         rintro r h4 ⟨hi4, hs4⟩
         refine zg ?_
         have hw := uD (l := l3) (t := t.rest.getD k3 default)
         refine ⟨(k3 + 1, rK l3 (t.rest.getD k3 default), r, h4), ⟨by dsimp only; omega, J5 ho3 (ht.rst _ hmm), by dsimp only; omega, ?_, hi4, hs3.trans ((kF.app _ _ _).trans hs4)⟩, by dsimp only; omega, rfl, by simp⟩
         dsimp only
         rw [qR (d := default) hlt3, ← he3]
       · have hki3 : ¬ (k3 : Int) < ((t.rest.length : Nat) : Int) := by omega
         have hke3 : t.rest.take k3 = t.rest := aJ (by omega)
         rw [hke3, he2] at he3
         refine zh (zf hki3) ?_
         (refine zx0 (zf hki3) ?_; repeat' first | exact trivial | refine zJ ?_ ?_ | refine zH fun hc => ?_)
         rw [e, ← he3]
         exact ⟨hi3, (kF.app _ _ _).trans hs3⟩
theorem so : ∀ (t : LTerm), OkT t → mC t → ∀ (l : List LTerm) (out : AV) (h : List AObj), (∀ x ∈ l, OkT x) → l.length + (vis t 1).length ≤ 1000000 → eP 6 0 h out (l.flatMap aC) l.length → ACalls Tryz.prog G0 135 [out, elT t] h (SoK (rK l t) h) :=
 dD (Q := fun t => OkT t → mC t → ∀ (l : List LTerm) (out : AV) (h : List AObj), (∀ x ∈ l, OkT x) → l.length + (vis t 1).length ≤ 1000000 → eP 6 0 h out (l.flatMap aC) l.length → ACalls Tryz.prog G0 135 [out, elT t] h (SoK (rK l t) h)) fun t hk hr ht hv l out h hol hl ho => by
   cases hvt : isV t with
   | false =>
     refine so2 t l out h ht hol hv hl hvt ho fun k hm l out h hol hl ho => ?_
     have hvk := hv.kid hm
     rcases bJ.1 hm with hm | hm
     · exact hk k hm (ht.kid k hm) hvk l out h hol hl ho
     · exact hr k hm (ht.rst k hm) hvk l out h hol hl ho
   | true =>
     have h6 : t.kind = 6 := by have := hvt; simp only [isV, aB, decide_eq_true_eq] at this; exact this.1
     have h95 : ¬ t.text = [95] := by have := hvt; simp only [isV, aB, bQ, decide_eq_false_iff_not] at this; exact this.2
     have e := aNs l t
     rw [hvt, if_pos rfl, (hv.at.1 h6).1, (hv.at.1 h6).2] at e
     rw [e]
     exact so1 t l out h ht hol (by omega) h6 h95 ho

theorem aHr {l : List LTerm} {k : Nat} (h : k ≤ l.length) : List.take (k * 6) (l.flatMap aC) = (l.take k).flatMap aC := by
 induction l generalizing k with
 | nil => simp
 | cons x l ih =>
   cases k with
   | zero => simp
   | succ k =>
     rw [dU, cV, cV, List.take_append, oG, ← ih (by simpa using h), aJ (by rw [oG]; omega), show (k + 1) * 6 - 6 = k * 6 by omega]
theorem bFq (l : List LTerm) (hl : l.length ≤ 1000000): CT 136 [avt l] (.b (aNz l)) := by
 refine bM mixed Tryz.func136 g0 ?_
 · simp -implicitDefEqProofs (disch := omega) only [Tryz.f136, go_sem, List.replicate, simprocAttr, avt]
   (refine zs0 ?_; repeat' first | exact trivial | refine zJ ?_ ?_ | refine zH fun hc => ?_)
   refine eJ (fun (k : Nat) => [.k, .k, .j, .j, .j, .k, .j, .k, .k, .v (.i .i64 (k : Nat)), .j, .j, .j, .j, .j, .j, .j, .j, .j, .j, .j, .j, .j, .j, .j, .j, .j, .j, .j]) (fun k => ([] : List AObj)) (fun k => k ≤ l.length ∧ ∀ i, i < k → (A8 i fun j => !decide ((l.getD i default).text = (l.getD j default).text)) = true) (fun k => l.length - k) (0) _ ⟨aG _, fun j h => by omega⟩ rfl (by simp [eN]) ?_
   rintro k g j ⟨hk, ha⟩
   by_cases hlt : k < l.length
   · have hki : (k : Int) < ((l.length : Nat) : Int) := by omega
     have htk : List.take (k * 6) (l.flatMap aC) = (l.take k).flatMap aC := aHr (by omega)
     have hlk : (l.take k).length = k := by rw [jV]; omega
     refine zh (zA2 (zt hki) htk) ?_
     (refine zx0 (zA2 (zt hki) htk) ?_; repeat' first | exact trivial | refine zJ ?_ ?_ | refine zH fun hc => ?_)
     refine bP (fun (s : Nat × List AObj) => [.k, .k, .j, .k, .k, .k, .j, .k, .k, .k, .k, .k, .k, .k, .k, .k, .k, .k, .v (.i .i64 (s.1 : Nat)), .j, .j, .j, .j, .j, .j, .j, .j, .j, .k]) (fun s => (g ++ (.box false [.i .i64 (l.getD k default).kind, .i .i64 (l.getD k default).n, .s (l.getD k default).text, .s (l.getD k default).sort, .sl ((l.getD k default).kids.flatMap aC) (l.getD k default).kids.length, .sl ((l.getD k default).rest.flatMap aC) (l.getD k default).rest.length] :: s.2))) (fun s => s.1 ≤ k ∧ ∀ j, j < s.1 → (!decide ((l.getD k default).text = (l.getD j default).text)) = true) (fun s => k - s.1) ((0, [])) ⟨aG _, fun j h => by omega⟩ rfl (by simp [eN]) ?_
     rintro ⟨i, z⟩ j2 ⟨hi, hb⟩
     dsimp only at hi hb
     by_cases hlt2 : i < k
     · have hki2 : (i : Int) < ((k : Nat) : Int) := by omega
       have hil : i < (l.take k).length := by omega
       have hgd : (l.take k).getD i default = l.getD i default := by simp [List.getD, hlt2, show i < l.length by omega, dR]
       refine zh (zA2 (zt hki2) (zA2 hlk hgd)) ?_
       (refine zx0 (zA2 (zt hki2) (zA2 hlk hgd)) ?_; repeat' first | exact trivial | refine zJ ?_ ?_ | refine zH fun hc => ?_)
       · have hf : (A8 k fun j => !decide ((l.getD k default).text = (l.getD j default).text)) = false := fX i hlt2 (by rw [zt hc]; rfl)
         exact aE (by rw [aNz, fX k hlt hf]) rfl
       · exact ⟨(i + 1, z ++ [.box false [.i .i64 (l.getD i default).kind, .i .i64 (l.getD i default).n, .s (l.getD i default).text, .s (l.getD i default).sort, .sl ((l.getD i default).kids.flatMap aC) (l.getD i default).kids.length, .sl ((l.getD i default).rest.flatMap aC) (l.getD i default).rest.length]]), ⟨by dsimp only; omega, aY hb (by rw [zf hc]; rfl)⟩, by dsimp only; omega, by simp, by simp⟩
     · have hki2 : ¬ (i : Int) < ((k : Nat) : Int) := by omega
       refine zh (zf hki2) ?_
       (refine zx0 (zf hki2) ?_; repeat' first | exact trivial | refine zJ ?_ ?_ | refine zH fun hc => ?_)
       all_goals exact ⟨k + 1, _, ⟨by omega, aY ha (jM fun j hj => hb j (by omega))⟩, by omega, rfl, by simp⟩
   · have hki : ¬ (k : Int) < ((l.length : Nat) : Int) := by omega
     refine zh (zf hki) ?_
     (refine zx0 (zf hki) ?_; repeat' first | exact trivial | refine zJ ?_ ?_ | refine zH fun hc => ?_)
     all_goals exact aE (by rw [aNz, jM (fun i hi => ha i (by omega))]) rfl
def Y8 (l : List LTerm) : Bool := l.all fun v => !decide (v.text = [36])
def bDu (i : Bool) (s : cC) (t : LTerm) : Bool := i && (!nY s t && (nW t && (Y8 (rK [] t) && aNz (rK [] t))))
theorem bJy {l : List LTerm} {f : LTerm → Bool} {k : Nat} (hk : k < l.length) (h : f (l.getD k default) = false) : l.all f = false := jD.2 ⟨_, bB hk, by rw [h]; simp⟩
theorem bBy {l : List LTerm} {f : LTerm → Bool} (h : ∀ j, j < l.length → f (l.getD j default) = true) : l.all f = true := by
 rw [aL]
 intro x hx
 obtain ⟨j, hj, rfl⟩ := bL.1 hx
 have := h j hj
 simpa [List.getD, hj] using this
theorem aSb (s : cC) (t : LTerm) (hm : Small s) (ht : OkT t) (hv : mC t) (hl : (vis t 1).length ≤ 1000000) (c1 : CT 132 [.agg (aN s), elT t] (.b true)) (hf : nY s t = false) (hk : nW t = true): CT 79 [.agg (aN s), elT t] (.b (Y8 (rK [] t) && aNz (rK [] t))) := by
 refine aF mixed Tryz.func79 g0 ?_
 · skip
   have c2 := aVl s hm t ht
   have c3 := aVk t ht
   rw [hf] at c2
   rw [hk] at c3
   have cs := so t ht hv [] .e0 [.box false (aN s), .box false [.i .i64 (t).kind, .i .i64 (t).n, .s (t).text, .s (t).sort, .sl ((t).kids.flatMap aC) (t).kids.length, .sl ((t).rest.flatMap aC) (t).rest.length]] (by simp) (by simpa using hl) kY
   simp only [elT, bA, avt] at cs
   (refine zt3 c1 c2 c3 ?_; repeat' first | exact trivial | refine zJ ?_ ?_ | refine zH fun hc => ?_)
   refine eO cs ?_
   rintro r h' ⟨ho, _⟩
   have hL : (rK [] t).length ≤ 1000000 := by have := uD (l := []) (t := t); simp at this; omega
   have c4 := bFq (rK [] t) hL
   clear cs c1 c2 c3
   generalize rK [] t = L at *
   rcases ho with ⟨rfl, hc, hn⟩ | ⟨i, rfl, hi, hil⟩
   · obtain rfl : L = [] := List.length_eq_zero_iff.1 hn
     simp only [avt, jW, bD] at c4
     refine zg ?_
     refine bP (fun (s : Nat) => [.k, .k, .k, .k, .j, .k, .k, .j, .k, .k, .k, .k, .k, .k, .k, .k, .k, .k, .k, .k, .k, .k, .k, .k, .k, .k, .v (.i .i64 (0 : Int)), .j, .j, .j, .j, .j, .j, .j, .k, .k]) (fun s => h') (fun s => True) (fun s => s) (0) trivial rfl (by simp [eN]) ?_
     rintro s j _
     refine zg ?_
     (refine zt1 c4 ?_; repeat' first | exact trivial | refine zJ ?_ ?_ | refine zH fun hc => ?_)
     all_goals first
       | (exfalso; omega)
       | exact aE (by rw [Y8]; rfl) rfl
   · have hi2 : ∀ m : List AObj, (h' ++ m)[i]? = some (.arr false 6 (L.flatMap aC)) := fun m => by rw [aD (aO hi)]; exact hi
     refine zh hi ?_
     rw [show h' = h' ++ [] from (List.append_nil h').symm]
     refine bP (fun (s : Nat × List AObj) => [.k, .k, .k, .k, .j, .k, .k, .j, .k, .k, .k, .k, .k, .k, .k, .k, .k, .k, .k, .k, .k, .k, .k, .k, .k, .k, .v (.i .i64 (s.1 : Nat)), .j, .j, .j, .j, .j, .j, .j, .k, .k]) (fun s => (h' ++ s.2)) (fun s => s.1 ≤ L.length ∧ ∀ j, j < s.1 → (!decide ((L.getD j default).text = [36])) = true) (fun s => L.length - s.1) ((0, [])) ⟨aG _, fun j h => absurd h (Nat.not_lt_zero j)⟩ rfl (by simp [eN]) ?_
     rintro ⟨k, z⟩ j ⟨hk, ha⟩
     dsimp only at hk ha
     by_cases hlt : k < L.length
     · have hki : (k : Int) < ((L.length : Nat) : Int) := by omega
       refine zh (zA2 (zt hki) hi2) ?_
       (refine zx0 (zA2 (zt hki) hi2) ?_; repeat' first | exact trivial | refine zJ ?_ ?_ | refine zH fun hc => ?_)
       · have e : Y8 L = false := bJy hlt (by rw [zt hc]; rfl)
         exact aE (by rw [e]; rfl) rfl
       · exact ⟨(k + 1, z ++ [.box false [.i .i64 (L.getD k default).kind, .i .i64 (L.getD k default).n, .s (L.getD k default).text, .s (L.getD k default).sort, .sl ((L.getD k default).kids.flatMap aC) (L.getD k default).kids.length, .sl ((L.getD k default).rest.flatMap aC) (L.getD k default).rest.length]]), ⟨by dsimp only; omega, aY ha (by rw [zf hc]; rfl)⟩, by dsimp only; omega, by simp, by simp⟩
     · have hki : ¬ (k : Int) < ((L.length : Nat) : Int) := by omega
       have htk : List.take (L.length * 6) (L.flatMap aC) = L.flatMap aC := aJ (by omega)
       refine zh (zA2 (zf hki) hi2) ?_
       (refine zy1 (zA2 (zf hki) (zA2 hi2 (zA2 hil (zA2 htk (zA2 @lQ aZ))))) c4 ?_; repeat' first | exact trivial | refine zJ ?_ ?_ | refine zH fun hc => ?_)
       all_goals exact aE (by rw [Y8, bBy (fun j hj => ha j (by omega))]; rfl) rfl
theorem aSc (s : cC) (t : LTerm) (hm : Small s) (ht : OkT t) (c1 : CT 132 [.agg (aN s), elT t] (.b false)): CT 79 [.agg (aN s), elT t] (.b false) := by
 refine aF mixed Tryz.func79 g0 ?_
 · skip
   (refine zt1 c1 ?_; repeat' first | exact trivial | refine zJ ?_ ?_ | refine zH fun hc => ?_)
   all_goals exact aE rfl rfl
theorem aSa (s : cC) (t : LTerm) (hm : Small s) (ht : OkT t) (c1 : CT 132 [.agg (aN s), elT t] (.b true)) (hn : (!nY s t && nW t) = false): CT 79 [.agg (aN s), elT t] (.b false) := by
 refine aF mixed Tryz.func79 g0 ?_
 · skip
   have c2 := aVl s hm t ht
   have c3 := aVk t ht
   rcases eQ (nY s t) with hf | hf
   · rw [hf] at c2
     (refine zt2 c1 c2 ?_; repeat' first | exact trivial | refine zJ ?_ ?_ | refine zH fun hc => ?_)
     all_goals exact aE rfl rfl
   · rw [hf] at c2 hn
     have hk : nW t = false := by simpa using hn
     rw [hk] at c3
     (refine zt3 c1 c2 c3 ?_; repeat' first | exact trivial | refine zJ ?_ ?_ | refine zH fun hc => ?_)
     all_goals exact aE rfl rfl
theorem bGb (i : Bool) (s : cC) (t : LTerm) (hm : Small s) (ht : OkT t) (hv : i = true → mC t ∧ (vis t 1).length ≤ 1000000) (c1 : CT 132 [.agg (aN s), elT t] (.b i)) : CT 79 [.agg (aN s), elT t] (.b (bDu i s t)) := by
 cases i with
 | false => rw [bDu, Bool.false_and]; exact aSc s t hm ht c1
 | true =>
   rw [bDu, Bool.true_and, ← jZ]
   rcases eQ (!nY s t && nW t) with h | h
   · rw [h, Bool.true_and]
     rw [aB, bQ] at h
     exact aSb s t hm ht (hv rfl).1 (hv rfl).2 c1 h.1 h.2
   · rw [h, Bool.false_and]
     exact aSa s t hm ht c1 h

theorem E7 {t : LTerm} (h : eI t false true true false false = true) : t.n = 0 ∧ t.kids = [] ∧ t.rest = [] := by
 simp only [eI, aB, bK, decide_eq_true_eq, aP, false_or, true_or, and_true] at h
 exact ⟨h.1.1, h.1.2, h.2⟩
structure K0 (v : LTerm) : Prop where
 n : v.n = 0
 kids : v.kids = []
 rest : v.rest = []
 text : v.text ≠ []
theorem aJz {x : Str} (h : cY x = true) : x ≠ [] := by
 rintro rfl; simp [cY] at h
theorem aQl {t : LTerm} (h : cB t = true) (h6 : t.kind = 6) : K0 t := by
 have hh : cB t = (if sZ t.text = true then decide (t.sort = aEa) && eI t false true true false false else cY t.text && cY t.sort && eI t false true true false false) := by simp only [cB, h6, Int.reduceEq, if_false, if_true]
 rw [hh] at h
 split at h
 · rename_i ho
   simp only [aB] at h
   obtain ⟨a, b, c⟩ := E7 h.2
   refine ⟨a, b, c, fun e => ?_⟩
   rw [e] at ho; simp [sZ] at ho
 · simp only [aB] at h
   obtain ⟨a, b, c⟩ := E7 h.2
   exact ⟨a, b, c, aJz h.1.1⟩
theorem aPj {t r : LTerm} (h : cB t = true) (hr : r ∈ t.rest) : K0 r := by
 have h1 := pS h hr
 have z0 : ∀ {a b c d}, eI t a b c d false = true → t.rest = [] := by
   intro a b c d h
   simp only [eI, aB, bK, decide_eq_true_eq, aP, false_or] at h
   exact h.2
 have r0 : ∀ {s}, oM t s = true → r.n = 0 := by
   intro s h
   simp only [oM, aB, bK, decide_eq_true_eq] at h
   have hl : 0 < t.rest.length := V4 hr
   rcases h with h | h
   · omega
   · obtain ⟨⟨⟨⟨h1, hk⟩, hn⟩, _⟩, hz⟩ := h
     obtain ⟨x, hx⟩ := V5.1 h1
     rw [hx] at hr hz
     rw [bC] at hr; subst hr
     exact (E7 hz).1
 refine ⟨?_, h1.2.2.1, h1.2.2.2, aJz h1.2.1⟩
 have hh := h
 unfold cB at hh
 repeat' split at hh
 all_goals try simp only [aB] at hh
 all_goals first
   | exact absurd hr (by rw [z0 hh.2]; simp)
   | exact r0 hh.1
   | exact r0 hh.1.1
   | cases hh
theorem aHk : ∀ t : LTerm, wfT cB t = true → ∀ d : Int, ∀ v ∈ vis t d, v.1.kind = 6 → K0 v.1 :=
 dD (Q := fun t => wfT cB t = true → ∀ d : Int, ∀ v ∈ vis t d, v.1.kind = 6 → K0 v.1) fun t hk hr hw d v hv h6 => by
   have hw' := pB.1 hw
   rw [lM, iX, bV, bJ] at hv
   rcases hv with rfl | hv | hv
   · exact aQl hw'.1 h6
   · have L : ∀ l : List LTerm, (∀ k ∈ l, k ∈ t.kids) → v ∈ visL l (d + 1) → K0 v.1 := by
       intro l
       induction l with
       | nil => intro _ h; cases h
       | cons x l ih =>
         intro hm h
         rw [visL, bJ] at h
         rcases h with h | h
         · exact hk x (hm x (by simp)) (hw'.2 x (hm x (by simp))) (d + 1) v h h6
         · exact ih (fun k hk => hm k (by simp [hk])) h
     exact L t.kids (fun _ h => h) hv
   · have L : ∀ l : List LTerm, (∀ k ∈ l, k ∈ t.rest) → v ∈ visL l (d + 1) → K0 v.1 := by
       intro l
       induction l with
       | nil => intro _ h; cases h
       | cons x l ih =>
         intro hm h
         rw [visL, bJ] at h
         rcases h with h | h
         · have hx := pS hw'.1 (hm x (by simp))
           rw [sE hx.2.2.1 hx.2.2.2, bC] at h
           subst h
           exact aPj hw'.1 (hm x (by simp))
         · exact ih (fun k hk => hm k (by simp [hk])) h
     exact L t.rest (fun _ h => h) hv
theorem aEj {t : LTerm} (hv : eS cB t = true) : mC t ∧ (vis t 1).length ≤ 1000000 := by
 have hP := W4 hv
 rw [List.append_nil] at hP
 refine ⟨fun v hm => ⟨fun h6 => ?_, (hP.2 v hm).2.2⟩, by have := hP.1; omega⟩
 have := aHk t (by simp only [eS, aB] at hv; exact hv.1.1) 1 v hm h6
 exact ⟨this.kids, this.rest⟩
theorem aHm {t x : LTerm} (hw : wfT cB t = true) (h : x ∈ zU t) : K0 x ∧ x.kind = 6 := by
 have h2 := oX.1 h
 obtain ⟨v, hv, rfl⟩ := dI.1 h2.1
 have h6 : v.1.kind = 6 := by have := h2.2; simp only [isV, aB, decide_eq_true_eq] at this; exact this.1
 exact ⟨aHk t hw 1 v hv h6, h6⟩
theorem aYq {a b : LTerm} (ha : K0 a ∧ a.kind = 6) (hb : K0 b ∧ b.kind = 6) (h : xX a = xX b) : a = b := by
 obtain ⟨⟨a1, a2, a3, _⟩, a4⟩ := ha
 obtain ⟨⟨b1, b2, b3, _⟩, b4⟩ := hb
 cases a; cases b
 simp only [xX, LTerm.text, LTerm.sort, aK, LTerm.n, LTerm.kids, LTerm.rest, LTerm.kind] at *
 subst_vars
 rw [h.1, h.2]
theorem aQb (s : cC) (t : LTerm) : aYp s t = bDu (eS cB t && nC s t) s t := by
 rw [aYp, bDu]
 rcases eQ (eS cB t) with hv | hv
 · rcases eQ (nC s t) with hf | hf
   · rw [hv, hf]
     simp only [Bool.true_and]
     have hw : wfT cB t = true := by simp only [eS, aB] at hv; exact hv.1.1
     rw [aCo, aBp, cI, aKq s t hw 1, aKj t hw 1]
     have hp := fun x hx => aHm (x := x) hw hx
     have e1 : decide ((pR t).2 = []) = aNz (rK [] t) := by
       rw [cA, decide_eq_true_eq, rK, aYw (fun a ha b hb => aYq (hp a ha) (hp b hb)), pR, aBc, zU]
       refine aXr fun x hx => ?_
       obtain ⟨v, hv, rfl⟩ := dI.1 hx
       exact (hp v hv).1.text
     have e2 : Y8 (rK [] t) = !dol t 1 := by
       have hm := (J6 (zU t) [] dC).2
       rw [cA, Y8, aL, bQ, dol, jC]
       constructor
       · intro h v hv
         intro q
         simp only [aB, decide_eq_true_eq] at q
         have hx : v.1 ∈ zU t := oX.2 ⟨dI.2 ⟨v, hv, rfl⟩, by simp [isV, q.1, q.2]⟩
         have := h v.1 ((hm v.1).2 (.inr hx))
         simp [q.2] at this
       · intro h x hx
         have hx := ((hm x).1 hx).resolve_left (by simp)
         have h2 := oX.1 hx
         obtain ⟨v, hv, rfl⟩ := dI.1 h2.1
         have := h v hv
         simp only [(hp v.1 hx).2, decide_true, Bool.true_and, decide_eq_true_eq] at this
         simp [this]
     rw [e1, e2]
     cases nY s t <;> cases nW t <;> cases dol t 1 <;> cases aNz (rK [] t) <;> rfl
   · rw [hf]; simp
 · rw [hv]; simp

def wM (s : cC) (t : LTerm) : Bool := cU s && aYp s t
theorem T3 (s : cC) (t : LTerm) (hm : Small s) (hs : OkS s) (ht : OkT t): CT 42 [.agg (aN s), elT t] (.b (wM s t)) := by
 refine dK (rx := true) (th := fun _ => none) mixed Tryz.func42 g0 ?_
 · simp -implicitDefEqProofs (disch := omega) only [Tryz.f42, go_sem, List.replicate, simprocAttr]
   have c2 := aMd s hm hs
   have c3 := bGd s t hm ht
   rw [wM]
   rcases eQ (cU s) with h2 | h2
   · rw [h2] at c2
     (refine zt3 c2 (aGi s hm (iQ h2)) c3 ?_; repeat' first | exact trivial | refine zJ ?_ ?_ | refine zH fun hc => ?_)
     all_goals exact aE (by rw [h2]; rfl) rfl
   · rw [h2] at c2
     (refine zt1 c2 ?_; repeat' first | exact trivial | refine zJ ?_ ?_ | refine zH fun hc => ?_)
     all_goals exact aE (by rw [h2]; rfl) rfl
theorem aVp (s : cC) (t : LTerm) (hm : Small s) (hs : OkS s) (ht : OkT t) (c1 : cU s = true → CT 132 [.agg (aN s), elT t] (.b (eS cB t && nC s t))): CT 45 [.agg (aN s), elT t] (.b (wM s t)) := by
 refine aF mixed Tryz.func45 g0 ?_
 · skip
   have c2 := aMc s hm hs
   rw [wM]
   rcases eQ (cU s) with h2 | h2
   · have c3 := bGb _ s t hm ht (fun h => aEj (by simp only [aB] at h; exact h.1)) (c1 h2)
     rw [← aQb] at c3
     rw [h2] at c2
     (refine zt2 c2 c3 ?_; repeat' first | exact trivial | refine zJ ?_ ?_ | refine zH fun hc => ?_)
     all_goals exact aE (by rw [h2]; rfl) rfl
   · rw [h2] at c2
     (refine zt1 c2 ?_; repeat' first | exact trivial | refine zJ ?_ ?_ | refine zH fun hc => ?_)
     all_goals exact aE (by rw [h2]; rfl) rfl

def nM (s : cC) (t : LTerm) : List gD × Int := if wM s t = true then (cM t [], 0) else ([], 2)
def zE (r : List gD × Int) : AV := .tup [ava r.1, .i .i64 r.2]
theorem lJ {s : cC} {t : LTerm} (h : wM s t = true) : eS cB t = true := by
 rw [wM, aYp, aB, aB] at h; exact h.2.1
theorem nL : ∀ (t : LTerm) (p : List Int), (cM t p).length ≤ nodesT t :=
 dD (Q := fun t => ∀ p : List Int, (cM t p).length ≤ nodesT t) fun t hk _ p => by
   have L : ∀ (l : List LTerm) (i : Nat), (∀ k ∈ l, ∀ p : List Int, (cM k p).length ≤ nodesT k) → (testsL l p i).length ≤ nodesL l := by
     intro l
     induction l with
     | nil => intro i _; simp [testsL, nodesL]
     | cons x l ih => intro i h; rw [testsL, nodesL, aH]; have := h x (by simp) (p ++ [(i : Int)]); have := ih (i + 1) (fun k hk => h k (by simp [hk])); omega
   have e := tD t
   have q := L t.kids 0 hk
   rw [gU]
   split
   · simp only [aQ]; omega
   · split
     · simp only [aQ]; omega
     · split
       · simp; omega
       · split
         · split <;> simp; omega
         · simp; omega
theorem bGr (s : cC) (t : LTerm) (hm : Small s) (hs : OkS s) (ht : OkT t) (c0 : cU s = true → CT 132 [.agg (aN s), elT t] (.b (eS cB t && nC s t))): CT 14 [.agg (aN s), elT t] (zE (nM s t)) := by
 refine bM mixed Tryz.func14 g0 ?_
 · simp -implicitDefEqProofs (disch := omega) only [Tryz.f14, go_sem, List.replicate, simprocAttr, zE]
   have c1 := aVp s t hm hs ht c0
   rcases eQ (wM s t) with h | h
   · have hv := lJ h
     have hv2 := hv
     simp only [eS, aB, decide_eq_true_eq] at hv2
     have c2 := aVo t ht [] (by simp only [bD]; omega) (dT (nL t []) (by omega))
     simp only [bN, bD] at c2
     rw [h] at c1
     (refine zy2 @ava.eq_1 c1 c2 ?_; repeat' first | exact trivial | refine zJ ?_ ?_ | refine zH fun hc => ?_)
     all_goals exact aE (by rw [nM, if_pos h]) (by simp [pers, persL, ava, xV, mat])
   · rw [h] at c1
     (refine zt1 c1 ?_; repeat' first | exact trivial | refine zJ ?_ ?_ | refine zH fun hc => ?_)
     all_goals exact .inr ⟨by rw [nM, if_neg (by rw [h]; simp)]; exact ⟨rfl, rfl, trivial⟩, dC, fun i hi => absurd hi (by show ¬ i ∈ []; simp)⟩
end Go.Proofs.YtifefbhllfdmlaaGreatDoor

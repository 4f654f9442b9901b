/-
  What functions of the chapter return, as plain functions of what they are given; no condition beyond those that each theorem names.
-/
import Derived.Test.YtifefbhllfdmlaaGreatDoorVaP66
import Derived.Test.YtifefbhllfdmlaaGreatDoorSoP63
set_option maxRecDepth 100000
set_option linter.unusedSimpArgs false
set_option linter.unusedVariables false
set_option maxHeartbeats 4000000
namespace Go.Proofs.YtifefbhllfdmlaaGreatDoor
open Go Go.Vo
open Nat (reduceAdd reduceSub reduceMul reduceLeDiff reduceLT reduceEqDiff)
open Int (reduceNeg)

theorem bGe (l : List gD) (f : FuncId) (a b : List AV) (p : gD → Bool) (hl : l.length ≤ 1000000) (ha : persL a = true) (hb : persL b = true) (hw : ∀ k, k < l.length → CT f (a ++ [.agg (aS (l.getD k default))] ++ b) (.b (p (l.getD k default)))): CT 63 [ava l, .fn f a b] (.i .i64 (idx p l)) := by
 refine bM mixed Tryz.func63 g0 ?_
 · simp -implicitDefEqProofs (disch := omega) only [Tryz.f63, go_sem, List.replicate, ↓reduceIte, reduceAdd, reduceSub, reduceMul, reduceLeDiff, reduceLT, reduceEqDiff, reduceNeg, Nat.reduceBEq, ava]
   (refine zs0 ?_; repeat' first | exact trivial | refine zJ ?_ ?_ | refine zH fun hc => ?_)
   refine bP (fun (k : Nat) => [.k, .k, .k, .k, .j, .j, .k, .k, .v (.i .i64 (k : Nat)), .j, .j, .j, .j, .j, .j, .j, .j, .j, .j]) (fun k => []) (fun k => k ≤ l.length ∧ ∀ j, j < k → p (l.getD j default) = false) (fun k => l.length - k) (0) ⟨aG _, fun j h => by omega⟩ rfl (by simp [eN]) ?_
   rintro k j ⟨hk, hn⟩
   refine zg ?_
   (refine zs0 ?_; repeat' first | exact trivial | refine zJ ?_ ?_ | refine zH fun hc => ?_)
   · refine aW (hw k (by omega)) ?_ ?_
     · exact zv (zA2 @aT.{0,0} (zA2 (fun h => nN (h := h) ha) (zA2 (fun h => nN (h := h) hb) (zA2 @aS.eq_1 @avt.eq_1))))
     · refine zg ?_
       (refine zs0 ?_; repeat' first | exact trivial | refine zJ ?_ ?_ | refine zH fun hc => ?_)
       · refine aE ?_ (by rfl)
         rw [mP (d := default) (k := k) (by omega) hc hn]
       · exact ⟨k + 1, ⟨by omega, kD hn hc⟩, by omega, by simp⟩
   · refine aE ?_ (by rfl)
     have h1 : k = l.length := by omega
     rw [mQ (h1 ▸ hn)]
theorem bGh (l : List gD) (f : FuncId) (a b : List AV) (p : gD → Bool) (hl : l.length ≤ 1000000) (ha : persL a = true) (hb : persL b = true) (hw : ∀ k, k < l.length → CT f (a ++ [.agg (aS (l.getD k default))] ++ b) (.b (p (l.getD k default)))): CT 59 [ava l, .fn f a b] (.b (l.any p)) := by
 refine bM mixed Tryz.func59 g0 ?_
 · simp -implicitDefEqProofs (disch := omega) only [Tryz.f59, go_sem, List.replicate, ↓reduceIte, reduceAdd, reduceSub, reduceMul, reduceLeDiff, reduceLT, reduceEqDiff, reduceNeg, Nat.reduceBEq, ava]
   have c := bGe l f a b p hl ha hb hw
   simp only [ava] at c
   refine aW c ?_ ?_
   · exact zv (zA2 ha hb)
   · refine zg ?_
     refine aE ?_ (by rfl)
     rw [pY]
theorem bJd (l : List LTerm) (f : FuncId) (a b : List AV) (p : LTerm → Bool) (hl : l.length ≤ 1466015503701) (ha : persL a = true) (hb : persL b = true) (hw : ∀ k, k < l.length → CT f (a ++ [elT (l.getD k default)] ++ b) (.b (p (l.getD k default)))): CT 176 [avt l, .fn f a b] (.i .i64 (idx p l)) := by
 refine aF mixed Tryz.func176 g0 ?_
 · skip
   refine bP (fun (k : Nat) => [.k, .k, .k, .k, .j, .j, .k, .k, .v (.i .i64 k), .j, .j, .j, .j, .j, .j, .j, .j, .j, .j]) (fun k => []) (fun k => k ≤ l.length ∧ ∀ j, j < k → p (l.getD j default) = false) (fun k => l.length - k) (0) ⟨aG _, fun j h => by omega⟩ rfl (by simp [eN]) ?_
   rintro k j ⟨hk, hn⟩
   refine zg ?_
   (refine zs0 ?_; repeat' first | exact trivial | refine zJ ?_ ?_ | refine zH fun hc => ?_)
   · refine aW (hw k (by omega)) ?_ ?_
     · exact zv (zA2 @aT.{0,0} (zA2 (fun h => nN (h := h) ha) (zA2 (fun h => nN (h := h) hb) (zA2 @elT.eq_1 @bA))))
     · refine zg ?_
       (refine zs0 ?_; repeat' first | exact trivial | refine zJ ?_ ?_ | refine zH fun hc => ?_)
       · refine aE ?_ (by rfl)
         rw [mP (d := default) (k := k) (by omega) hc hn]
       · exact ⟨k + 1, ⟨by omega, kD hn hc⟩, by omega, by simp⟩
   · refine aE ?_ (by rfl)
     have h1 : k = l.length := by omega
     rw [mQ (h1 ▸ hn)]
theorem bJe (l : List LTerm) (f : FuncId) (a b : List AV) (p : LTerm → Bool) (hl : l.length ≤ 1466015503701) (ha : persL a = true) (hb : persL b = true) (hw : ∀ k, k < l.length → CT f (a ++ [elT (l.getD k default)] ++ b) (.b (p (l.getD k default)))): CT 112 [avt l, .fn f a b] (.b (l.any p)) := by
 refine aF mixed Tryz.func112 g0 ?_
 · skip
   refine aW (bJd l f a b p hl ha hb hw) ?_ ?_
   · exact zv (zA2 ha (zA2 hb @avt.eq_1))
   · refine zg ?_
     refine aE ?_ (by rfl)
     rw [pY]
theorem bFu (s : cC) (p : LTerm) (hm : Small s) (hs : OkS s) (ht : OkT p): CT 113 [elT p, .box (aN s) 0] (.b (!wM s p)) := by
 refine aF mixed Tryz.func113 g0 ?_
 · skip
   have c := T3 s p hm hs ht
   (refine zt1 c ?_; repeat' first | exact trivial | refine zJ ?_ ?_ | refine zH fun hc => ?_)
   all_goals exact aE (by simp_all) rfl
def iR (s : cC) (l : List LTerm) : Bool := cU s && (decide (l.length ≤ 100) && l.all (wM s))
theorem bGi (s : cC) (l : List LTerm) (hm : Small s) (hs : OkS s) (hl : l.length ≤ 1466015503701) (ho : ∀ t ∈ l, OkT t): CT 57 [.agg (aN s), avt l] (.b (iR s l)) := by
 refine bM mixed Tryz.func57 g0 ?_
 · simp -implicitDefEqProofs (disch := omega) only [Tryz.f57, go_sem, List.replicate, ↓reduceIte, reduceAdd, reduceSub, reduceMul, reduceLeDiff, reduceLT, reduceEqDiff, reduceNeg, Nat.reduceBEq, avt]
   have c1 := aMd s hm hs
   have c2 := bJe l 113 [] [.box (aN s) 0] (fun t => !wM s t) hl rfl (by simp [persL, pers, aJf]) (fun k hk => bFu s _ hm hs (ho _ (bB hk)))
   have e : (l.any fun t => !wM s t) = !l.all (wM s) := List.not_all_eq_any_not.symm
   rw [e] at c2
   rw [iR]
   simp only [avt] at c2
   generalize cU s = A at *
   generalize l.all (wM s) = B at *
   (refine zt2 c1 c2 ?_; repeat' first | exact trivial | refine zJ ?_ ?_ | refine zH fun hc => ?_)
   all_goals exact aE (by (simp_all) <;> (intros; omega)) rfl
structure OkP (a : gD) : Prop where
 test : OkX a.test
 len : a.path.length ≤ 1000
 ints : ∀ i ∈ a.path, 0 ≤ i ∧ i ≤ 1466015503701
theorem OkP.k {a : gD} (h : OkP a) : OkK a := ⟨h.test, by have := h.len; omega⟩
theorem OkP.path {a : gD} (h : OkP a) : wD a.path := ⟨by have := h.len; omega, fun i hi => by have := h.ints i hi; omega⟩
theorem M9 : ∀ (t : LTerm), OkT t → ∀ p : List Int, p.length + highT t ≤ 1000 → (∀ i ∈ p, 0 ≤ i ∧ i ≤ 1466015503701) → ∀ a ∈ cM t p, OkP a :=
 dD (Q := fun t => OkT t → ∀ p : List Int, p.length + highT t ≤ 1000 → (∀ i ∈ p, 0 ≤ i ∧ i ≤ 1466015503701) → ∀ a ∈ cM t p, OkP a) fun t hk _ ht p hp hi => by
   have e := tI t
   have hkk := ht.kids
   have L : ∀ (l : List LTerm) (i : Nat), (∀ k ∈ l, k ∈ t.kids) → i + l.length ≤ t.kids.length → p.length + 1 + highL l ≤ 1000 → ∀ a ∈ testsL l p i, OkP a := by
     intro l
     induction l with
     | nil => intro i _ _ _ a ha; simp [testsL] at ha
     | cons x l ih =>
       intro i hm hil hh a ha
       rw [highL] at hh
       rw [aQ] at hil
       rw [testsL, bJ] at ha
       rcases ha with ha | ha
       · refine hk x (hm x (by simp)) (ht.kid x (hm x (by simp))) (p ++ [(i : Int)]) (by simp only [aH, aQ, bD]; omega) ?_ a ha
         intro j hj
         rcases bJ.1 hj with hj | hj
         · exact hi j hj
         · rw [bC] at hj; omega
       · exact ih (i + 1) (fun k hk => hm k (by simp [hk])) (by omega) (by omega) a ha
   have z : ∀ (te : LTest), OkX te → OkP ⟨p, te⟩ := fun te h => ⟨h, by show p.length ≤ 1000; omega, hi⟩
   have zz : ∀ {op n : Int} {x : Str}, x.length ≤ 140737488355328 → OkX ⟨op, zT, x, n⟩ := fun h => ⟨V9, h⟩
   intro a ha
   rw [gU] at ha
   split at ha
   · rcases bV.1 ha with rfl | ha
     · exact z _ (zz ht.text)
     · exact L t.kids 0 (fun k hk => hk) (by omega) (by omega) a ha
   · split at ha
     · rcases bV.1 ha with rfl | ha
       · exact z _ (zz (by simp))
       · exact L t.kids 0 (fun k hk => hk) (by omega) (by omega) a ha
     · split at ha
       · rw [bC] at ha; subst ha; exact z _ (zz (by simp))
       · split at ha
         · split at ha
           · cases ha
           · rw [bC] at ha; subst ha; exact z _ (zz ht.sort)
         · rw [bC] at ha; subst ha; exact z _ ⟨ht, by simp⟩
def Y7 (s : cC) (t p : LTerm) : Bool := (cM p []).all fun a => kN s a t
def qG (s : cC) (t : LTerm) : List LTerm → Nat → List Int
 | [], _ => []
 | p :: l, i => (if Y7 s t p = true then [(i : Int)] else []) ++ qG s t l (i + 1)
theorem uU {s : cC} {t : LTerm} : ∀ {l : List LTerm} {i k : Nat}, k < l.length → qG s t (l.take (k + 1)) i = qG s t (l.take k) i ++ (if Y7 s t (l.getD k default) = true then [((i + k : Nat) : Int)] else [])
 | p :: l, i, 0, _ => by simp [qG]
 | p :: l, i, k + 1, h => by
   rw [dU, qG, dU, qG, uU (k := k) (by simpa using h), bT, show i + 1 + k = i + (k + 1) by omega]; simp
 | [], _, _, h => by simp at h
theorem tU {s : cC} {t : LTerm} : ∀ {l : List LTerm} {i : Nat}, (qG s t l i).length ≤ l.length
 | [], i => by simp [qG]
 | p :: l, i => by
   have := tU (l := l) (i := i + 1) (s := s) (t := t)
   rw [qG, aH, aQ]
   split <;> simp <;> omega
def mI (s : cC) (l : List LTerm) (t : LTerm) : List Int × Int := if (iR s l && (cU s && kK s t)) = true then (qG s t l 0, 0) else ([], 2)
def U1 (r : List Int × Int) : AV := .tup [.sl (ints r.1) r.1.length, .i .i64 r.2]
theorem bGg (s : cC) (a : gD) (t : LTerm) (hs : Small s) (ha : OkK a) (ht : OkT t): CT 60 [.agg (aS a), .box [cN s] 0, .box (aC t) 0] (.b (!kN s a t)) := by
 refine bM mixed Tryz.func60 g0 ?_
 · simp -implicitDefEqProofs (disch := omega) only [Tryz.f60, go_sem, List.replicate, ↓reduceIte, reduceAdd, reduceSub, reduceMul, reduceLeDiff, reduceLT, reduceEqDiff, reduceNeg, Nat.reduceBEq, aS, avt, bA]
   have c := aVn s a t hs ha.test ha.path ht
   simp only [aS, avt] at c
   (refine zt1 c ?_; repeat' first | exact trivial | refine zJ ?_ ?_ | refine zH fun hc => ?_)
   all_goals exact aE rfl rfl
end Go.Proofs.YtifefbhllfdmlaaGreatDoor

/-
  How terms are measured: plain laws; no condition beyond those that each theorem names.
-/
import Derived.Test.YtnjnjdebgkjfhaaGreatDoorTeP51
set_option linter.unusedVariables false
set_option linter.unusedSimpArgs false
set_option maxHeartbeats 4000000
namespace Go.Vo
section
variable (p : LTerm → Bool)
mutual
def lookT : LTerm → Int → Int → Int × Bool
 | .mk k n t s ks rs, d, m =>
   if (decide (d ≤ 60) && decide (m + 1 ≤ 2000) && p (.mk k n t s ks rs)) = true then
     (if (lookL ks (d + 1) (m + 1)).2 = true then ((lookL ks (d + 1) (m + 1)).1 + rs.length, decide (rs.length = 0) || (decide (d < 60) && decide ((lookL ks (d + 1) (m + 1)).1 + rs.length ≤ 2000))) else ((lookL ks (d + 1) (m + 1)).1, false))
   else (m + 1, false)
def lookL : List LTerm → Int → Int → Int × Bool
 | [], d, m => (m, true)
 | k :: l, d, m => if (lookT k d m).2 = true then lookL l d (lookT k d m).1 else ((lookT k d m).1, false)
end
mutual
def formedT : LTerm → Int → Int → Bool × Int
 | .mk k n t s ks rs, d, left =>
   if (decide (left - (1 + rs.length) < 0) || decide (d < 1) || (decide (0 < rs.length) && decide (d < 2)) || !p (.mk k n t s ks rs)) = true then (false, left - (1 + rs.length)) else formedL ks (d - 1) (left - (1 + rs.length))
def formedL : List LTerm → Int → Int → Bool × Int
 | [], d, left => (true, left)
 | k :: l, d, left => if (formedT k d left).1 = true then formedL l d (formedT k d left).2 else (false, (formedT k d left).2)
end
mutual
def wfT : LTerm → Bool
 | .mk k n t s ks rs => p (.mk k n t s ks rs) && wfL ks
def wfL : List LTerm → Bool
 | [] => true
 | k :: l => wfT k && wfL l
end
end
mutual
def nodesT : LTerm → Nat
 | .mk k n t s ks rs => 1 + rs.length + nodesL ks
def nodesL : List LTerm → Nat
 | [] => 0
 | k :: l => nodesT k + nodesL l
end
mutual
def highT : LTerm → Nat
 | .mk k n t s ks rs => 1 + max rs.length (highL ks)
def highL : List LTerm → Nat
 | [] => 0
 | k :: l => max (highT k) (highL l)
end
section
variable {p : LTerm → Bool}
mutual
theorem lookT_spec (hp : ∀ t, p t = true → t.rest.length ≤ 1) : ∀ (t : LTerm) (d m : Int), ((lookT p t d m).2 = true ↔ wfT p t = true ∧ d + highT t ≤ 61 ∧ m + nodesT t ≤ 2000) ∧ ((lookT p t d m).2 = true → (lookT p t d m).1 = m + nodesT t)
 | .mk k n t s ks rs, d, m => by
   rw [lookT, wfT, highT, nodesT]
   split
   · rename_i hc
     simp only [Bool.and_eq_true, decide_eq_true_eq] at hc
     obtain ⟨⟨h1, h2⟩, h3⟩ := hc
     have hr := hp _ h3
     simp only [LTerm.rest] at hr
     obtain ⟨i1, i2⟩ := lookL_spec hp ks (d + 1) (m + 1) (by omega) (by omega)
     rw [h3, Bool.true_and]
     split
     · rename_i hl
       have e := i2 hl
       obtain ⟨w, w2, w3⟩ := i1.1 hl
       simp only [Bool.or_eq_true, Bool.and_eq_true, decide_eq_true_eq, w, true_and, e]
       exact ⟨by omega, fun _ => by omega⟩
     · rename_i hl
       refine ⟨⟨(fun h => by cases h), fun ⟨a, b, c⟩ => ?_⟩, fun h => by cases h⟩
       exact absurd (i1.2 ⟨a, by omega, by omega⟩) hl
   · rename_i hc
     refine ⟨⟨(fun h => by cases h), fun ⟨a, b, c⟩ => ?_⟩, fun h => by cases h⟩
     exfalso
     refine hc ?_
     simp only [Bool.and_eq_true, decide_eq_true_eq] at a ⊢
     exact ⟨⟨by omega, by omega⟩, a.1⟩
theorem lookL_spec (hp : ∀ t, p t = true → t.rest.length ≤ 1) : ∀ (l : List LTerm) (d m : Int), d ≤ 61 → m ≤ 2000 → ((lookL p l d m).2 = true ↔ wfL p l = true ∧ d + highL l ≤ 61 ∧ m + nodesL l ≤ 2000) ∧ ((lookL p l d m).2 = true → (lookL p l d m).1 = m + nodesL l)
 | [], d, m, hd, hm => by
   rw [lookL, wfL, highL, nodesL]
   exact ⟨⟨fun _ => ⟨rfl, by omega, by omega⟩, fun _ => rfl⟩, fun _ => by omega⟩
 | k :: l, d, m, hd, hm => by
   obtain ⟨i1, i2⟩ := lookT_spec hp k d m
   rw [lookL, wfL, highL, nodesL]
   split
   · rename_i hk
     have e := i2 hk
     obtain ⟨w, w2, w3⟩ := i1.1 hk
     obtain ⟨j1, j2⟩ := lookL_spec hp l d (lookT p k d m).1 hd (by omega)
     rw [w, Bool.true_and, j1]
     exact ⟨⟨fun ⟨a, b, c⟩ => ⟨a, by omega, by omega⟩, fun ⟨a, b, c⟩ => ⟨a, by omega, by omega⟩⟩, fun h => by have := j2 (j1.2 h); omega⟩
   · rename_i hk
     refine ⟨⟨(fun h => by cases h), fun ⟨a, b, c⟩ => ?_⟩, fun h => by cases h⟩
     rw [Bool.and_eq_true] at a
     exact absurd (i1.2 ⟨a.1, by omega, by omega⟩) hk
end
mutual
theorem formedT_spec (hp : ∀ t, p t = true → t.rest.length ≤ 1) : ∀ (t : LTerm) (d m : Int), ((formedT p t d m).1 = true ↔ wfT p t = true ∧ (highT t : Int) ≤ d ∧ (nodesT t : Int) ≤ m) ∧ ((formedT p t d m).1 = true → (formedT p t d m).2 = m - nodesT t)
 | .mk k n t s ks rs, d, m => by
   rw [formedT, wfT, highT, nodesT]
   split
   · rename_i hc
     refine ⟨⟨(fun h => by cases h), fun ⟨h1, h2, h3⟩ => ?_⟩, fun h => by cases h⟩
     exfalso
     simp only [Bool.and_eq_true, Bool.or_eq_true, decide_eq_true_eq, Bool.not_eq_true'] at h1 hc
     rcases hc with ((hc | hc) | ⟨hc, hc'⟩) | hc
     · omega
     · omega
     · omega
     · rw [h1.1] at hc; cases hc
   · rename_i hc
     simp only [Bool.or_eq_true, Bool.and_eq_true, decide_eq_true_eq, Bool.not_eq_true', not_or, not_and, Bool.not_eq_false] at hc
     obtain ⟨⟨⟨h1, h2⟩, h4⟩, h3⟩ := hc
     have hr := hp _ h3
     simp only [LTerm.rest] at hr
     obtain ⟨i1, i2⟩ := formedL_spec hp ks (d - 1) (m - (1 + rs.length)) (by omega) (by omega)
     rw [h3, Bool.true_and, i1]
     exact ⟨⟨fun ⟨a, b, c⟩ => ⟨a, by omega, by omega⟩, fun ⟨a, b, c⟩ => ⟨a, by omega, by omega⟩⟩, fun h => by have := i2 (i1.2 h); omega⟩
theorem formedL_spec (hp : ∀ t, p t = true → t.rest.length ≤ 1) : ∀ (l : List LTerm) (d m : Int), 0 ≤ d → 0 ≤ m → ((formedL p l d m).1 = true ↔ wfL p l = true ∧ (highL l : Int) ≤ d ∧ (nodesL l : Int) ≤ m) ∧ ((formedL p l d m).1 = true → (formedL p l d m).2 = m - nodesL l)
 | [], d, m, hd, hm => by
   rw [formedL, wfL, highL, nodesL]
   exact ⟨⟨fun _ => ⟨rfl, by omega, by omega⟩, fun _ => rfl⟩, fun _ => by omega⟩
 | k :: l, d, m, hd, hm => by
   obtain ⟨i1, i2⟩ := formedT_spec hp k d m
   rw [formedL, wfL, highL, nodesL]
   split
   · rename_i hk
     have e := i2 hk
     obtain ⟨w, w2, w3⟩ := i1.1 hk
     obtain ⟨j1, j2⟩ := formedL_spec hp l d (formedT p k d m).2 hd (by omega)
     rw [w, Bool.true_and, j1]
     exact ⟨⟨fun ⟨a, b, c⟩ => ⟨a, by omega, by omega⟩, fun ⟨a, b, c⟩ => ⟨a, by omega, by omega⟩⟩, fun h => by have := j2 (j1.2 h); omega⟩
   · rename_i hk
     refine ⟨⟨(fun h => by cases h), fun ⟨a, b, c⟩ => ?_⟩, fun h => by cases h⟩
     rw [Bool.and_eq_true] at a
     exact absurd (i1.2 ⟨a.1, by omega, by omega⟩) hk
end
def validT (p : LTerm → Bool) (t : LTerm) : Bool := wfT p t && decide (highT t ≤ 60) && decide (nodesT t ≤ 2000)
theorem look_valid (hp : ∀ t, p t = true → t.rest.length ≤ 1) (t : LTerm) : (lookT p t 1 0).2 = validT p t := by
 rw [Bool.eq_iff_iff, (lookT_spec hp t 1 0).1, validT]
 simp only [Bool.and_eq_true, decide_eq_true_eq]
 exact ⟨fun ⟨a, b, c⟩ => ⟨⟨a, by omega⟩, by omega⟩, fun ⟨⟨a, b⟩, c⟩ => ⟨a, by omega, by omega⟩⟩
theorem formed_valid (hp : ∀ t, p t = true → t.rest.length ≤ 1) (t : LTerm) : (formedT p t 60 2000).1 = validT p t := by
 rw [Bool.eq_iff_iff, (formedT_spec hp t 60 2000).1, validT]
 simp only [Bool.and_eq_true, decide_eq_true_eq]
 exact ⟨fun ⟨a, b, c⟩ => ⟨⟨a, by omega⟩, by omega⟩, fun ⟨⟨a, b⟩, c⟩ => ⟨a, by omega, by omega⟩⟩
end
end Go.Vo

/-
  Terms, as plain trees, and how they lie in cells; no condition.
-/
import Derived.Test.YtnjnjdebgkjfhaaGreatDoorSoP51
set_option linter.unusedVariables false
set_option linter.unusedSimpArgs false
set_option maxHeartbeats 4000000
namespace Go.Vo

inductive LTerm where
 | mk (kind n : Int) (text sort : Str) (kids rest : List LTerm)
namespace LTerm
def kind : LTerm → Int | mk k _ _ _ _ _ => k
def n : LTerm → Int | mk _ n _ _ _ _ => n
def text : LTerm → Str | mk _ _ t _ _ _ => t
def sort : LTerm → Str | mk _ _ _ s _ _ => s
def kids : LTerm → List LTerm | mk _ _ _ _ k _ => k
def rest : LTerm → List LTerm | mk _ _ _ _ _ r => r
theorem ext_iff {a b : LTerm} : a = b ↔ a.kind = b.kind ∧ a.n = b.n ∧ a.text = b.text ∧ a.sort = b.sort ∧ a.kids = b.kids ∧ a.rest = b.rest := by
 cases a; cases b; simp [kind, n, text, sort, kids, rest]
end LTerm
instance : Inhabited LTerm := ⟨.mk 0 0 [] [] [] []⟩
theorem size_kids {t k : LTerm} (h : k ∈ t.kids) : SizeOf.sizeOf k < SizeOf.sizeOf t := by
 cases t; simp only [LTerm.kids] at h; have := List.sizeOf_lt_of_mem h; simp; omega
theorem size_rest {t k : LTerm} (h : k ∈ t.rest) : SizeOf.sizeOf k < SizeOf.sizeOf t := by
 cases t; simp only [LTerm.rest] at h; have := List.sizeOf_lt_of_mem h; simp; omega
theorem term_ind {Q : LTerm → Prop} (h : ∀ t, (∀ k ∈ t.kids, Q k) → (∀ k ∈ t.rest, Q k) → Q t) (t : LTerm) : Q t :=
 h t (fun k hk => term_ind h k) (fun k hk => term_ind h k)
termination_by SizeOf.sizeOf t
decreasing_by
 · exact size_kids hk
 · exact size_rest hk
mutual
def sameT : LTerm → LTerm → Bool
 | .mk k n t s ks rs, .mk k' n' t' s' ks' rs' => decide (k = k') && decide (n = n') && decide (t = t') && decide (s = s') && sameL ks ks' && sameL rs rs'
def sameL : List LTerm → List LTerm → Bool
 | [], [] => true
 | a :: l, b :: m => sameT a b && sameL l m
 | _, _ => false
end
mutual
theorem sameT_iff : ∀ (a b : LTerm), sameT a b = true ↔ a = b
 | .mk k n t s ks rs, .mk k' n' t' s' ks' rs' => by
   simp only [sameT, Bool.and_eq_true, decide_eq_true_eq, sameL_iff ks ks', sameL_iff rs rs', LTerm.mk.injEq, and_assoc]
theorem sameL_iff : ∀ (l m : List LTerm), sameL l m = true ↔ l = m
 | [], [] => by simp [sameL]
 | a :: l, b :: m => by simp only [sameL, Bool.and_eq_true, sameT_iff a b, sameL_iff l m, List.cons.injEq]
 | [], _ :: _ => by simp [sameL]
 | _ :: _, [] => by simp [sameL]
end
instance : DecidableEq LTerm := fun a b => decidable_of_iff _ (sameT_iff a b)

mutual
def termCells : LTerm → List AV
 | .mk k n t s ks rs => [.i .i64 k, .i .i64 n, .s t, .s s, .sl (termsCells ks) ks.length, .sl (termsCells rs) rs.length]
def termsCells : List LTerm → List AV
 | [] => []
 | t :: l => termCells t ++ termsCells l
end
theorem termsCells_eq : ∀ (l : List LTerm), termsCells l = l.flatMap termCells
 | [] => by simp [termsCells]
 | t :: l => by rw [termsCells, termsCells_eq l, List.flatMap_cons]
def avt (l : List LTerm) : AV := .sl (l.flatMap termCells) l.length
theorem termCells_eq (t : LTerm) : termCells t = [.i .i64 t.kind, .i .i64 t.n, .s t.text, .s t.sort, avt t.kids, avt t.rest] := by
 cases t
 simp only [termCells, termsCells_eq, LTerm.kind, LTerm.n, LTerm.text, LTerm.sort, LTerm.kids, LTerm.rest, avt]
theorem term_len (x : LTerm) : (termCells x).length = 6 := by rw [termCells_eq]; rfl
theorem persL_cons {a : AV} {l : List AV} : persL (a :: l) = (pers a && persL l) := rfl
theorem persL_append : ∀ {l m : List AV}, persL (l ++ m) = (persL l && persL m)
 | [], m => by simp [persL]
 | a :: l, m => by rw [List.cons_append, persL_cons, persL_cons, persL_append, Bool.and_assoc]
theorem persL_flat {α : Type} {f : α → List AV} : ∀ {l : List α}, (∀ x ∈ l, persL (f x) = true) → persL (l.flatMap f) = true
 | [], _ => rfl
 | a :: l, h => by rw [List.flatMap_cons, persL_append, h a (by simp), persL_flat (fun x hx => h x (by simp [hx]))]; rfl
theorem persT (t : LTerm) : persL (termCells t) = true := by
 induction t using term_ind with
 | h t hk hr =>
   rw [termCells_eq]
   simp [persL, avt, pers, persL_flat hk, persL_flat hr]
theorem persTs {l : List LTerm} : persL (l.flatMap termCells) = true := persL_flat fun x _ => persT x
theorem pers_avt {l : List LTerm} : pers (avt l) = true := by simp only [avt, pers, persTs]
section
variable {k : Nat} {l : List LTerm}
theorem term_get0 (h : k < l.length) : (l.flatMap termCells)[k * 6]? = some (.i .i64 (l.getD k default).kind) := by
 have := flat_get term_len l k (j := 0) (by omega)
 simpa [h, List.getD, termCells_eq] using this
theorem term_get1 (h : k < l.length) : (l.flatMap termCells)[k * 6 + 1]? = some (.i .i64 (l.getD k default).n) := by
 have := flat_get term_len l k (j := 1) (by omega)
 simpa [h, List.getD, termCells_eq] using this
theorem term_get2 (h : k < l.length) : (l.flatMap termCells)[k * 6 + 2]? = some (.s (l.getD k default).text) := by
 have := flat_get term_len l k (j := 2) (by omega)
 simpa [h, List.getD, termCells_eq] using this
theorem term_get3 (h : k < l.length) : (l.flatMap termCells)[k * 6 + 3]? = some (.s (l.getD k default).sort) := by
 have := flat_get term_len l k (j := 3) (by omega)
 simpa [h, List.getD, termCells_eq] using this
theorem term_get4 (h : k < l.length) : (l.flatMap termCells)[k * 6 + 4]? = some (avt (l.getD k default).kids) := by
 have := flat_get term_len l k (j := 4) (by omega)
 simpa [h, List.getD, termCells_eq] using this
theorem term_get5 (h : k < l.length) : (l.flatMap termCells)[k * 6 + 5]? = some (avt (l.getD k default).rest) := by
 have := flat_get term_len l k (j := 5) (by omega)
 simpa [h, List.getD, termCells_eq] using this
theorem term_win (h : k < l.length) : ((l.flatMap termCells).drop (k * 6)).take 6 = termCells (l.getD k default) := by
 rw [flat_win term_len]
 simp [h, List.getD]
theorem term_win0 (h : 0 < l.length) : (l.flatMap termCells).take 6 = termCells (l.getD 0 default) := by
 have := term_win h
 simpa using this
theorem term_flat_len : (l.flatMap termCells).length = l.length * 6 := flat_len term_len l
theorem term_take : (l.flatMap termCells).take (k * 6) = (l.take k).flatMap termCells := flat_take term_len l k
end
attribute [go_sem] term_get0 term_get1 term_get2 term_get3 term_get4 term_get5 term_win term_win0 term_flat_len term_take persTs persT pers_avt avt termCells_eq
end Go.Vo

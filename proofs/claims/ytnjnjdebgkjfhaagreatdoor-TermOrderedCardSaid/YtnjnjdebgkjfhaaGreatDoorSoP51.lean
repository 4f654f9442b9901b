/-
  The values that this chapter's functions take, over abstract values; no condition.
-/
import Derived.Test.YtnjnjdebgkjfhaaGreatDoorVoP54
set_option linter.unusedVariables false
set_option linter.unusedSimpArgs false
set_option maxHeartbeats 4000000
namespace Go.Vo

abbrev Str := List UInt8
def avs (l : List Str) : AV := .sl (l.map .s) l.length

def avi (l : List Int) : AV := .sl (l.map (.i .i64)) l.length
def pairCells (b : Str × Str) : List AV := [.s b.1, .s b.2]
def avb (l : List (Str × Str)) : AV := .sl (l.flatMap pairCells) l.length
structure LOp where
 name : Str
 args : List Str
 sort : Str
 pieces : List (Str × Str)
 prec : Int
 assoc : Int
 strict : List Int
 deriving DecidableEq
instance : Inhabited LOp := ⟨⟨[], [], [], [], 0, 0, []⟩⟩
def opCells (o : LOp) : List AV := [.s o.name, avs o.args, .s o.sort, avb o.pieces, .i .i64 o.prec, .i .i64 o.assoc, avi o.strict]
def avo (l : List LOp) : AV := .sl (l.flatMap opCells) l.length
structure LSig where
 sorts : List Str
 below : List (Str × Str)
 ops : List LOp
 funs : List LOp
 values : List Str
 deriving DecidableEq
def sigCells (s : LSig) : List AV := [avs s.sorts, avb s.below, avo s.ops, avo s.funs, avs s.values]

theorem pair_len (x : Str × Str) : (pairCells x).length = 2 := rfl
theorem op_len (x : LOp) : (opCells x).length = 7 := rfl
theorem persL_avs {l : List Str} : pers (avs l) = true := by simp only [avs, pers, persL_s]
theorem persL_avi {l : List Int} : pers (avi l) = true := by simp only [avi, pers, persL_i]
theorem persL_pair {l : List (Str × Str)} : persL (l.flatMap pairCells) = true := by
 induction l with
 | nil => rfl
 | cons x l ih => simp [pairCells, persL, pers, ih]
theorem persL_op {l : List LOp} : persL (l.flatMap opCells) = true := by
 induction l with
 | nil => rfl
 | cons x l ih => simp only [List.flatMap_cons, opCells, List.cons_append, List.nil_append, persL, persL_avs, persL_avi, ih, avb, pers, persL_pair, Bool.and_self]
variable {k : Nat}
theorem pair_get0 {l : List (Str × Str)} (h : k < l.length) : (l.flatMap pairCells)[k * 2]? = some (.s (l.getD k ([], [])).1) := by
 have := flat_get pair_len l k (j := 0) (by omega)
 simpa [h, List.getD, pairCells] using this
theorem pair_get1 {l : List (Str × Str)} (h : k < l.length) : (l.flatMap pairCells)[k * 2 + 1]? = some (.s (l.getD k ([], [])).2) := by
 have := flat_get pair_len l k (j := 1) (by omega)
 simpa [h, List.getD, pairCells] using this
theorem pair_win {l : List (Str × Str)} (h : k < l.length) : ((l.flatMap pairCells).drop (k * 2)).take 2 = pairCells (l.getD k ([], [])) := by
 rw [flat_win pair_len]
 simp [h, List.getD]
theorem pair_flat_len {l : List (Str × Str)} : (l.flatMap pairCells).length = l.length * 2 := flat_len pair_len l
theorem pair_take {l : List (Str × Str)} : (l.flatMap pairCells).take (k * 2) = (l.take k).flatMap pairCells := flat_take pair_len l k
attribute [go_sem] pair_get0 pair_get1 pair_win pair_flat_len pair_take
theorem op_get0 {l : List LOp} (h : k < l.length) : (l.flatMap opCells)[k * 7]? = some (.s (l.getD k default).name) := by
 have := flat_get op_len l k (j := 0) (by omega)
 simpa [h, List.getD, opCells] using this
theorem op_get1 {l : List LOp} (h : k < l.length) : (l.flatMap opCells)[k * 7 + 1]? = some (avs (l.getD k default).args) := by
 have := flat_get op_len l k (j := 1) (by omega)
 simpa [h, List.getD, opCells] using this
theorem op_get2 {l : List LOp} (h : k < l.length) : (l.flatMap opCells)[k * 7 + 2]? = some (.s (l.getD k default).sort) := by
 have := flat_get op_len l k (j := 2) (by omega)
 simpa [h, List.getD, opCells] using this
theorem op_get3 {l : List LOp} (h : k < l.length) : (l.flatMap opCells)[k * 7 + 3]? = some (avb (l.getD k default).pieces) := by
 have := flat_get op_len l k (j := 3) (by omega)
 simpa [h, List.getD, opCells] using this
theorem op_get4 {l : List LOp} (h : k < l.length) : (l.flatMap opCells)[k * 7 + 4]? = some (.i .i64 (l.getD k default).prec) := by
 have := flat_get op_len l k (j := 4) (by omega)
 simpa [h, List.getD, opCells] using this
theorem op_get5 {l : List LOp} (h : k < l.length) : (l.flatMap opCells)[k * 7 + 5]? = some (.i .i64 (l.getD k default).assoc) := by
 have := flat_get op_len l k (j := 5) (by omega)
 simpa [h, List.getD, opCells] using this
theorem op_get6 {l : List LOp} (h : k < l.length) : (l.flatMap opCells)[k * 7 + 6]? = some (avi (l.getD k default).strict) := by
 have := flat_get op_len l k (j := 6) (by omega)
 simpa [h, List.getD, opCells] using this
theorem op_win {l : List LOp} (h : k < l.length) : ((l.flatMap opCells).drop (k * 7)).take 7 = opCells (l.getD k default) := by
 rw [flat_win op_len]
 simp [h, List.getD]
theorem op_flat_len {l : List LOp} : (l.flatMap opCells).length = l.length * 7 := flat_len op_len l
theorem op_take {l : List LOp} : (l.flatMap opCells).take (k * 7) = (l.take k).flatMap opCells := flat_take op_len l k
attribute [go_sem] op_get0 op_get1 op_get2 op_get3 op_get4 op_get5 op_get6 op_win op_flat_len op_take
theorem flatL_pair {l : List (Str × Str)} : flatL (l.flatMap pairCells) = true := by
 induction l with
 | nil => rfl
 | cons x l ih => simp [pairCells, flatL, flat, ih]
attribute [go_sem] persL_pair persL_op flatL_pair avs avi avb avo pairCells opCells sigCells
theorem below_succ {p : Nat → Prop} {k : Nat} (h : ∀ j, j < k → p j) (hk : p k) : ∀ j, j < k + 1 → p j := fun j hj => by
 by_cases h1 : j = k
 · exact h1 ▸ hk
 · exact h j (by omega)
theorem all_getD {α : Type} {l : List α} {p : α → Bool} {d : α} (h : ∀ j, j < l.length → p (l.getD j d) = true) : l.all p = true := by
 rw [List.all_eq_true]
 intro x hx
 obtain ⟨j, hj, rfl⟩ := List.mem_iff_getElem.1 hx
 have := h j hj
 simpa [List.getD, hj] using this
theorem not_all_getD {α : Type} {l : List α} {p : α → Bool} {d : α} {j : Nat} (hj : j < l.length) (h : p (l.getD j d) = false) : l.all p = false := by
 rw [List.all_eq_false]
 exact ⟨l[j], List.getElem_mem hj, by simpa [List.getD, hj] using h⟩
theorem eq_getD {α : Type} {l m : List α} {d : α} (hl : l.length = m.length) (h : ∀ j, j < l.length → l.getD j d = m.getD j d) : l = m := by
 apply List.ext_getElem hl
 intro j h1 h2
 have := h j h1
 simpa [List.getD, h1, h2] using this
theorem take_getD {α : Type} {l : List α} {d : α} {k : Nat} (h : k < l.length) : l.take (k + 1) = l.take k ++ [l.getD k d] := by
 rw [List.take_succ_eq_append_getElem h]; simp [List.getD, h]
end Go.Vo

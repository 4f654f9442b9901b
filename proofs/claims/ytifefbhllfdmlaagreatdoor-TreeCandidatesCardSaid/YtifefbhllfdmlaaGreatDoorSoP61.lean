/-
  The values that this chapter's functions take, over abstract values; no condition.
-/
import Derived.Test.YtifefbhllfdmlaaGreatDoorVoP64
set_option linter.unusedVariables false
set_option linter.unusedSimpArgs false
set_option maxHeartbeats 4000000
namespace Go.Vo

abbrev Str := List UInt8
def avs (l : List Str) : AV := .sl (l.map .s) l.length

def avi (l : List Int) : AV := .sl (l.map (.i .i64)) l.length
def bW (b : Str × Str) : List AV := [.s b.1, .s b.2]
def avb (l : List (Str × Str)) : AV := .sl (l.flatMap bW) l.length
structure LOp where
 name : Str
 args : List Str
 sort : Str
 pieces : List (Str × Str)
 prec : Int
 assoc : Int
 strict : List Int
 deriving DecidableEq
instance : Inhabited LOp := ⟨⟨[], [], [], [], 0, 0, []⟩⟩
def bI (o : LOp) : List AV := [.s o.name, avs o.args, .s o.sort, avb o.pieces, .i .i64 o.prec, .i .i64 o.assoc, avi o.strict]
def avo (l : List LOp) : AV := .sl (l.flatMap bI) l.length
structure cC where
 sorts : List Str
 below : List (Str × Str)
 ops : List LOp
 funs : List LOp
 values : List Str
 deriving DecidableEq
def aN (s : cC) : List AV := [avs s.sorts, avb s.below, avo s.ops, avo s.funs, avs s.values]

theorem wO (x : Str × Str) : (bW x).length = 2 := rfl
theorem aJs (x : LOp) : (bI x).length = 7 := rfl
theorem sX {l : List Str} : pers (avs l) = true := by simp only [avs, pers, iO]
theorem P1 {l : List Int} : pers (avi l) = true := by simp only [avi, pers, fI]
theorem gW {l : List (Str × Str)} : persL (l.flatMap bW) = true := by
 induction l with
 | nil => rfl
 | cons x l ih => simp [bW, persL, pers, ih]
theorem F8 {l : List LOp} : persL (l.flatMap bI) = true := by
 induction l with
 | nil => rfl
 | cons x l ih => simp only [cV, bI, dF, cS, persL, sX, P1, ih, avb, pers, gW, dN]
variable {k : Nat}
theorem aQd {l : List (Str × Str)} (h : k < l.length) : ((l.flatMap bW).drop (k * 2)).take 2 = bW (l.getD k ([], [])) := by
 rw [tM wO]
 simp [h, List.getD]
theorem F9 {l : List (Str × Str)} : (l.flatMap bW).length = l.length * 2 := mR wO l
theorem aJm {l : List (Str × Str)} : (l.flatMap bW).take (k * 2) = (l.take k).flatMap bW := R7 wO l k
attribute [go_sem] aQd F9 aJm
theorem bEb {l : List LOp} (h : k < l.length) : ((l.flatMap bI).drop (k * 7)).take 7 = bI (l.getD k default) := by
 rw [tM aJs]
 simp [h, List.getD]
theorem Y3 {l : List LOp} : (l.flatMap bI).length = l.length * 7 := mR aJs l
attribute [go_sem] bEb Y3
attribute [go_sem] gW F8 avs avi avb avo bW bI aN
theorem aY {p : Nat → Prop} {k : Nat} (h : ∀ j, j < k → p j) (hk : p k) : ∀ j, j < k + 1 → p j := fun j hj => by
 by_cases h1 : j = k
 · exact h1 ▸ hk
 · exact h j (by omega)
theorem iV {α : Type} {l : List α} {p : α → Bool} {d : α} (h : ∀ j, j < l.length → p (l.getD j d) = true) : l.all p = true := by
 rw [aL]
 intro x hx
 obtain ⟨j, hj, rfl⟩ := bL.1 hx
 have := h j hj
 simpa [List.getD, hj] using this
theorem eH {α : Type} {l : List α} {p : α → Bool} {d : α} {j : Nat} (hj : j < l.length) (h : p (l.getD j d) = false) : l.all p = false := by
 rw [jD]
 exact ⟨l[j], rZ hj, by simpa [List.getD, hj] using h⟩
theorem aLm {α : Type} {l m : List α} {d : α} (hl : l.length = m.length) (h : ∀ j, j < l.length → l.getD j d = m.getD j d) : l = m := by
 apply L6 hl
 intro j h1 h2
 have := h j h1
 simpa [List.getD, h1, h2] using this
theorem eU {α : Type} {l : List α} {d : α} {k : Nat} (h : k < l.length) : l.take (k + 1) = l.take k ++ [l.getD k d] := by
 rw [pK h]; simp [List.getD, h]
end Go.Vo

/-
  The abstract layer, part Z: paths that meet again. It speaks of any program; no condition.
-/
import Derived.Test.YtifefbhllfdmlaaGreatDoorVoP64
set_option linter.unusedVariables false
set_option linter.unusedSimpArgs false
namespace Go.Vo
section
variable {P : Program} {G : eX} {K K' : AV → List AObj → Prop}
end
section
variable {P : Program} {G : eX} {X : Ctx} {w : World} {h : List AObj}
end
def aOf : AV → Bool
 | .e0 => true
 | a => pers a
def aUl (h : List AObj) (a : AV) : List Nat := dL dep h a
def hsQ (o : Option AObj) (id : Nat) (alt : List Nat) : List Nat :=
 match o with
 | some (.arr _ _ cells) => if cells.all aOf then [id] else alt
 | _ => alt
def bOd (cells : List AV) (alt : List Nat) : List Nat := if cells.all aOf then [] else alt
theorem aFh {h : List AObj} {a : AV} {k : Nat} (e : aOf a = true) : dL k h a = [] := by
 cases k with
 | zero => rfl
 | succ k =>
   rw [dL]
   by_cases hp : pers a = true
   · rw [if_pos hp]
   · rw [if_neg hp]
     cases a with
     | e0 => rfl
     | _ => exact absurd e hp
theorem xN {h : List AObj} {l : List AV} {k : Nat} (e : l.all aOf = true) : l.flatMap (dL k h) = [] := by
 induction l with
 | nil => rfl
 | cons a l ih =>
   rw [gR, aB] at e
   rw [cV, aFh e.1, ih e.2, List.append_nil]
theorem aPm {h : List AObj} {id off n : Nat} {t : Bool} : dL dep h (.hs id off n t) = hsQ h[id]? id (aUl h (.hs id off n t)) := by
 cases ho : h[id]? with
 | none => rfl
 | some o =>
   cases o with
   | arr fz sz cells =>
     simp only [hsQ]
     split
     · rename_i e
       have e2 : ((cells.drop off).take (n * sz)).all aOf = true := aL.2 fun x hx => aL.1 e x (List.mem_of_mem_drop (List.mem_of_mem_take hx))
       rw [xO]
       simp only [pers, aP, if_false, aBl, ho, xN e2, ite_self]
     · rfl
   | _ => rfl
theorem aIq {h : List AObj} {cells : List AV} : dL dep h (.agg cells) = bOd cells (aUl h (.agg cells)) := by
 unfold bOd
 split
 · rename_i e
   rw [xO]
   by_cases hp : pers (.agg cells) = true
   · rw [if_pos hp]
   · rw [if_neg hp]
     simp only [aBl, xN e, ite_self]
 · rfl
attribute [go_sem ↓] aPm aIq
attribute [go_sem] hsQ bOd aOf gR List.all_nil
end Go.Vo

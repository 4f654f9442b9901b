/-
  The abstract layer, part Z: paths that meet again. It speaks of any program; no condition.
-/
import Derived.Test.YtifefbhllfdmlaaGreatDoorVoP44
set_option linter.unusedVariables false
set_option linter.unusedSimpArgs false
namespace Go.Vo
section
variable {P : Program} {G : eW} {K K' : AV → List AObj → Prop}
end
section
variable {P : Program} {G : eW} {X : Ctx} {w : World} {h : List AObj}
end
def aOk : AV → Bool
 | .e0 => true
 | a => pers a
def aUj (h : List AObj) (a : AV) : List Nat := dN dep h a
def hsQ (o : Option AObj) (id : Nat) (alt : List Nat) : List Nat :=
 match o with
 | some (.arr _ _ cells) => if cells.all aOk then [id] else alt
 | _ => alt
def bOp (cells : List AV) (alt : List Nat) : List Nat := if cells.all aOk then [] else alt
theorem aFi {h : List AObj} {a : AV} {k : Nat} (e : aOk a = true) : dN k h a = [] := by
 cases k with
 | zero => rfl
 | succ k =>
   rw [dN]
   by_cases hp : pers a = true
   · rw [if_pos hp]
   · rw [if_neg hp]
     cases a with
     | e0 => rfl
     | _ => exact absurd e hp
theorem wZ {h : List AObj} {l : List AV} {k : Nat} (e : l.all aOk = true) : l.flatMap (dN k h) = [] := by
 induction l with
 | nil => rfl
 | cons a l ih =>
   rw [jJ, aB] at e
   rw [cY, aFi e.1, ih e.2, List.append_nil]
theorem aPn {h : List AObj} {id off n : Nat} {t : Bool} : dN dep h (.hs id off n t) = hsQ h[id]? id (aUj h (.hs id off n t)) := by
 cases ho : h[id]? with
 | none => rfl
 | some o =>
   cases o with
   | arr fz sz cells =>
     simp only [hsQ]
     split
     · rename_i e
       have e2 : ((cells.drop off).take (n * sz)).all aOk = true := aU.2 fun x hx => aU.1 e x (List.mem_of_mem_drop (rU hx))
       rw [xA]
       simp only [pers, aP, if_false, aBr, ho, wZ e2, ite_self]
     · rfl
   | _ => rfl
theorem aIr {h : List AObj} {cells : List AV} : dN dep h (.agg cells) = bOp cells (aUj h (.agg cells)) := by
 unfold bOp
 split
 · rename_i e
   rw [xA]
   by_cases hp : pers (.agg cells) = true
   · rw [if_pos hp]
   · rw [if_neg hp]
     simp only [aBr, wZ e, ite_self]
 · rfl
attribute [go_sem ↓] aPn aIr
attribute [go_sem] hsQ bOp aOk jJ List.all_nil
end Go.Vo

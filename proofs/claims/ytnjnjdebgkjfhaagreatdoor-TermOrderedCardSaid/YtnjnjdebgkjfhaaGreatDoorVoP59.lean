/-
  The abstract layer, part Z: paths that meet again. It speaks of any program; no condition.
-/
import Derived.Test.YtnjnjdebgkjfhaaGreatDoorVoP54
set_option linter.unusedVariables false
set_option linter.unusedSimpArgs false
namespace Go.Vo
section
variable {P : Program} {G : Glob} {K K' : AV → List AObj → Prop}
theorem seq_h {a b : ACode} {Q : Exit → List AV → List AObj → Prop} {env : List AV} {h : List AObj} (k : ∀ K : List AV → List AObj → Prop, awx P G b Q = K → awx P G a (thenX K Q) env h) : awx P G (.seq a b) Q env h := by rw [awx]; exact k _ rfl
end
section
variable {P : Program} {G : Glob} {X : Ctx} {w : World} {h : List AObj}
end
def e0ok : AV → Bool
 | .e0 => true
 | a => pers a
def reachN (h : List AObj) (a : AV) : List Nat := reach dep h a
def hsQ (o : Option AObj) (id : Nat) (alt : List Nat) : List Nat :=
 match o with
 | some (.arr _ _ cells) => if cells.all e0ok then [id] else alt
 | _ => alt
def aggQ (cells : List AV) (alt : List Nat) : List Nat := if cells.all e0ok then [] else alt
theorem reach_e0ok {h : List AObj} {a : AV} {k : Nat} (e : e0ok a = true) : reach k h a = [] := by
 cases k with
 | zero => rfl
 | succ k =>
   rw [reach]
   by_cases hp : pers a = true
   · rw [if_pos hp]
   · rw [if_neg hp]
     cases a with
     | e0 => rfl
     | _ => exact absurd e hp
theorem reachs_e0ok {h : List AObj} {l : List AV} {k : Nat} (e : l.all e0ok = true) : l.flatMap (reach k h) = [] := by
 induction l with
 | nil => rfl
 | cons a l ih =>
   rw [List.all_cons, Bool.and_eq_true] at e
   rw [List.flatMap_cons, reach_e0ok e.1, ih e.2, List.append_nil]
theorem reach_hs {h : List AObj} {id off n : Nat} {t : Bool} : reach dep h (.hs id off n t) = hsQ h[id]? id (reachN h (.hs id off n t)) := by
 cases ho : h[id]? with
 | none => rfl
 | some o =>
   cases o with
   | arr fz sz cells =>
     simp only [hsQ]
     split
     · rename_i e
       have e2 : ((cells.drop off).take (n * sz)).all e0ok = true := List.all_eq_true.2 fun x hx => List.all_eq_true.1 e x (List.mem_of_mem_drop (List.mem_of_mem_take hx))
       rw [reach_dep]
       simp only [pers, Bool.false_eq_true, if_false, reachK, ho, reachs_e0ok e2, ite_self]
     · rfl
   | _ => rfl
theorem reach_agg {h : List AObj} {cells : List AV} : reach dep h (.agg cells) = aggQ cells (reachN h (.agg cells)) := by
 unfold aggQ
 split
 · rename_i e
   rw [reach_dep]
   by_cases hp : pers (.agg cells) = true
   · rw [if_pos hp]
   · rw [if_neg hp]
     simp only [reachK, reachs_e0ok e, ite_self]
 · rfl
attribute [go_sem ↓] reach_hs reach_agg
attribute [go_sem] hsQ aggQ e0ok List.all_cons List.all_nil
end Go.Vo

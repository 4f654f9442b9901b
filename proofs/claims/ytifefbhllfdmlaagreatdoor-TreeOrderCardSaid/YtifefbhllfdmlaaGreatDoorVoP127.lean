/-
  The abstract layer, part Z: paths that meet again. It speaks of any program; no condition.
-/
import Derived.Test.YtifefbhllfdmlaaGreatDoorVoP124
set_option linter.unusedVariables false
set_option linter.unusedSimpArgs false
namespace Go.Vo
section
variable {P:Program} {G:Md} {K K':AV→List AObj→Prop}
end
section
variable {P:Program} {G:Glob} {X:Ctx} {w:World} {h:List AObj}
end
def aAj:AV→Bool
 | .e0=>true
 | a=>pers a
def aVa (h:List AObj) (a:AV):List Nat:=dJ dep h a
def hsQ (o:Option AObj) (id:Nat) (alt:List Nat):List Nat:=
 match o with
 | some (.arr _ _ cells)=>if cells.all aAj then [id] else alt
 | _=>alt
def bIo (cells:List AV) (alt:List Nat):List Nat:=if cells.all aAj then [] else alt
theorem D4 {h:List AObj} {a:AV} {k:Nat} (e:aAj a=true):dJ k h a=[]:=by
 cases k with
 | zero=>rfl
 | succ k=>
   rw [dJ]
   by_cases hp:pers a=true
   · rw [if_pos hp]
   · rw [if_neg hp]
     cases a with
     | e0=>rfl
     | _=>exact absurd e hp
theorem xS {h:List AObj} {l:List AV} {k:Nat} (e:l.all aAj=true):l.flatMap (dJ k h)=[]:=by
 induction l with
 | nil=>rfl
 | cons a l ih=>
   rw [hY,aB] at e
   rw [dL,D4 e.1,ih e.2,List.append_nil]
theorem wK {h:List AObj} {id off n:Nat} {t:Bool}:dJ dep h (.hs id off n t)=hsQ h[id]? id (aVa h (.hs id off n t)):=by
 cases ho:h[id]? with
 | none=>rfl
 | some o=>
   cases o with
   | arr fz sz cells=>
     simp only [hsQ]
     split
     · rename_i e
       have e2:((cells.drop off).take (n * sz)).all aAj=true:=aV.2 fun x hx=>aV.1 e x (List.mem_of_mem_drop (sC hx))
       rw [sU]
       simp only [pers,aH,if_false,xV,ho,xS e2,ite_self]
     · rfl
   | _=>rfl
theorem xT {h:List AObj} {cells:List AV}:dJ dep h (.agg cells)=bIo cells (aVa h (.agg cells)):=by
 unfold bIo
 split
 · rename_i e
   rw [sU]
   by_cases hp:pers (.agg cells)=true
   · rw [if_pos hp]
   · rw [if_neg hp]
     simp only [xV,xS e,ite_self]
 · rfl
attribute [go_sem ↓] wK xT
attribute [go_sem] hsQ bIo aAj hY List.all_nil
end Go.Vo

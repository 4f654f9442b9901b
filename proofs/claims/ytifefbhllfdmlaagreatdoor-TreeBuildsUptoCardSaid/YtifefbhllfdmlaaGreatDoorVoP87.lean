/-
  The abstract layer, part Z: paths that meet again. It speaks of any program; no condition.
-/
import Derived.Test.YtifefbhllfdmlaaGreatDoorVoP84
set_option linter.unusedVariables false
set_option linter.unusedSimpArgs false
namespace Go.Vo
section
variable {P:Program} {G:fS} {K K':AV→List AObj→Prop}
end
section
variable {P:Program} {G:fS} {X:Ctx} {w:World} {h:List AObj}
end
def aIn:AV→Bool
 | .e0=>true
 | a=>pers a
def bCe (h:List AObj) (a:AV):List Nat:=dR dep h a
def hsQ (o:Option AObj) (id:Nat) (alt:List Nat):List Nat:=
 match o with
 | some (.arr _ _ cells)=>if cells.all aIn then [id] else alt
 | _=>alt
def bSr (cells:List AV) (alt:List Nat):List Nat:=if cells.all aIn then [] else alt
theorem M8 {h:List AObj} {a:AV} {k:Nat} (e:aIn a=true):dR k h a=[]:=by
 cases k with
 | zero=>rfl
 | succ k=>
   rw [dR]
   by_cases hp:pers a=true
   · rw [if_pos hp]
   · rw [if_neg hp]
     cases a with
     | e0=>rfl
     | _=>exact absurd e hp
theorem C7 {h:List AObj} {l:List AV} {k:Nat} (e:l.all aIn=true):l.flatMap (dR k h)=[]:=by
 induction l with
 | nil=>rfl
 | cons a l ih=>
   rw [eC,aA] at e
   rw [dJ,M8 e.1,ih e.2,List.append_nil]
theorem Q6 {h:List AObj} {id off n:Nat} {t:Bool}:dR dep h (.hs id off n t)=hsQ h[id]? id (bCe h (.hs id off n t)):=by
 cases ho:h[id]? with
 | none=>rfl
 | some o=>
   cases o with
   | arr fz sz cells=>
     simp only [hsQ]
     split
     · rename_i e
       have e2:((cells.drop off).take (n * sz)).all aIn=true:=aN.2 fun x hx=>aN.1 e x (List.mem_of_mem_drop (nN hx))
       rw [vG]
       simp only [pers,aM,if_false,D0,ho,C7 e2,ite_self]
     · rfl
   | _=>rfl
theorem C8 {h:List AObj} {cells:List AV}:dR dep h (.agg cells)=bSr cells (bCe h (.agg cells)):=by
 unfold bSr
 split
 · rename_i e
   rw [vG]
   by_cases hp:pers (.agg cells)=true
   · rw [if_pos hp]
   · rw [if_neg hp]
     simp only [D0,C7 e,ite_self]
 · rfl
attribute [go_sem ↓] Q6 C8
attribute [go_sem] hsQ bSr aIn eC List.all_nil
end Go.Vo

/-
  The abstract layer, part Zc: what a call over the caller's objects returns is a value from now on, and a call over one object is told over all. It speaks of any program; no condition.
-/
import Derived.Test.YtifefbhllfdmlaaGreatDoorVoP130
set_option linter.unusedVariables false
set_option linter.unusedSimpArgs false
namespace Go.Vo
section
variable {P:Program} {G:Glob}
theorem aBa {f:FuncId} {A:List AV} {h:List AObj} {K:AV→List AObj→Prop} (s:ACalls P G f A h K):ACalls P G f A h (fun r h'=>∃ r0 h0,K r0 h0∧r=fU dep h0 r0∧h'=freeze (dJ dep h0 r0) h0):=
 ⟨s.1,fun X w vs g hl hr=>(s.2 X w vs g hl hr).mono fun e w' ⟨v,r,h',X',he,hk,g1,r1,t⟩=>by
   obtain ⟨X2,g2,r2,t2⟩:=rS g1 r1
   exact ⟨v,_,_,X2,he,⟨r,h',hk,rfl,rfl⟩,g2,r2,t.trans t2⟩⟩
theorem zY {f:FuncId} {A:List AV} {h h1:List AObj} {r0:AV} (hG:oT G) (s:ACalls P G f A h (fun r h'=>fU dep h' r=r0∧∃ z,freeze (dJ dep h' r) h'=h1++z)) (hr:pers r0=true) (ho:h1.all AObj.persO=true) (hl:h.length≤h1.length):ACalls P G f A h (fun r h'=>r=r0∧h'=h1):=
 uB hG ((aBa s).mono (by rintro r h' ⟨a,b,⟨e,z,ez⟩,rfl,rfl⟩; exact ⟨e,z,ez⟩)) hr ho hl
theorem zL {f:FuncId} {A A0:List AV} {h:List AObj} {cells cells':List AV} {r:AV} (id:Nat) (hG:oT G) (s:ACalls P G f A0 [.box false cells] (fun r0 h1=>r0=r∧h1=[.box false cells'])) (hp:persL cells=true) (hp':persL cells'=true) (hr:pers r=true)
   (hid:h[id]? = some (.box false cells)) (hA:A=renL (emb [id] h.length) A0):ACalls P G f A h (fun r1 h1=>r1=r∧h1=h.set id (.box false cells')):=by
 refine (frame (is:=[id]) hG s (by simp) rfl (fun i o ho=>?_) hA).mono ?_
 · cases i with
   | zero=>
     simp only [bP,aA] at ho
     subst ho
     simp only [iT,AObj.ren,renL_pers _ _ hp]
     exact hid
   | succ i=>simp at ho
 · rintro r' h' ⟨r0,h1,⟨rfl,rfl⟩,_,rfl,rfl⟩
   rw [wJ _ _ hr]
   simp only [pR,aO,bE,kH,aD,aY,cZ,eW,dX,AObj.ren,renL_pers _ _ hp',List.append_nil]
   refine ⟨?_,?_⟩ <;> first | trivial | rfl
end
end Go.Vo

/-
  The abstract layer, part Zb: what a call leaves behind is forgotten, where no value speaks of it. It speaks of any program; no condition.
-/
import Derived.Test.YtifefbhllfdmlaaGreatDoorVoP128
set_option linter.unusedVariables false
set_option linter.unusedSimpArgs false
namespace Go.Vo
def AObj.persO:AObj→Bool
 | .box _ c=>persL c
 | .arr _ _ c=>persL c
 | _=>false
section
variable {P:Program} {G:Md}
theorem uB {G:Glob} {f:FuncId} {A:List AV} {h h1:List AObj} {r0:AV} (hG:oT G) (s:ACalls P G f A h (fun r h'=>r=r0∧∃ g,h'=h1++g)) (hr:pers r0=true) (ho:h1.all AObj.persO=true) (hl:h.length≤h1.length):ACalls P G f A h (fun r h'=>r=r0∧h'=h1):=by
 refine ⟨s.1,fun X w vs g hlv hrv=>(s.2 X w vs g hlv hrv).mono ?_⟩
 rintro e w' ⟨v,r,h',X',he,⟨rfl,gg,rfl⟩,g1,r1,t⟩
 let X2:Ctx:=⟨X'.F,fun id=>if id < h1.length then X'.ι id else Option.none⟩
 have hι:∀ id,id < h1.length→X2.ι id=X'.ι id:=fun id hi=>by simp [X2,hi]
 have hιs:∀ id bo,X2.ι id=some bo→id < h1.length∧X'.ι id=some bo:=fun id bo hb=>by
   by_cases hi:id < h1.length
   · rw [hι id hi] at hb; exact ⟨hi,hb⟩
   · simp [X2,hi] at hb
 have left:∀ {id:Nat} {o:AObj},h1[id]? = some o→(h1++gg)[id]? = some o:=fun hi=>by rw [aC (aK hi)]; exact hi
 have left':∀ {id:Nat},id < h1.length→(h1++gg)[id]? = h1[id]? := fun hi=>aC hi
 refine ⟨v,r,h1,X2,he,⟨rfl,rfl⟩,⟨?_,?_,?_,?_,g1.fbnd,fun k a hk=>(g1.gl k a hk).pers (hG k a hk) (fun b hb=>hb) (fun _ _=>rfl)⟩,r1.pers hr (fun b hb=>hb) (fun _ _=>rfl),⟨⟨t.step.size,t.step.os,t.step.tape,t.step.output,t.step.frame,?_,t.step.fnew⟩,⟨t.ext.fr,t.ext.keep,t.ext.shp,?_⟩,?_⟩⟩
 · intro id ob hob
   have hlt:=aK hob
   have ok:=g1.objs id ob (left hob)
   have hp:ob.persO=true:=aV.1 ho ob (cT hob)
   cases ok with
   | absent h0 hh=>exact .absent ((hι id hlt).trans h0) hh
   | box h0 h2 h3 h4 h5 h6 h7=>exact .box ((hι id hlt).trans h0) h2 h3 h4 h5 h6 (fun j a v ha hv=>(h7 j a v ha hv).pers (gM hp j a ha) (fun b hb=>hb) (fun _ _=>rfl))
   | arr h0 h2 h3 h4 h5 h6 h7=>exact .arr ((hι id hlt).trans h0) h2 h3 h4 h5 h6 (fun j a v ha hv=>(h7 j a v ha hv).pers (gM hp j a ha) (fun b hb=>hb) (fun _ _=>rfl))
   | _=>cases hp
 · intro id bo hb
   obtain ⟨hlt,_⟩:=hιs id bo hb
   exact ⟨h1[id],bQ hlt⟩
 · intro id id' b o o' hb hb'
   exact g1.inj id id' b o o' (hιs _ _ hb).2 (hιs _ _ hb').2
 · intro id b o hb
   exact g1.bnd id b o (hιs _ _ hb).2
 · intro id b o hb
   exact t.step.new id b o (hιs _ _ hb).2
 · intro id o hid
   have hlt:=aK hid
   obtain ⟨o',ho',c⟩:=t.ext.obj id o hid
   rw [left' (by omega)] at ho'
   refine ⟨o',ho',c.imp (fun q=>q) (fun c=>⟨c.1,?_⟩)⟩
   rw [hι id (by omega)]
   exact c.2
 · intro id z hid hz
   have hlt:=aK hid
   have:=t.abs id z hid hz
   rwa [left' (by omega)] at this
theorem aTj {N:DR} {d:Option Nat} {os:List fI} {K:List AV→List AObj→Prop} {env:List AV} {h h':List AObj} {f:FuncId} {A A':List AV} {x:AV} (s:ACalls P G f A' h (fun x1 h1=>x1=x∧h1=h')) (hA:A=A') (hg:lC N h h') (k:dB P G (some N) os K (gJ env d x) h'):bJh P G N f A d os K env h:=
 ⟨x,h',hA ▸ s,hg,k⟩
theorem wU {N:DR} {h:List AObj} {id:Nat} {ob:AObj} (hn:¬ N.old id):lC N h (h.set id ob):=fun i o hi ho=>⟨o,by
 have:id ≠ i:=fun e=>hn (e ▸ hi)
 rw [dE this]; exact ho,rfl⟩
def E5 (P:Program) (G:Md) (N:DR) (c:AV) (want:Bool) (op:Op) (d:Option Nat) (os:List fI) (K:List AV→List AObj→Prop) (env:List AV) (h:List AObj):Prop:=
 pY (wS c want) (ckV P G N op d os K env h) (dB P G (some N) os K (gJ env d (.tup [])) h)
section
variable {N:DR} {d:Option Nat} {os:List fI} {K:List AV→List AObj→Prop} {env:List AV} {h:List AObj} {op:Op}
theorem aYs {t:Nat} {want:Bool}:dB P G (some N) (⟨d,op,some (t,want),true⟩::os) K env h=E5 P G N (env.getD t .u) want op d os K env h:=by
 rw [E5,← aVi]; rfl
theorem bKy:E5 P G N (.b true) true op d os K env h=ckV P G N op d os K env h:=by simp [E5,wS,pY]
theorem bKz:E5 P G N (.b false) true op d os K env h=dB P G (some N) os K (gJ env d (.tup [])) h:=by simp [E5,wS,pY]
attribute [go_sem] aYs bKy bKz
end
end
end Go.Vo

/-
  The abstract layer, part Zb: what a call leaves behind is forgotten, where no value speaks of it. It speaks of any program; no condition.
-/
import Derived.Test.YtdjcggcjlphdoaaGreatDoorVoP19
set_option linter.unusedVariables false
set_option linter.unusedSimpArgs false
namespace Go.Vo
def AObj.persO:AObj→Bool
 | .box _ c=>persL c
 | .arr _ _ c=>persL c
 |_=>false
section
variable {P:Program} {G:Md}
theorem zZ{G:Glob}{f:FuncId}{A:List AV}{h h1:List AObj}{r0:AV}(hG:oR G)(s:ACalls P G f A h (fun r h'=>r=r0∧∃g,h'=h1++g))(hr:pers r0=true)(ho:h1.all AObj.persO=true)(hl:h.length≤h1.length):ACalls P G f A h (fun r h'=>r=r0∧h'=h1):=by
 refine⟨s.1,fun X w vs g hlv hrv=>(s.2 X w vs g hlv hrv).mono ?_⟩;rintro e w' ⟨v,r,h',X',he,⟨rfl,gg,rfl⟩,g1,r1,t⟩;let X2:Ctx:=⟨X'.F,fun id=>if id<h1.length then X'.ι id else Option.none⟩;have hι:∀id,id<h1.length→X2.ι id=X'.ι id:=fun id hi=>by simp[X2,hi]
 have hιs:∀id bo,X2.ι id=some bo→id<h1.length∧X'.ι id=some bo:=fun id bo hb=>by
  by_cases hi:id<h1.length
  ·rw[hι id hi]at hb;exact⟨hi,hb⟩
  ·simp[X2,hi]at hb
 have left:∀{id:Nat} {o:AObj},h1[id]? = some o→(h1++gg)[id]? = some o:=fun hi=>by rw[aG (bP hi)];exact hi
 have left':∀{id:Nat},id<h1.length→(h1++gg)[id]? = h1[id]? := fun hi=>aG hi;refine⟨v,r,h1,X2,he,⟨rfl,rfl⟩,⟨?_,?_,?_,?_,g1.fbnd,fun k a hk=>(g1.gl k a hk).pers (hG k a hk) (fun b hb=>hb) (fun _ _=>rfl)⟩,r1.pers hr (fun b hb=>hb) (fun _ _=>rfl),⟨⟨t.step.size,t.step.os,t.step.tape,t.step.output,t.step.frame,?_,t.step.fnew⟩,⟨t.ext.fr,t.ext.keep,t.ext.shp,?_⟩,?_⟩⟩
 ·intro id ob hob;have hlt:=bP hob;have ok:=g1.objs id ob (left hob);have hp:ob.persO=true:=bF.1 ho ob (eD hob);cases ok with
  |absent h0 hh=>exact .absent ((hι id hlt).trans h0) hh
  |box h0 h2 h3 h4 h5 h6 h7=>exact .box ((hι id hlt).trans h0) h2 h3 h4 h5 h6 (fun j a v ha hv=>(h7 j a v ha hv).pers (iN hp j a ha) (fun b hb=>hb) (fun _ _=>rfl))
  |arr h0 h2 h3 h4 h5 h6 h7 h8=>exact .arr ((hι id hlt).trans h0) h2 h3 h4 h5 h6 (fun j a v ha hv=>(h7 j a v ha hv).pers (iN hp j a ha) (fun b hb=>hb) (fun _ _=>rfl)) h8
  |_=>cases hp
 ·intro id bo hb;obtain⟨hlt,_⟩:=hιs id bo hb;exact⟨h1[id],bL hlt⟩
 ·intro id id' b o o' hb hb';exact g1.inj id id' b o o' (hιs _ _ hb).2 (hιs _ _ hb').2
 ·intro id b o hb;exact g1.bnd id b o (hιs _ _ hb).2
 ·intro id b o hb;exact t.step.new id b o (hιs _ _ hb).2
 ·intro id o hid;have hlt:=bP hid;obtain⟨o',ho',c⟩:=t.ext.obj id o hid;rw[left' (by omega)]at ho';refine⟨o',ho',c.imp (fun q=>q) (fun c=>⟨c.1,?_⟩)⟩;rw[hι id (by omega)];exact c.2
 ·intro id z hid hz;have hlt:=bP hid;have:=t.abs id z hid hz;rwa[left' (by omega)]at this
theorem cFo{N:DR}{d:Option Nat}{os:List gA}{K:List AV→List AObj→Prop}{env:List AV}{h h':List AObj}{f:FuncId}{A A':List AV}{x:AV}(s:ACalls P G f A' h (fun x1 h1=>x1=x∧h1=h'))(hA:A=A')(hg:nK N h h')(k:dN P G (some N) os K (iV env d x) h'):cAj P G N f A d os K env h:=
 ⟨x,h',hA▸s,hg,k⟩
theorem bFp{N:DR}{h:List AObj}{id:Nat}{ob:AObj}(hn:¬N.old id):nK N h (h.set id ob):=fun i o hi ho=>⟨o,by
 have:id≠i:=fun e=>hn (e▸hi);rw[dW this];exact ho,rfl⟩
section
variable {N:DR} {d:Option Nat} {os:List gA} {K:List AV→List AObj→Prop} {env:List AV} {h:List AObj} {op:Op}
end
end
section
variable {P:Program} {G:Glob}
theorem aKg{f:FuncId}{A:List AV}{h:List AObj}{K:AV→List AObj→Prop}(s:ACalls P G f A h K):ACalls P G f A h (fun r h'=>∃r0 h0,K r0 h0∧r=gZ dep h0 r0∧h'=freeze (eH dep h0 r0) h0):=
 ⟨s.1,fun X w vs g hl hr=>(s.2 X w vs g hl hr).mono fun e w' ⟨v,r,h',X',he,hk,g1,r1,t⟩=>by
  obtain⟨X2,g2,r2,t2⟩:=pH g1 r1;exact⟨v,_,_,X2,he,⟨r,h',hk,rfl,rfl⟩,g2,r2,t.trans t2⟩⟩
theorem pP{f:FuncId}{A:List AV}{h h1:List AObj}{r0:AV}(hG:oR G)(s:ACalls P G f A h (fun r h'=>gZ dep h' r=r0∧∃z,freeze (eH dep h' r) h'=h1++z))(hr:pers r0=true)(ho:h1.all AObj.persO=true)(hl:h.length≤h1.length):ACalls P G f A h (fun r h'=>r=r0∧h'=h1):=
 zZ hG ((aKg s).mono (by rintro r h' ⟨a,b,⟨e,z,ez⟩,rfl,rfl⟩;exact⟨e,z,ez⟩)) hr ho hl
theorem uT{f:FuncId}{A A0:List AV}{h:List AObj}{cells cells':List AV}{r:AV}(id:Nat)(hG:oR G)(s:ACalls P G f A0 [.box false cells] (fun r0 h1=>r0=r∧h1=[.box false cells']))(hp:persL cells=true)(hp':persL cells'=true)(hr:pers r=true)
 (hid:h[id]? = some (.box false cells)) (hA:A=renL (emb [id] h.length) A0):ACalls P G f A h (fun r1 h1=>r1=r∧h1=h.set id (.box false cells')):=by
 refine(frame (is:=[id]) hG s (by simp) rfl (fun i o ho=>?_) hA).mono ?_
 ·cases i with
  |zero=>
   simp only[bT,aB]at ho;subst ho;simp only[eM,AObj.ren,renL_pers _ _ hp];exact hid
  |succ i=>simp at ho
 ·rintro r' h' ⟨r0,h1,⟨rfl,rfl⟩,_,rfl,rfl⟩;rw[yH _ _ hr];simp only[yQ,aK,aZ,mW,aQ,cB,dM,aT,bG,AObj.ren,renL_pers _ _ hp',List.append_nil];refine⟨?_,?_⟩<;>first|trivial|rfl
end
end Go.Vo

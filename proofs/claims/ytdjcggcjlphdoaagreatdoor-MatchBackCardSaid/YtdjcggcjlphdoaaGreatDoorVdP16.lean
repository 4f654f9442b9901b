/-
  Functions of the chapter, as plain functions of what they are given; no condition.
-/
import Derived.Test.YtdjcggcjlphdoaaGreatDoorVdP13
import Derived.Test.YtdjcggcjlphdoaaGreatDoorVcP15
import Derived.Test.YtdjcggcjlphdoaaGreatDoorVoP22
import Derived.Lib.ItoaLen
import Derived.Test.YtdjcggcjlphdoaaGreatDoorSoP13
import Derived.Test.YtdjcggcjlphdoaaGreatDoorVeP12
import Derived.Test.YtdjcggcjlphdoaaGreatDoorVaP17
set_option maxRecDepth 100000
set_option linter.unusedSimpArgs false
set_option linter.unusedVariables false
set_option maxHeartbeats 4000000
namespace Go.Proofs.YtdjcggcjlphdoaaGreatDoor
open Go Go.Vo
open Nat (reduceAdd reduceSub reduceMul reduceLeDiff reduceLT reduceEqDiff)
open Int (reduceNeg)
theorem cAe{N:DR}{f:FuncId}{A A0:List AV}{r:AV}{d:Option Nat}{os:List gA}{K:List AV→List AObj→Prop}{env:List AV}{cells cells':List AV}{t:List AObj}(c:ACalls Tryz.prog G0 f A0 [.box false cells] (fun r0 h1=>r0=r∧h1=[.box false cells']))(hp:persL cells=true)(hp':persL cells'=true)(hr:pers r=true)
 (hA:A=renL (emb [0] (.box false cells::t).length) A0) (hn:¬N.old 0) (k:dN Tryz.prog (pl G0) (some N) os K (iV env d r) (.box false cells'::t)):cAj Tryz.prog (pl G0) N f A d os K env (.box false cells::t):=
 cFo (uT 0 g0 c hp hp' hr rfl hA) rfl (bFp hn) k
theorem bXr(u:LSub): CT 76 [tmA u] (.b true):=by
 refine eG cZ Tryz.func76 g0 ?_
 ·simp -implicitDefEqProofs (disch:=omega) only[Tryz.f76,go_sem,List.replicate,simprocAttr,tmA];(refine zs0 ?_;repeat' first|exact trivial|refine zJ ?_ ?_|refine zH fun hc=>?_);all_goals exact bV rfl rfl
theorem aPg{a b:LTerm}(h1:a.kind=b.kind)(h2:a.n=b.n)(h3:a.text=b.text)(h4:a.sort=b.sort)(h5:a.kids=b.kids)(h6:a.rest=b.rest):a=b:=by
 cases a;cases b;dsimp only[LTerm.kind,LTerm.n,LTerm.text,LTerm.sort,LTerm.kids,LTerm.rest]at h1 h2 h3 h4 h5 h6;subst h1 h2 h3 h4 h5 h6;rfl
theorem PT.zn{s:dX}{t:LTerm}(h:PT s t):ZN t:=aIq (gS.1 h.wf).1
theorem PT.rest{s:dX}{t:LTerm}(h:PT s t):t.rest=[]:=by
 have:=h.pl;rw[oY]at this;simp only[aA,decide_eq_true_eq]at this;exact this.1.1.2
def nwB(p:LTerm):Bool := !(decide (p.kind=6)&&decide (p.text=[95]))&&p.rest.all fun r => !decide (r.text=[95])
theorem aJa{t:LTerm}(h:nodeB t=true)(h5:¬t.kind=5)(h7:¬t.kind=7)(h8:¬t.kind=8):t.kids=[]:=by
 have z0:∀{a b c d},gK t a b c false d=true→t.kids=[]:=by
  intro a b c d h;simp only[gK,aA,cC,decide_eq_true_eq,aE,false_or]at h;exact h.1.2
 unfold nodeB at h;repeat' split at h
 all_goals try simp only[aA]at h
 all_goals first|exact z0 h.2|contradiction|cases h
def exC(s:dX)(p:LTerm):Bool:=(!decide (p.kind=6)||jE s p.sort)&&p.rest.all fun r=>jE s r.sort&&(r.kids.isEmpty&&r.rest.isEmpty)
section
variable {s:dX} {f g:Str→Str} {W:LSub} {p q t:LTerm}
end
section
variable {s:dX} {f g:Str→Str} {W:LSub} {p q t:LTerm}
end
end Go.Proofs.YtdjcggcjlphdoaaGreatDoor

/-
  The abstract layer, part Za: calls over the caller's objects, of which an argument is a value from now on. It speaks of any program; no condition.
-/
import Derived.Test.YtdjcggcjlphdoaaGreatDoorVoP18
import Derived.Test.YtdjcggcjlphdoaaGreatDoorVoP16
set_option linter.unusedVariables false
set_option linter.unusedSimpArgs false
namespace Go.Vo
section
variable {P:Program} {G:Md} {d:Option Nat} {os:List gA} {K:List AV→List AObj→Prop} {env:List AV} {h:List AObj}
theorem aZj{f:FuncId}{A:List AV}{a:AV}(j:Nat)(hj:A[j]? = some a)(s:tM P G none f (A.set j (gZ dep h a)) d os K env (freeze (eH dep h a) h)):tM P G none f A d os K env h:=by
 have main:∀(X:Ctx) (w:World) (vs:Array Value),GH G X w h→A.length=vs.size→(∀(j:Nat) (a:AV) (v:Value),A[j]? = some a→vs[j]? = some v→RV X w h a v) →
  ∃X',GH G X' w (freeze (eH dep h a) h)∧(A.set j (gZ dep h a)).length=vs.size∧(∀(k:Nat) (b:AV) (v:Value),(A.set j (gZ dep h a))[k]? = some b→vs[k]? = some v→RV X' w (freeze (eH dep h a) h) b v)∧Tr X w h X' w (freeze (eH dep h a) h):=by
  intro X w vs g hl hr;have hjv:j<vs.size:=hl▸bP hj;have hv:vs[j]? = some vs[j]:=bW hjv;obtain⟨X',g',r',t⟩:=pH g (hr j a vs[j] hj hv);refine⟨X',g',by rw[List.length_set];exact hl,fun k b v hb hk=>?_,t⟩;by_cases hkj:j=k
  ·subst hkj;rw[jJ (bP hj)]at hb;rw[hv]at hk;cases hb;cases hk;exact r'
  ·rw[dW hkj]at hb;exact(hr k b v hb hk).mono t.ext
 rcases s with s|s
 ·refine .inl ⟨s.1,fun X w vs g hl hr=>?_⟩;obtain⟨X',g',hl',hr',t⟩:=main X w vs g hl hr;refine(s.2 X' w vs g' hl' hr').mono ?_;rintro e w' ⟨v,r,h',X2,h1,h2,h3,h4,t2⟩;exact⟨v,r,h',X2,h1,h2,h3,h4,t.trans t2⟩
 ·refine .inr ⟨s.1,fun X w vs g hl hr=>?_⟩;obtain⟨X',g',hl',hr',t⟩:=main X w vs g hl hr;refine(s.2 X' w vs g' hl' hr').mono ?_;rintro e w' ⟨v,h',X2,h1,h2,h3,t2⟩;exact⟨v,h',X2,h1,h2,h3,t.trans t2⟩
end
end Go.Vo

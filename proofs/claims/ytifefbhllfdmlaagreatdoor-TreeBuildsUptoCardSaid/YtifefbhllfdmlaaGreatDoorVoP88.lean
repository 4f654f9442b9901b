/-
  The abstract layer, part Za: calls over the caller's objects, of which an argument is a value from now on. It speaks of any program; no condition.
-/
import Derived.Test.YtifefbhllfdmlaaGreatDoorVoP87
import Derived.Test.YtifefbhllfdmlaaGreatDoorVoP85
set_option linter.unusedVariables false
set_option linter.unusedSimpArgs false
namespace Go.Vo
section
variable {P:Program} {G:fS} {d:Option Nat} {os:List fZ} {K:List AV→List AObj→Prop} {env:List AV} {h:List AObj}
theorem tU {f:FuncId} {A:List AV} {a:AV} (j:Nat) (hj:A[j]? = some a) (s:wS P G none f (A.set j (gH dep h a)) d os K env (freeze (dR dep h a) h)):wS P G none f A d os K env h:=by
 refine ⟨s.1,fun X w vs g hl hr=>?_⟩
 have hjv:j < vs.size:=hl ▸ aQ hj
 have hv:vs[j]? = some vs[j]:=cC hjv
 obtain ⟨X',g',r',t⟩:=uE g (hr j a vs[j] hj hv)
 refine (s.2 X' w vs g' (by rw [List.length_set]; exact hl) (fun k b v hb hk=>?_)).mono ?_
 · by_cases hkj:j=k
   · subst hkj
     rw [List.getElem?_set_self (aQ hj)] at hb
     rw [hv] at hk
     cases hb; cases hk
     exact r'
   · rw [dA hkj] at hb
     exact (hr k b v hb hk).mono t.ext
 · rintro e w' ⟨v,r,h',X2,h1,h2,h3,h4,t2⟩
   exact ⟨v,r,h',X2,h1,h2,h3,h4,t.trans t2⟩
end
end Go.Vo

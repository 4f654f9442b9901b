/-
  The abstract layer, part Za: calls over the caller's objects, of which an argument is a value from now on. It speaks of any program; no condition.
-/
import Derived.Test.YtdjcggcjlphdoaaGreatDoorVoP78
import Derived.Test.YtdjcggcjlphdoaaGreatDoorVoP76
set_option linter.unusedVariables false
set_option linter.unusedSimpArgs false
namespace Go.Vo
section
variable {P:Program} {G:Md} {d:Option Nat} {os:List fZ} {K:List AV→List AObj→Prop} {env:List AV} {h:List AObj}
end
end Go.Vo

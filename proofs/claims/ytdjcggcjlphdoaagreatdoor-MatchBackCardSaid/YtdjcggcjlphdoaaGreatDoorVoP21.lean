/-
  The abstract layer: a builder of strings, of its own or within a struct: what its methods do to the blocks, block by block. It speaks of any program that bears the library's functions; no condition.
-/
import Derived.Shelf.Strings.Builder1
import Derived.Test.YtdjcggcjlphdoaaGreatDoorVoP16
set_option linter.unusedVariables false
set_option linter.unusedSimpArgs false
namespace Go.Vo
open Go.Shelf Go.RowKit Go.Lib Go.Proofs
section
variable {P:Program} (w:World)
end
section
variable {P:Program} {ρ:Ren} {T:TypeId}
end
section
variable {P:Program} {G:Glob} {T e:TypeId} {X:Ctx} {w:World} {v:Value} {l:List UInt8}
end
section
variable {P:Program} {ρ:Ren} {G:Glob} {T:TypeId}
end
section
variable {P:Program} {G:Md} {T e:TypeId} {os:List gA} {K:List AV→List AObj→Prop} {env:List AV} {h:List AObj} {d:Option Nat}
end
section
variable {P:Program} {G:Md} {T e:TypeId} {os:List gA} {K:List AV→List AObj→Prop} {env:List AV} {h:List AObj} {d:Option Nat}
end
section
variable {P:Program} {G:Md} {Q:Exit→List AV→List AObj→Prop} {env:List AV} {h:List AObj}
end
end Go.Vo

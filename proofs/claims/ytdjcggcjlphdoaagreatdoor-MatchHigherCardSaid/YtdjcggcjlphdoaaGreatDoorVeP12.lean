/-
  Functions of the chapter, as plain functions of what they are given; no condition.
-/
import Derived.Test.YtdjcggcjlphdoaaGreatDoorTeP16
import Derived.Test.YtdjcggcjlphdoaaGreatDoorVdP19
set_option maxRecDepth 100000
set_option linter.unusedSimpArgs false
set_option linter.unusedVariables false
set_option maxHeartbeats 4000000
namespace Go.Proofs.YtdjcggcjlphdoaaGreatDoor
open Go Go.Vo
open Nat (reduceAdd reduceSub reduceMul reduceLeDiff reduceLT reduceEqDiff)
open Int (reduceNeg)

section
variable {H:Type} {enc:TypeId × Value→H} {X:Ctx} {w:World} {h:List AObj} {sp:Nat→Bool} {hd:Bool}
end
end Go.Proofs.YtdjcggcjlphdoaaGreatDoor

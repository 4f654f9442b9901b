/-
  What functions of the chapter return, as plain functions of what they are given; no condition beyond those that each theorem names.
-/
import Derived.Test.YtifefbhllfdmlaaGreatDoorTeP127
import Derived.Test.YtifefbhllfdmlaaGreatDoorVaP126
set_option maxRecDepth 100000
set_option linter.unusedSimpArgs false
set_option linter.unusedVariables false
set_option maxHeartbeats 4000000
namespace Go.Proofs.YtifefbhllfdmlaaGreatDoor
open Go Go.Vo
open Nat (reduceAdd reduceSub reduceMul reduceLeDiff reduceLT reduceEqDiff)
open Int (reduceNeg)

section
variable {H:Type} {enc:TypeId × Value→H} {X:Ctx} {w:World} {h:List AObj} {sp:Nat→Bool} {hd:Bool}
theorem aQe (hF:∀ b,b < w.heap.size→X.F b):Rd enc Tryz.prog X w h sp hd 28 (fun l:List LTerm=>[avt l]) (fun l=>(∀ t ∈ l,OkT t)∧l.length * 96≤140737488351232):=
 (aJb hF Tryz.underlying28 (sz:=6) (by_:=96) (by kernel_rfl) (by kernel_rfl) (by decide) sN (aVb hF)).map id (fun l hq=>⟨hq,rfl⟩)
end
theorem aEt {H:Type} {enc:TypeId × Value→H} {W:World} {tX:Nat} {v:Value} {d:DataW H} {p:List MemPlace} (hv:Value.okWide Tryz.prog W .any tX 28 v) (hT:DataW.Trod enc Tryz.prog W 0 (fun _=>true) true 28 v d p) (hw:∀ n ∈ d.weights Tryz.prog 28,n≤reachBytes) :
   ∃ l:List LTerm,(l.length≤1466015503700∧∀ t ∈ l,OkT t)∧RV (.none fun b=>b < W.heap.size) W [] (avt l) v:=by
 obtain ⟨l,⟨q1,q2⟩,r⟩:=bBo (aKg Tryz.underlying28 hv) hT hw (aQe (X:=.none fun b=>b < W.heap.size) (h:=[]) (fun _ h=>h))
 exact ⟨l,⟨by omega,q1⟩,r⟩
end Go.Proofs.YtifefbhllfdmlaaGreatDoor

/-
  Functions of the chapter, as plain functions of what they are given; no condition.
-/
import Derived.Test.YtdjcggcjlphdoaaGreatDoorVcP12
set_option maxRecDepth 100000
set_option linter.unusedSimpArgs false
set_option linter.unusedVariables false
set_option maxHeartbeats 4000000
namespace Go.Proofs.YtdjcggcjlphdoaaGreatDoor
open Go Go.Vo
open Nat (reduceAdd reduceSub reduceMul reduceLeDiff reduceLT reduceEqDiff)
open Int (reduceNeg)

@[simp] theorem sV {A:LTerm→LTerm→List LSub→Bool→MR} {ts:List LTerm} {l:List LSub} {b:Bool}:iS A [] ts l b=(l,b):=by cases ts <;> rfl
theorem xZ {A:LTerm→LTerm→List LSub→Bool→MR}:∀ {ps ts:List LTerm} {l:List LSub} {b:Bool} {k:Nat},k < ps.length→k < ts.length →
   iS A (ps.take (k+1)) (ts.take (k+1)) l b=A (ps.getD k default) (ts.getD k default) (iS A (ps.take k) (ts.take k) l b).1 (iS A (ps.take k) (ts.take k) l b).2
 | p::ps,t::ts,l,b,0,_,_=>by simp [iS]
 | p::ps,t::ts,l,b,k+1,h1,h2=>by
   rw [aL,aL,iS,xZ (by simpa using h1) (by simpa using h2),aL,aL,iS]
   rfl
 | [],_,_,_,_,h,_=>by simp at h
 | _::_,[],_,_,_,_,h=>by simp at h
theorem aBn {A:LTerm→LTerm→List LSub→Bool→MR}:∀ {ps ts:List LTerm} {l:List LSub} {b:Bool},iS A ps (ts.take ps.length) l b=iS A ps ts l b
 | [],ts,l,b=>by rw [sV,sV]
 | p::ps,[],l,b=>by simp [iS]
 | p::ps,t::ts,l,b=>by rw [bH,aL,iS,iS,aBn]
end Go.Proofs.YtdjcggcjlphdoaaGreatDoor

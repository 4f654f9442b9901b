/-
  Functions of the chapter, as plain functions of what they are given; no condition.
-/
import Derived.Test.YtdjcggcjlphdoaaGreatDoorVcP14
set_option maxRecDepth 100000
set_option linter.unusedSimpArgs false
set_option linter.unusedVariables false
set_option maxHeartbeats 4000000
namespace Go.Proofs.YtdjcggcjlphdoaaGreatDoor
open Go Go.Vo
open Nat (reduceAdd reduceSub reduceMul reduceLeDiff reduceLT reduceEqDiff)
open Int (reduceNeg)

theorem aTj {s:eD} {t c:LTerm} (h:jH s t=true) (hc:c ∈ t.kids):jH s c=true:=by
 rw [jH,aE] at h ⊢
 have hp:=h.2
 rw [V0] at hp
 simp only [aE,bL] at hp
 refine ⟨?_,hp.1.2 c hc⟩
 have hv:=h.1
 simp only [kV,aE,decide_eq_true_eq] at hv ⊢
 have m:=iX hc
 have e1:=eI t
 have e2:=aFg t
 exact ⟨⟨(kS.1 hv.1.1).2 c hc,by omega⟩,by omega⟩
end Go.Proofs.YtdjcggcjlphdoaaGreatDoor

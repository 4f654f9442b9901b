/-
  What functions of the chapter return, as plain functions of what they are given; no condition beyond those that each theorem names.
-/
import Derived.Test.YtifefbhllfdmlaaGreatDoorTeP123
import Derived.Test.YtifefbhllfdmlaaGreatDoorSoP123
import Derived.Test.YtifefbhllfdmlaaGreatDoorVoP126
set_option maxRecDepth 100000
set_option linter.unusedSimpArgs false
set_option linter.unusedVariables false
set_option maxHeartbeats 4000000
namespace Go.Proofs.YtifefbhllfdmlaaGreatDoor
open Go Go.Vo
open Nat (reduceAdd reduceSub reduceMul reduceLeDiff reduceLT reduceEqDiff)
open Int (reduceNeg)

theorem tO (n:Int) (h0 : -9223372036854775808≤n) (h1:n≤9223372036854775807):CT 178 [.i .i64 n] (.s (Lib.itoa n)):=by
 refine ⟨by kernel_rfl,g0,?_⟩
 intro F w vs hF hgl hl hr
 obtain ⟨v0,rfl⟩:=aVk hl
 have e0:=rK (hr 0 _ v0 rfl rfl)
 subst e0
 refine (Tryz.strconv_Itoa n h0 h1 w (bBj (by kernel_rfl) (hgl 2 (.box H3 0) rfl))).mono ?_
 rintro e w' ⟨rfl,k,os,rfl⟩
 have hgr:wI w (Sort.grow (w.drewN k) os):=by
   refine ⟨fun b hb=>?_,?_,rfl,rfl,rfl⟩
   · simp only [Sort.grow,World.drewN]; rw [fF hb]
   · simp only [Sort.grow,World.drewN,Array.size_append]; omega
 exact ⟨_,F,[],rfl,hgr,fun _ h=>h,fun _ h=>.inl h,fun b hb=>eF (hF b hb) hgr.size,RR.val (.s _),fL,by simp⟩
end Go.Proofs.YtifefbhllfdmlaaGreatDoor

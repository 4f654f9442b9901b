/-
  Functions of the chapter, as plain functions of what they are given; no condition.
-/
import Derived.Test.YtdjcggcjlphdoaaGreatDoorSoP14
import Derived.Test.YtdjcggcjlphdoaaGreatDoorTeP12
set_option maxRecDepth 100000
set_option linter.unusedSimpArgs false
set_option linter.unusedVariables false
set_option maxHeartbeats 4000000
namespace Go.Proofs.YtdjcggcjlphdoaaGreatDoor
open Go Go.Vo
open Nat (reduceAdd reduceSub reduceMul reduceLeDiff reduceLT reduceEqDiff)
open Int (reduceNeg)

theorem bGe {k:IntKind} {n:Int} (h:(Lit.int k n).wf=true):k.min≤n∧n≤k.max:=by simpa [Lit.wf] using h
section
variable {H:Type} {enc:TypeId × Value→H} {X:Ctx} {w:World} {h:List AObj} {sp:Nat→Bool} {hd:Bool}
theorem bHf {α:Type} {t:TypeId} {e:α→List AV} {Q:α→Prop}:RdN 0 enc Tryz.prog X w h sp hd t e Q:=by
 intro fuel hf cs x hx
 obtain rfl:fuel=0:=by omega
 simp [DataW.trod] at hx
theorem aHy (hF:∀ b,b < w.heap.size→X.F b) {m:Nat} (r:RdN m enc Tryz.prog X w h sp hd 30 aV OkT):RdN (m+1) enc Tryz.prog X w h sp hd 28 (fun l:List LTerm=>[avt l]) (fun l=>(∀ t ∈ l,OkT t)∧l.length * 96≤140737488355328):=
 (U4 hF Tryz.underlying28 (sz:=6) (by_:=96) (by kernel_rfl) (by kernel_rfl) (by decide) uA r).map id (fun l hq=>⟨hq,rfl⟩)
theorem bBi (hF:∀ b,b < w.heap.size→X.F b):∀ m,RdN m enc Tryz.prog X w h sp hd 30 aV OkT:=by
 intro m
 induction m using Nat.strongRecOn with
 | ind m ih=>
   cases m with
   | zero=>exact bHf
   | succ m=>
     have rk:RdN m enc Tryz.prog X w h sp hd 28 (fun l:List LTerm=>[avt l]) (fun l=>(∀ t ∈ l,OkT t)∧l.length * 96≤140737488355328):=by
       cases m with
       | zero=>exact bHf
       | succ m=>exact aHy hF (ih m (by omega))
     refine (aHw Tryz.underlying30 (N:=6) (by kernel_rfl) (oI rfl (sz:=1) (by kernel_rfl) rfl (by decide) (U5 Tryz.underlying27).n (oI rfl (sz:=1) (by kernel_rfl) rfl (by decide) (U5 Tryz.underlying3).n (oI rfl (sz:=1) (by kernel_rfl) rfl (by decide) aBr.n (oI rfl (sz:=1) (by kernel_rfl) rfl (by decide) aBr.n
       (oI rfl (sz:=1) (by kernel_rfl) rfl (by decide) rk (oI rfl (sz:=1) (by kernel_rfl) rfl (by decide) rk (aSz (by decide))))))))).map (fun p=>LTerm.mk p.1 p.2.1 p.2.2.1 p.2.2.2.1 p.2.2.2.2.1 p.2.2.2.2.2.1) (fun p hq=>⟨?_,?_⟩)
     · obtain ⟨q1,q2,q3,q4,⟨q5,q5b⟩,⟨q6,q6b⟩,_⟩:=hq
       have q2' : -9223372036854775808≤p.2.1∧p.2.1≤9223372036854775807:=by
         have q:=bGe q2
         have e1:IntKind.min .i64 = -9223372036854775808:=by decide +kernel
         have e2:IntKind.max .i64=9223372036854775807:=by decide +kernel
         rw [e1,e2] at q
         exact q
       exact .mk q3 q4 q2'.1 q2'.2 (by simp only [LTerm.kids]; omega) (by simp only [LTerm.rest]; omega) q5 q6
     · rw [aS]; rfl
theorem bHe (hF:∀ b,b < w.heap.size→X.F b):Rd enc Tryz.prog X w h sp hd 30 aV OkT:=.of (bBi hF)
end
theorem aCg {W:World} {E8:Nat} {v:Value} (h:Value.okWide Tryz.prog W .any E8 30 v):∃ cs,v=.agg cs:=by
 unfold Value.okWide at h
 rw [Tryz.underlying30] at h
 obtain ⟨cs,rfl,_⟩:=h
 exact ⟨cs,rfl⟩
theorem aDy {H:Type} {enc:TypeId × Value→H} {W:World} {E8:Nat} {v:Value} {d:DataW H} {p:List MemPlace} (hval:Value.okWide Tryz.prog W .any E8 30 v) (h0:DataW.Trod enc Tryz.prog W 0 (fun _=>true) true 30 v d p) (hw:∀ n ∈ d.weights Tryz.prog 30,n≤reachBytes) :
   ∃ t,OkT t∧RV (.none fun b=>b < W.heap.size) W [] (elT t) v:=aRb (aCg hval) h0 hw (bHe (fun _ h=>h))
end Go.Proofs.YtdjcggcjlphdoaaGreatDoor

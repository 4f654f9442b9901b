/-
  Functions of the chapter, as plain functions of what they are given; no condition.
-/
import Derived.Test.YtdjcggcjlphdoaaGreatDoorSoP54
import Derived.Test.YtdjcggcjlphdoaaGreatDoorTeP52
set_option maxRecDepth 100000
set_option linter.unusedSimpArgs false
set_option linter.unusedVariables false
set_option maxHeartbeats 4000000
namespace Go.Proofs.YtdjcggcjlphdoaaGreatDoor
open Go Go.Vo
open Nat (reduceAdd reduceSub reduceMul reduceLeDiff reduceLT reduceEqDiff)
open Int (reduceNeg)
theorem bNt{k:IntKind}{n:Int}(h:(Lit.int k n).wf=true):k.min≤n∧n≤k.max:=by simpa[Lit.wf]using h
section
variable {H:Type} {enc:TypeId × Value→H} {X:Ctx} {w:World} {h:List AObj} {sp:Nat→Bool} {hd:Bool}
theorem bOs{α:Type}{t:TypeId}{e:α→List AV}{Q:α→Prop}:RdN 0 enc Tryz.prog X w h sp hd t e Q:=by
 intro fuel hf cs x hx;obtain rfl:fuel=0:=by omega
 simp[DataW.trod]at hx
theorem aNi(hF:∀b,b<w.heap.size→X.F b){m:Nat}(r:RdN m enc Tryz.prog X w h sp hd 30 aM OkT):RdN (m+1) enc Tryz.prog X w h sp hd 28 (fun l:List LTerm=>[avt l]) (fun l=>(∀t∈l,OkT t)∧l.length*96≤140737488355328):=
 (aCl hF Tryz.underlying28 (sz:=6) (by_:=96) (by kernel_rfl) (by kernel_rfl) (by decide) pP r).map id (fun l hq=>⟨hq,rfl⟩)
theorem bIi(hF:∀b,b<w.heap.size→X.F b):∀m,RdN m enc Tryz.prog X w h sp hd 30 aM OkT:=by
 intro m;induction m using Nat.strongRecOn with
 |ind m ih=>
  cases m with
  |zero=>exact bOs
  |succ m=>
   have rk:RdN m enc Tryz.prog X w h sp hd 28 (fun l:List LTerm=>[avt l]) (fun l=>(∀t∈l,OkT t)∧l.length*96≤140737488355328):=by
    cases m with
    |zero=>exact bOs
    |succ m=>exact aNi hF (ih m (by omega))
   refine(aNh Tryz.underlying30 (N:=6) (by kernel_rfl) (qP rfl (sz:=1) (by kernel_rfl) rfl (by decide) (aCm Tryz.underlying27).n (qP rfl (sz:=1) (by kernel_rfl) rfl (by decide) (aCm Tryz.underlying3).n (qP rfl (sz:=1) (by kernel_rfl) rfl (by decide) aCn.n (qP rfl (sz:=1) (by kernel_rfl) rfl (by decide) aCn.n
    (qP rfl (sz:=1) (by kernel_rfl) rfl (by decide) rk (qP rfl (sz:=1) (by kernel_rfl) rfl (by decide) rk (aYs (by decide))))))))).map (fun p=>LTerm.mk p.1 p.2.1 p.2.2.1 p.2.2.2.1 p.2.2.2.2.1 p.2.2.2.2.2.1) (fun p hq=>⟨?_,?_⟩)
   ·obtain⟨q1,q2,q3,q4,⟨q5,q5b⟩,⟨q6,q6b⟩,_⟩:=hq;have q2' : -9223372036854775808≤p.2.1∧p.2.1≤9223372036854775807:=by
     have q:=bNt q2;have e1:IntKind.min .i64 = -9223372036854775808:=by decide +kernel
     have e2:IntKind.max .i64=9223372036854775807:=by decide +kernel
     rw[e1,e2]at q;exact q
    exact .mk q3 q4 q2'.1 q2'.2 (by simp only[LTerm.kids];omega) (by simp only[LTerm.rest];omega) q5 q6
   ·rw[aI];rfl
theorem aRb(hF:∀b,b<w.heap.size→X.F b):Rd enc Tryz.prog X w h sp hd 30 aM OkT:=.of (bIi hF)
end
end Go.Proofs.YtdjcggcjlphdoaaGreatDoor

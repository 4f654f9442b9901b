/-
  What functions of the chapter return, as plain functions of what they are given; no condition beyond those that each theorem names.
-/
import Derived.Test.YtifefbhllfdmlaaGreatDoorSoP124
import Derived.Test.YtifefbhllfdmlaaGreatDoorTeP122
set_option maxRecDepth 100000
set_option linter.unusedSimpArgs false
set_option linter.unusedVariables false
set_option maxHeartbeats 4000000
namespace Go.Proofs.YtifefbhllfdmlaaGreatDoor
open Go Go.Vo
open Nat (reduceAdd reduceSub reduceMul reduceLeDiff reduceLT reduceEqDiff)
open Int (reduceNeg)

theorem bCq {k:IntKind} {n:Int} (h:(Lit.int k n).wf=true):k.min≤n∧n≤k.max:=by simpa [Lit.wf] using h
section
variable {H:Type} {enc:TypeId × Value→H} {X:Ctx} {w:World} {h:List AObj} {sp:Nat→Bool} {hd:Bool}
theorem bDi {α:Type} {t:TypeId} {e:α→List AV} {Q:α→Prop}:RdN 0 enc Tryz.prog X w h sp hd t e Q:=by
 intro fuel hf cs x hx
 obtain rfl:fuel=0:=by omega
 simp [DataW.trod] at hx
theorem aFi (hF:∀ b,b < w.heap.size→X.F b) {m:Nat} (r:RdN m enc Tryz.prog X w h sp hd 30 aE OkT):RdN (m+1) enc Tryz.prog X w h sp hd 28 (fun l:List LTerm=>[avt l]) (fun l=>(∀ t ∈ l,OkT t)∧l.length * 96≤140737488355328):=
 (Q1 hF Tryz.underlying28 (sz:=6) (by_:=96) (by kernel_rfl) (by kernel_rfl) (by decide) sN r).map id (fun l hq=>⟨hq,rfl⟩)
theorem aYa (hF:∀ b,b < w.heap.size→X.F b):∀ m,RdN m enc Tryz.prog X w h sp hd 30 aE OkT:=by
 intro m
 induction m using Nat.strongRecOn with
 | ind m ih=>
   cases m with
   | zero=>exact bDi
   | succ m=>
     have rk:RdN m enc Tryz.prog X w h sp hd 28 (fun l:List LTerm=>[avt l]) (fun l=>(∀ t ∈ l,OkT t)∧l.length * 96≤140737488355328):=by
       cases m with
       | zero=>exact bDi
       | succ m=>exact aFi hF (ih m (by omega))
     refine (aFh Tryz.underlying30 (N:=6) (by kernel_rfl) (nI rfl (sz:=1) (by kernel_rfl) rfl (by decide) (Q2 Tryz.underlying27).n (nI rfl (sz:=1) (by kernel_rfl) rfl (by decide) (Q2 Tryz.underlying3).n (nI rfl (sz:=1) (by kernel_rfl) rfl (by decide) Y1.n (nI rfl (sz:=1) (by kernel_rfl) rfl (by decide) Y1.n
       (nI rfl (sz:=1) (by kernel_rfl) rfl (by decide) rk (nI rfl (sz:=1) (by kernel_rfl) rfl (by decide) rk (aQd (by decide))))))))).map (fun p=>LTerm.mk p.1 p.2.1 p.2.2.1 p.2.2.2.1 p.2.2.2.2.1 p.2.2.2.2.2.1) (fun p hq=>⟨?_,?_⟩)
     · obtain ⟨q1,q2,q3,q4,⟨q5,q5b⟩,⟨q6,q6b⟩,_⟩:=hq
       have q2' : -9223372036854775808≤p.2.1∧p.2.1≤9223372036854775807:=by
         have q:=bCq q2
         have e1:IntKind.min .i64 = -9223372036854775808:=by decide +kernel
         have e2:IntKind.max .i64=9223372036854775807:=by decide +kernel
         rw [e1,e2] at q
         exact q
       exact .mk q3 q4 q2'.1 q2'.2 (by simp only [LTerm.kids]; omega) (by simp only [LTerm.rest]; omega) q5 q6
     · rw [bT]; rfl
theorem aVb (hF:∀ b,b < w.heap.size→X.F b):Rd enc Tryz.prog X w h sp hd 30 aE OkT:=.of (aYa hF)
theorem bBo {α:Type} {t:TypeId} {e:α→AV} {Q:α→Prop} {v:Value} {d:DataW H} {p:List MemPlace} (hone:v.cells = #[v]) (hT:DataW.Trod enc Tryz.prog w 0 sp hd t v d p) (hw:∀ n ∈ d.weights Tryz.prog t,n≤reachBytes) (R:Rd enc Tryz.prog X w h sp hd t (fun a=>[e a]) Q):∃ a,Q a∧RV X w h (e a) v:=by
 obtain ⟨fuel,hx⟩:=hT
 obtain ⟨a,ha,hc⟩:=R fuel _ (d,p) hx hw
 rw [hone] at hc
 exact ⟨a,ha,(hc.2 0 _ v rfl rfl).1⟩
theorem aKg {t e:TypeId} {v:Value} {tX:Nat} (ht:Tryz.prog.underlying t=some (.slice e)) (hv:Value.okWide Tryz.prog w .any tX t v):v.cells = #[v]:=by
 unfold Value.okWide at hv
 rw [ht] at hv
 simp only [Cell.okWide,ht] at hv
 cases v with
 | agg cs=>simp [Cell.ok,ht] at hv
 | _=>rfl
end
theorem Y9 {W:World} {tX:Nat} {v:Value} (h:Value.okWide Tryz.prog W .any tX 30 v):∃ cs,v=.agg cs:=by
 unfold Value.okWide at h
 rw [Tryz.underlying30] at h
 obtain ⟨cs,rfl,_⟩:=h
 exact ⟨cs,rfl⟩
theorem aPe {H:Type} {enc:TypeId × Value→H} {W:World} {tX:Nat} {v:Value} {d:DataW H} {p:List MemPlace} (hval:Value.okWide Tryz.prog W .any tX 30 v) (h0:DataW.Trod enc Tryz.prog W 0 (fun _=>true) true 30 v d p) (hw:∀ n ∈ d.weights Tryz.prog 30,n≤reachBytes) :
   ∃ t,OkT t∧RV (.none fun b=>b < W.heap.size) W [] (elT t) v:=aNx (Y9 hval) h0 hw (aVb (fun _ h=>h))
end Go.Proofs.YtifefbhllfdmlaaGreatDoor

/-
  Functions of the chapter, as plain functions of what they are given; no condition.
-/
import Derived.Test.YtdjcggcjlphdoaaGreatDoorTeP56
import Derived.Test.YtdjcggcjlphdoaaGreatDoorVdP59
set_option maxRecDepth 100000
set_option linter.unusedSimpArgs false
set_option linter.unusedVariables false
set_option maxHeartbeats 4000000
namespace Go.Proofs.YtdjcggcjlphdoaaGreatDoor
open Go Go.Vo
open Nat (reduceAdd reduceSub reduceMul reduceLeDiff reduceLT reduceEqDiff)
open Int (reduceNeg)
def POk(q:LPr):Prop:=q.1.length≤140737488355328∧OkT q.2
theorem aZb(q:LPr):(prT q).length=7:=by rw[prT,bB,pP]
section
variable {H:Type} {enc:TypeId × Value→H} {X:Ctx} {w:World} {h:List AObj} {sp:Nat→Bool} {hd:Bool}
theorem cDw(hF:∀b,b<w.heap.size→X.F b):Rd enc Tryz.prog X w h sp hd 62 prT POk:=by
 refine(tQ Tryz.underlying62 (N:=7) (by kernel_rfl) (iG rfl (sz:=1) (by kernel_rfl) rfl (by decide) aCn (iG rfl (sz:=6) (by kernel_rfl) rfl (by decide) (aRb hF) (H9 (by decide))))).map (fun p=>(p.1,p.2.1)) (fun p hq=>⟨⟨hq.1,hq.2.1⟩,?_⟩);rw[prT];simp
theorem bIj(hF:∀b,b<w.heap.size→X.F b):Rd enc Tryz.prog X w h sp hd 32 (fun u:LSub=>[avu u]) (fun u=>(∀q∈u,POk q)∧u.length*112≤140737488351232):=
 (aRa hF Tryz.underlying32 (sz:=7) (by_:=112) (by kernel_rfl) (by kernel_rfl) (by decide) aZb (cDw hF)).map id (fun l hq=>⟨hq,rfl⟩)
theorem bIk(hF:∀b,b<w.heap.size→X.F b):Rd enc Tryz.prog X w h sp hd 34 (fun a:LTerm×LTerm×LSub=>uG a.1 a.2.1 a.2.2) (fun a=>OkT a.1∧OkT a.2.1∧(∀q∈a.2.2,POk q)∧a.2.2.length*112≤140737488351232):=by
 refine(tQ Tryz.underlying34 (N:=13) (by kernel_rfl) (iG rfl (sz:=6) (by kernel_rfl) rfl (by decide) (aRb hF) (iG rfl (sz:=6) (by kernel_rfl) rfl (by decide) (aRb hF) (iG rfl (sz:=1) (by kernel_rfl) rfl (by decide) (bIj hF) (H9 (by decide)))))).map (fun p=>(p.1,p.2.1,p.2.2.1)) (fun p hq=>⟨⟨hq.1,hq.2.1,hq.2.2.1⟩,?_⟩);rw[uG];simp
end
theorem aDf{W:World}{zU:Nat}{v:Value}(h:Value.okWide Tryz.prog W .any zU 34 v):∃cs,v=.agg cs:=by
 unfold Value.okWide at h;rw[Tryz.underlying34]at h;obtain⟨cs,rfl,_⟩:=h;exact⟨cs,rfl⟩
theorem aWh{H:Type}{enc:TypeId×Value→H}{W:World}{zU:Nat}{v:Value}{d:DataW H}{p:List MemPlace}(hval:Value.okWide Tryz.prog W .any zU 34 v)(h0:DataW.Trod enc Tryz.prog W 0 (fun _=>true) true 34 v d p)(hw:∀n∈d.weights Tryz.prog 34,n≤reachBytes) :
 ∃p t u,(OkT p∧OkT t∧u.length≤1466015503701∧(∀q∈u,OkT q.2)∧∀q∈u,q.1.length≤140737488355328)∧RV (.none fun b=>b<W.heap.size) W [] (.agg (uG p t u)) v:=by
 obtain⟨⟨p,t,u⟩,⟨q1,q2,q3,q4⟩,r⟩:=aWo (X:=.none fun b=>b<W.heap.size) (h:=[]) (aDf hval) h0 hw (bIk (fun _ h=>h));exact⟨p,t,u,⟨q1,q2,(by dsimp only at q4;omega),fun q hq=>(q3 q hq).2,fun q hq=>(q3 q hq).1⟩,r⟩
end Go.Proofs.YtdjcggcjlphdoaaGreatDoor

/-
  Functions of the chapter, as plain functions of what they are given; no condition.
-/
import Derived.Test.YtdjcggcjlphdoaaGreatDoorSoP72
import Derived.Test.YtdjcggcjlphdoaaGreatDoorVoP77
set_option maxRecDepth 100000
set_option linter.unusedSimpArgs false
set_option linter.unusedVariables false
set_option maxHeartbeats 4000000
namespace Go.Proofs.YtdjcggcjlphdoaaGreatDoor
open Go Go.Vo
open Nat (reduceAdd reduceSub reduceMul reduceLeDiff reduceLT reduceEqDiff)
open Int (reduceNeg)
theorem aKv{α:Type}{f:α→AV}{l:List α}:(l.flatMap fun a=>[f a])=l.map f:=by
 induction l with
 |nil=>rfl
 |cons x l ih=>simp[ih]
section
variable {H:Type} {enc:TypeId × Value→H} {X:Ctx} {w:World} {h:List AObj} {sp:Nat→Bool} {hd:Bool}
theorem aGp:Rd enc Tryz.prog X w h sp hd 9 (fun s:Str=>[.s s]) (fun s=>s.length≤140737488355328):=aRn Tryz.underlying9
theorem aRo(hF:∀b,b<w.heap.size→X.F b):Rd enc Tryz.prog X w h sp hd 22 (fun l:List Str=>[avs l]) (fun l=>(∀s∈l,s.length≤140737488355328)∧l.length*16≤140737488355328):=
 (E5 hF Tryz.underlying22 (sz:=1) (by_:=16) (by kernel_rfl) (by kernel_rfl) (by decide) (fun _=>rfl) aGp).map id (fun l hq=>⟨hq,by rw[avs,← aKv];rfl⟩)
theorem bQv(hF:∀b,b<w.heap.size→X.F b):Rd enc Tryz.prog X w h sp hd 112 (fun l:List Int=>[avi l]) (fun l=>l.length*8≤140737488355328):=
 (E5 hF Tryz.underlying112 (sz:=1) (by_:=8) (by kernel_rfl) (by kernel_rfl) (by decide) (fun _=>rfl) (aCr Tryz.underlying3)).map id (fun l hq=>⟨hq.2,by rw[avi,← aKv];rfl⟩)
theorem bFp{t:TypeId}{f0 f1:Field}(ht:Tryz.prog.underlying t=some (.struct #[f0,f1]))(hN:Tryz.prog.cellsOf t=2)(h0:f0.type=9)(h1:f1.type=9)(o0:f0.offset=0)(o1:f1.offset=1) :
 Rd enc Tryz.prog X w h sp hd t fX (fun b=>b.1.length≤140737488355328∧b.2.length≤140737488355328):=by
 have s0:Tryz.prog.cellsOf f0.type=1:=by rw[h0];kernel_rfl
 have s1:Tryz.prog.cellsOf f1.type=1:=by rw[h1];kernel_rfl
 have r0:Rd enc Tryz.prog X w h sp hd f0.type (fun s:Str=>[.s s]) (fun s=>s.length≤140737488355328):=by rw[h0];exact aGp
 have r1:Rd enc Tryz.prog X w h sp hd f1.type (fun s:Str=>[.s s]) (fun s=>s.length≤140737488355328):=by rw[h1];exact aGp
 exact(I7 ht hN (kL o0 s0 rfl (by decide) r0 (kL o1 s1 rfl (by decide) r1 (aGo (by decide))))).map (fun p:Str×(Str×Unit)=>(p.1,p.2.1)) (fun p hq=>⟨⟨hq.1,hq.2.1⟩,rfl⟩)
theorem aRp(hF:∀b,b<w.heap.size→X.F b){t e:TypeId}(ht:Tryz.prog.underlying t=some (.slice e))(hs:Tryz.prog.cellsOf e=2)(hb:Tryz.prog.bytesOf e=32)(he:Rd enc Tryz.prog X w h sp hd e fX (fun b=>b.1.length≤140737488355328∧b.2.length≤140737488355328)) :
 Rd enc Tryz.prog X w h sp hd t (fun l:List (Str×Str)=>[avb l]) (fun l=>(∀b∈l,b.1.length≤140737488355328∧b.2.length≤140737488355328)∧l.length*32≤140737488355328):=
 (E5 hF ht hs hb (by decide) Y3 he).map id (fun l hq=>⟨hq,rfl⟩)
theorem cFa(hF:∀b,b<w.heap.size→X.F b):Rd enc Tryz.prog X w h sp hd 114 fR OkO:=by
 have rp:Rd enc Tryz.prog X w h sp hd 110 (fun l:List (Str×Str)=>[avb l]) (fun l=>(∀b∈l,b.1.length≤140737488355328∧b.2.length≤140737488355328)∧l.length*32≤140737488355328):=
  aRp hF Tryz.underlying110 (by kernel_rfl) (by kernel_rfl) (bFp Tryz.underlying224 (by kernel_rfl) rfl rfl rfl rfl)
 refine(I7 Tryz.underlying114 (N:=7) (by kernel_rfl) (kL rfl (sz:=1) (by kernel_rfl) rfl (by decide) aGp (kL rfl (sz:=1) (by kernel_rfl) rfl (by decide) (aRo hF) (kL rfl (sz:=1) (by kernel_rfl) rfl (by decide) aGp (kL rfl (sz:=1) (by kernel_rfl) rfl (by decide) rp
  (kL rfl (sz:=1) (by kernel_rfl) rfl (by decide) (aCr Tryz.underlying3) (kL rfl (sz:=1) (by kernel_rfl) rfl (by decide) (aCr Tryz.underlying111) (kL rfl (sz:=1) (by kernel_rfl) rfl (by decide) (bQv hF) (aGo (by decide)))))))))).map
  (fun p=>LOp.mk p.1 p.2.1 p.2.2.1 p.2.2.2.1 p.2.2.2.2.1 p.2.2.2.2.2.1 p.2.2.2.2.2.2.1) (fun p hq=>⟨?_,rfl⟩)
 obtain⟨q1,⟨q2,q2b⟩,q3,⟨q4,q4b⟩,q5,q6,q7,_⟩:=hq;exact⟨q1,by simp only;omega,q2,q3,by simp only;omega,q4,by simp only;omega,by simp only;omega,by simp only;omega,by simp only;omega⟩
theorem bYi(hF:∀b,b<w.heap.size→X.F b):Rd enc Tryz.prog X w h sp hd 26 dW OkS:=by
 have rb:Rd enc Tryz.prog X w h sp hd 23 (fun l:List (Str×Str)=>[avb l]) (fun l=>(∀b∈l,b.1.length≤140737488355328∧b.2.length≤140737488355328)∧l.length*32≤140737488355328):=
  aRp hF Tryz.underlying23 (by kernel_rfl) (by kernel_rfl) (bFp Tryz.underlying117 (by kernel_rfl) rfl rfl rfl rfl)
 have ro:Rd enc Tryz.prog X w h sp hd 24 (fun l:List LOp=>[avo l]) (fun l=>(∀b∈l,OkO b)∧l.length*120≤140737488355328):=
  (E5 hF Tryz.underlying24 (sz:=7) (by_:=120) (by kernel_rfl) (by kernel_rfl) (by decide) aSy (cFa hF)).map id (fun l hq=>⟨hq,rfl⟩)
 refine(I7 Tryz.underlying26 (N:=5) (by kernel_rfl) (kL rfl (sz:=1) (by kernel_rfl) rfl (by decide) (aRo hF) (kL rfl (sz:=1) (by kernel_rfl) rfl (by decide) rb (kL rfl (sz:=1) (by kernel_rfl) rfl (by decide) ro (kL rfl (sz:=1) (by kernel_rfl) rfl (by decide) ro (kL rfl (sz:=1) (by kernel_rfl) rfl (by decide) (aRo hF) (aGo (by decide)))))))).map
  (fun p=>dK.mk p.1 p.2.1 p.2.2.1 p.2.2.2.1 p.2.2.2.2.1) (fun p hq=>⟨?_,rfl⟩)
 obtain⟨⟨q1,q1b⟩,⟨q2,q2b⟩,⟨q3,q3b⟩,⟨q4,q4b⟩,⟨q5,q5b⟩,_⟩:=hq;exact⟨by simp only;omega,q1,by simp only;omega,q2,by simp only;omega,q3,by simp only;omega,q4,by simp only;omega,by simp only;omega,by simp only;omega,q5⟩
end
end Go.Proofs.YtdjcggcjlphdoaaGreatDoor

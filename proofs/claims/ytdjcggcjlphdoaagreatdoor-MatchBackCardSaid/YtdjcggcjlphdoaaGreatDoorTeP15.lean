/-
  Functions of the chapter, as plain functions of what they are given; no condition.
-/
import Derived.Test.YtdjcggcjlphdoaaGreatDoorTeP11
import Derived.Test.YtdjcggcjlphdoaaGreatDoorVdP19
import Derived.Test.YtdjcggcjlphdoaaGreatDoorSoP12
import Derived.Test.YtdjcggcjlphdoaaGreatDoorVoP17
set_option maxRecDepth 100000
set_option linter.unusedSimpArgs false
set_option linter.unusedVariables false
set_option maxHeartbeats 4000000
namespace Go.Proofs.YtdjcggcjlphdoaaGreatDoor
open Go Go.Vo
open Nat (reduceAdd reduceSub reduceMul reduceLeDiff reduceLT reduceEqDiff)
open Int (reduceNeg)
theorem aMw{α:Type}{f:α→AV}{l:List α}:(l.flatMap fun a=>[f a])=l.map f:=by
 induction l with
 |nil=>rfl
 |cons x l ih=>simp[ih]
section
variable {H:Type} {enc:TypeId × Value→H} {X:Ctx} {w:World} {h:List AObj} {sp:Nat→Bool} {hd:Bool}
theorem aDt:Rd enc Tryz.prog X w h sp hd 9 (fun s:Str=>[.s s]) (fun s=>s.length≤140737488355328):=aTy Tryz.underlying9
theorem aUb(hF:∀b,b<w.heap.size→X.F b):Rd enc Tryz.prog X w h sp hd 22 (fun l:List Str=>[avs l]) (fun l=>(∀s∈l,s.length≤140737488355328)∧l.length*16≤140737488355328):=
 (H4 hF Tryz.underlying22 (sz:=1) (by_:=16) (by kernel_rfl) (by kernel_rfl) (by decide) (fun _=>rfl) aDt).map id (fun l hq=>⟨hq,by rw[avs,← aMw];rfl⟩)
theorem bUk(hF:∀b,b<w.heap.size→X.F b):Rd enc Tryz.prog X w h sp hd 112 (fun l:List Int=>[avi l]) (fun l=>l.length*8≤140737488355328):=
 (H4 hF Tryz.underlying112 (sz:=1) (by_:=8) (by kernel_rfl) (by kernel_rfl) (by decide) (fun _=>rfl) (aDs Tryz.underlying3)).map id (fun l hq=>⟨hq.2,by rw[avi,← aMw];rfl⟩)
theorem bIt{t:TypeId}{f0 f1:Field}(ht:Tryz.prog.underlying t=some (.struct #[f0,f1]))(hN:Tryz.prog.cellsOf t=2)(h0:f0.type=9)(h1:f1.type=9)(o0:f0.offset=0)(o1:f1.offset=1) :
 Rd enc Tryz.prog X w h sp hd t fX (fun b=>b.1.length≤140737488355328∧b.2.length≤140737488355328):=by
 have s0:Tryz.prog.cellsOf f0.type=1:=by rw[h0];kernel_rfl
 have s1:Tryz.prog.cellsOf f1.type=1:=by rw[h1];kernel_rfl
 have r0:Rd enc Tryz.prog X w h sp hd f0.type (fun s:Str=>[.s s]) (fun s=>s.length≤140737488355328):=by rw[h0];exact aDt
 have r1:Rd enc Tryz.prog X w h sp hd f1.type (fun s:Str=>[.s s]) (fun s=>s.length≤140737488355328):=by rw[h1];exact aDt
 exact(uE ht hN (iY o0 s0 rfl (by decide) r0 (iY o1 s1 rfl (by decide) r1 (M3 (by decide))))).map (fun p:Str×(Str×Unit)=>(p.1,p.2.1)) (fun p hq=>⟨⟨hq.1,hq.2.1⟩,rfl⟩)
theorem aUc(hF:∀b,b<w.heap.size→X.F b){t e:TypeId}(ht:Tryz.prog.underlying t=some (.slice e))(hs:Tryz.prog.cellsOf e=2)(hb:Tryz.prog.bytesOf e=32)(he:Rd enc Tryz.prog X w h sp hd e fX (fun b=>b.1.length≤140737488355328∧b.2.length≤140737488355328)) :
 Rd enc Tryz.prog X w h sp hd t (fun l:List (Str×Str)=>[avb l]) (fun l=>(∀b∈l,b.1.length≤140737488355328∧b.2.length≤140737488355328)∧l.length*32≤140737488355328):=
 (H4 hF ht hs hb (by decide) aAo he).map id (fun l hq=>⟨hq,rfl⟩)
theorem cJs(hF:∀b,b<w.heap.size→X.F b):Rd enc Tryz.prog X w h sp hd 114 eU OkO:=by
 have rp:Rd enc Tryz.prog X w h sp hd 110 (fun l:List (Str×Str)=>[avb l]) (fun l=>(∀b∈l,b.1.length≤140737488355328∧b.2.length≤140737488355328)∧l.length*32≤140737488355328):=
  aUc hF Tryz.underlying110 (by kernel_rfl) (by kernel_rfl) (bIt Tryz.underlying224 (by kernel_rfl) rfl rfl rfl rfl)
 refine(uE Tryz.underlying114 (N:=7) (by kernel_rfl) (iY rfl (sz:=1) (by kernel_rfl) rfl (by decide) aDt (iY rfl (sz:=1) (by kernel_rfl) rfl (by decide) (aUb hF) (iY rfl (sz:=1) (by kernel_rfl) rfl (by decide) aDt (iY rfl (sz:=1) (by kernel_rfl) rfl (by decide) rp
  (iY rfl (sz:=1) (by kernel_rfl) rfl (by decide) (aDs Tryz.underlying3) (iY rfl (sz:=1) (by kernel_rfl) rfl (by decide) (aDs Tryz.underlying111) (iY rfl (sz:=1) (by kernel_rfl) rfl (by decide) (bUk hF) (M3 (by decide)))))))))).map
  (fun p=>LOp.mk p.1 p.2.1 p.2.2.1 p.2.2.2.1 p.2.2.2.2.1 p.2.2.2.2.2.1 p.2.2.2.2.2.2.1) (fun p hq=>⟨?_,rfl⟩)
 obtain⟨q1,⟨q2,q2b⟩,q3,⟨q4,q4b⟩,q5,q6,q7,_⟩:=hq;exact⟨q1,by simp only;omega,q2,q3,by simp only;omega,q4,by simp only;omega,by simp only;omega,by simp only;omega,by simp only;omega⟩
theorem cCs(hF:∀b,b<w.heap.size→X.F b):Rd enc Tryz.prog X w h sp hd 26 dT OkS:=by
 have rb:Rd enc Tryz.prog X w h sp hd 23 (fun l:List (Str×Str)=>[avb l]) (fun l=>(∀b∈l,b.1.length≤140737488355328∧b.2.length≤140737488355328)∧l.length*32≤140737488355328):=
  aUc hF Tryz.underlying23 (by kernel_rfl) (by kernel_rfl) (bIt Tryz.underlying117 (by kernel_rfl) rfl rfl rfl rfl)
 have ro:Rd enc Tryz.prog X w h sp hd 24 (fun l:List LOp=>[avo l]) (fun l=>(∀b∈l,OkO b)∧l.length*120≤140737488355328):=
  (H4 hF Tryz.underlying24 (sz:=7) (by_:=120) (by kernel_rfl) (by kernel_rfl) (by decide) aMc (cJs hF)).map id (fun l hq=>⟨hq,rfl⟩)
 refine(uE Tryz.underlying26 (N:=5) (by kernel_rfl) (iY rfl (sz:=1) (by kernel_rfl) rfl (by decide) (aUb hF) (iY rfl (sz:=1) (by kernel_rfl) rfl (by decide) rb (iY rfl (sz:=1) (by kernel_rfl) rfl (by decide) ro (iY rfl (sz:=1) (by kernel_rfl) rfl (by decide) ro (iY rfl (sz:=1) (by kernel_rfl) rfl (by decide) (aUb hF) (M3 (by decide)))))))).map
  (fun p=>dX.mk p.1 p.2.1 p.2.2.1 p.2.2.2.1 p.2.2.2.2.1) (fun p hq=>⟨?_,rfl⟩)
 obtain⟨⟨q1,q1b⟩,⟨q2,q2b⟩,⟨q3,q3b⟩,⟨q4,q4b⟩,⟨q5,q5b⟩,_⟩:=hq;exact⟨by simp only;omega,q1,by simp only;omega,q2,by simp only;omega,q3,by simp only;omega,q4,by simp only;omega,by simp only;omega,by simp only;omega,q5⟩
end
end Go.Proofs.YtdjcggcjlphdoaaGreatDoor
namespace Go.Proofs.YtdjcggcjlphdoaaGreatDoor
open Go Go.Vo
open Nat (reduceAdd reduceSub reduceMul reduceLeDiff reduceLT reduceEqDiff)
open Int (reduceNeg)
theorem bTc{k:IntKind}{n:Int}(h:(Lit.int k n).wf=true):k.min≤n∧n≤k.max:=by simpa[Lit.wf]using h
section
variable {H:Type} {enc:TypeId × Value→H} {X:Ctx} {w:World} {h:List AObj} {sp:Nat→Bool} {hd:Bool}
theorem bUj{α:Type}{t:TypeId}{e:α→List AV}{Q:α→Prop}:RdN 0 enc Tryz.prog X w h sp hd t e Q:=by
 intro fuel hf cs x hx;obtain rfl:fuel=0:=by omega
 simp[DataW.trod]at hx
theorem aPv(hF:∀b,b<w.heap.size→X.F b){m:Nat}(r:RdN m enc Tryz.prog X w h sp hd 30 aP OkT):RdN (m+1) enc Tryz.prog X w h sp hd 28 (fun l:List LTerm=>[avt l]) (fun l=>(∀t∈l,OkT t)∧l.length*96≤140737488355328):=
 (aDr hF Tryz.underlying28 (sz:=6) (by_:=96) (by kernel_rfl) (by kernel_rfl) (by decide) oG r).map id (fun l hq=>⟨hq,rfl⟩)
theorem bMy(hF:∀b,b<w.heap.size→X.F b):∀m,RdN m enc Tryz.prog X w h sp hd 30 aP OkT:=by
 intro m;induction m using Nat.strongRecOn with
 |ind m ih=>
  cases m with
  |zero=>exact bUj
  |succ m=>
   have rk:RdN m enc Tryz.prog X w h sp hd 28 (fun l:List LTerm=>[avt l]) (fun l=>(∀t∈l,OkT t)∧l.length*96≤140737488355328):=by
    cases m with
    |zero=>exact bUj
    |succ m=>exact aPv hF (ih m (by omega))
   refine(aPu Tryz.underlying30 (N:=6) (by kernel_rfl) (qW rfl (sz:=1) (by kernel_rfl) rfl (by decide) (aDs Tryz.underlying27).n (qW rfl (sz:=1) (by kernel_rfl) rfl (by decide) (aDs Tryz.underlying3).n (qW rfl (sz:=1) (by kernel_rfl) rfl (by decide) aDt.n (qW rfl (sz:=1) (by kernel_rfl) rfl (by decide) aDt.n
    (qW rfl (sz:=1) (by kernel_rfl) rfl (by decide) rk (qW rfl (sz:=1) (by kernel_rfl) rfl (by decide) rk (bCz (by decide))))))))).map (fun p=>LTerm.mk p.1 p.2.1 p.2.2.1 p.2.2.2.1 p.2.2.2.2.1 p.2.2.2.2.2.1) (fun p hq=>⟨?_,?_⟩)
   ·obtain⟨q1,q2,q3,q4,⟨q5,q5b⟩,⟨q6,q6b⟩,_⟩:=hq;have q2' : -9223372036854775808≤p.2.1∧p.2.1≤9223372036854775807:=by
     have q:=bTc q2;have e1:IntKind.min .i64 = -9223372036854775808:=by decide +kernel
     have e2:IntKind.max .i64=9223372036854775807:=by decide +kernel
     rw[e1,e2]at q;exact q
    exact .mk q3 q4 q2'.1 q2'.2 (by simp only[LTerm.kids];omega) (by simp only[LTerm.rest];omega) q5 q6
   ·rw[aW];rfl
theorem aUa(hF:∀b,b<w.heap.size→X.F b):Rd enc Tryz.prog X w h sp hd 30 aP OkT:=.of (bMy hF)
end
def POk(q:LPr):Prop:=q.1.length≤140737488355328∧OkT q.2
theorem bDl(q:LPr):(prT q).length=7:=by rw[prT,aQ,oG]
section
variable {H:Type} {enc:TypeId × Value→H} {X:Ctx} {w:World} {h:List AObj} {sp:Nat→Bool} {hd:Bool}
theorem cJr(hF:∀b,b<w.heap.size→X.F b):Rd enc Tryz.prog X w h sp hd 62 prT POk:=by
 refine(uE Tryz.underlying62 (N:=7) (by kernel_rfl) (iY rfl (sz:=1) (by kernel_rfl) rfl (by decide) aDt (iY rfl (sz:=6) (by kernel_rfl) rfl (by decide) (aUa hF) (M3 (by decide))))).map (fun p=>(p.1,p.2.1)) (fun p hq=>⟨⟨hq.1,hq.2.1⟩,?_⟩);rw[prT];simp
theorem bMz(hF:∀b,b<w.heap.size→X.F b):Rd enc Tryz.prog X w h sp hd 32 (fun u:LSub=>[avu u]) (fun u=>(∀q∈u,POk q)∧u.length*112≤140737488351232):=
 (aTz hF Tryz.underlying32 (sz:=7) (by_:=112) (by kernel_rfl) (by kernel_rfl) (by decide) bDl (cJr hF)).map id (fun l hq=>⟨hq,rfl⟩)
theorem bNa(hF:∀b,b<w.heap.size→X.F b):Rd enc Tryz.prog X w h sp hd 34 (fun a:LTerm×LTerm×LSub=>uW a.1 a.2.1 a.2.2) (fun a=>OkT a.1∧OkT a.2.1∧(∀q∈a.2.2,POk q)∧a.2.2.length*112≤140737488351232):=by
 refine(uE Tryz.underlying34 (N:=13) (by kernel_rfl) (iY rfl (sz:=6) (by kernel_rfl) rfl (by decide) (aUa hF) (iY rfl (sz:=6) (by kernel_rfl) rfl (by decide) (aUa hF) (iY rfl (sz:=1) (by kernel_rfl) rfl (by decide) (bMz hF) (M3 (by decide)))))).map (fun p=>(p.1,p.2.1,p.2.2.1)) (fun p hq=>⟨⟨hq.1,hq.2.1,hq.2.2.1⟩,?_⟩);rw[uW];simp
end
theorem aEl{W:World}{sO:Nat}{v:Value}(h:Value.okWide Tryz.prog W .any sO 34 v):∃cs,v=.agg cs:=by
 unfold Value.okWide at h;rw[Tryz.underlying34]at h;obtain⟨cs,rfl,_⟩:=h;exact⟨cs,rfl⟩
theorem bAa{H:Type}{enc:TypeId×Value→H}{W:World}{sO:Nat}{v:Value}{d:DataW H}{p:List MemPlace}(hval:Value.okWide Tryz.prog W .any sO 34 v)(h0:DataW.Trod enc Tryz.prog W 0 (fun _=>true) true 34 v d p)(hw:∀n∈d.weights Tryz.prog 34,n≤reachBytes) :
 ∃p t u,(OkT p∧OkT t∧u.length≤1466015503701∧(∀q∈u,OkT q.2)∧∀q∈u,q.1.length≤140737488355328)∧RV (.none fun b=>b<W.heap.size) W [] (.agg (uW p t u)) v:=by
 obtain⟨⟨p,t,u⟩,⟨q1,q2,q3,q4⟩,r⟩:=bAg (X:=.none fun b=>b<W.heap.size) (h:=[]) (aEl hval) h0 hw (bNa (fun _ h=>h));exact⟨p,t,u,⟨q1,q2,(by dsimp only at q4;omega),fun q hq=>(q3 q hq).2,fun q hq=>(q3 q hq).1⟩,r⟩
end Go.Proofs.YtdjcggcjlphdoaaGreatDoor

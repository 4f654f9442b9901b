/-
  Functions of the chapter, as plain functions of what they are given; no condition.
-/
import Derived.Test.YtdjcggcjlphdoaaGreatDoorSoP75
import Derived.Test.YtdjcggcjlphdoaaGreatDoorTeP71
import Derived.Test.YtdjcggcjlphdoaaGreatDoorVdP77
import Derived.Test.YtdjcggcjlphdoaaGreatDoorCards
import Derived.Test.YtdjcggcjlphdoaaGreatDoorTie
import Derived.Lib.LaidIn
import Derived.Lib.LaidU8
import Derived.Lib.TrailingZeros
import Derived.Deep.DeepHandedRow
import Derived.Deep.DeepWitnessRowRef
set_option maxRecDepth 100000
set_option linter.unusedSimpArgs false
set_option linter.unusedVariables false
set_option maxHeartbeats 4000000
namespace Go.Proofs.YtdjcggcjlphdoaaGreatDoor
open Go Go.Vo
open Nat (reduceAdd reduceSub reduceMul reduceLeDiff reduceLT reduceEqDiff)
open Int (reduceNeg)
theorem bPv{k:IntKind}{n:Int}(h:(Lit.int k n).wf=true):k.min≤n∧n≤k.max:=by simpa[Lit.wf]using h
section
variable {H:Type} {enc:TypeId × Value→H} {X:Ctx} {w:World} {h:List AObj} {sp:Nat→Bool} {hd:Bool}
theorem bQu{α:Type}{t:TypeId}{e:α→List AV}{Q:α→Prop}:RdN 0 enc Tryz.prog X w h sp hd t e Q:=by
 intro fuel hf cs x hx;obtain rfl:fuel=0:=by omega
 simp[DataW.trod]at hx
theorem aNo(hF:∀b,b<w.heap.size→X.F b){m:Nat}(r:RdN m enc Tryz.prog X w h sp hd 30 aU OkT):RdN (m+1) enc Tryz.prog X w h sp hd 28 (fun l:List LTerm=>[avt l]) (fun l=>(∀t∈l,OkT t)∧l.length*96≤140737488355328):=
 (aCq hF Tryz.underlying28 (sz:=6) (by_:=96) (by kernel_rfl) (by kernel_rfl) (by decide) uC r).map id (fun l hq=>⟨hq,rfl⟩)
theorem bKa(hF:∀b,b<w.heap.size→X.F b):∀m,RdN m enc Tryz.prog X w h sp hd 30 aU OkT:=by
 intro m;induction m using Nat.strongRecOn with
 |ind m ih=>
  cases m with
  |zero=>exact bQu
  |succ m=>
   have rk:RdN m enc Tryz.prog X w h sp hd 28 (fun l:List LTerm=>[avt l]) (fun l=>(∀t∈l,OkT t)∧l.length*96≤140737488355328):=by
    cases m with
    |zero=>exact bQu
    |succ m=>exact aNo hF (ih m (by omega))
   refine(aNm Tryz.underlying30 (N:=6) (by kernel_rfl) (qA rfl (sz:=1) (by kernel_rfl) rfl (by decide) (aCr Tryz.underlying27).n (qA rfl (sz:=1) (by kernel_rfl) rfl (by decide) (aCr Tryz.underlying3).n (qA rfl (sz:=1) (by kernel_rfl) rfl (by decide) aGp.n (qA rfl (sz:=1) (by kernel_rfl) rfl (by decide) aGp.n
    (qA rfl (sz:=1) (by kernel_rfl) rfl (by decide) rk (qA rfl (sz:=1) (by kernel_rfl) rfl (by decide) rk (bAf (by decide))))))))).map (fun p=>LTerm.mk p.1 p.2.1 p.2.2.1 p.2.2.2.1 p.2.2.2.2.1 p.2.2.2.2.2.1) (fun p hq=>⟨?_,?_⟩)
   ·obtain⟨q1,q2,q3,q4,⟨q5,q5b⟩,⟨q6,q6b⟩,_⟩:=hq;have q2' : -9223372036854775808≤p.2.1∧p.2.1≤9223372036854775807:=by
     have q:=bPv q2;have e1:IntKind.min .i64 = -9223372036854775808:=by decide +kernel
     have e2:IntKind.max .i64=9223372036854775807:=by decide +kernel
     rw[e1,e2]at q;exact q
    exact .mk q3 q4 q2'.1 q2'.2 (by simp only[LTerm.kids];omega) (by simp only[LTerm.rest];omega) q5 q6
   ·rw[aL];rfl
theorem bFo(hF:∀b,b<w.heap.size→X.F b):Rd enc Tryz.prog X w h sp hd 30 aU OkT:=.of (bKa hF)
end
theorem aHf{W:World}{C4:Nat}{v:Value}(h:Value.okWide Tryz.prog W .any C4 30 v):∃cs,v=.agg cs:=by
 unfold Value.okWide at h;rw[Tryz.underlying30]at h;obtain⟨cs,rfl,_⟩:=h;exact⟨cs,rfl⟩
theorem aZj{H:Type}{enc:TypeId×Value→H}{W:World}{C4:Nat}{v:Value}{d:DataW H}{p:List MemPlace}(hval:Value.okWide Tryz.prog W .any C4 30 v)(h0:DataW.Trod enc Tryz.prog W 0 (fun _=>true) true 30 v d p)(hw:∀n∈d.weights Tryz.prog 30,n≤reachBytes) :
 ∃t,OkT t∧RV (.none fun b=>b<W.heap.size) W [] (elT t) v:=aIp (aHf hval) h0 hw (bFo (fun _ h=>h))
theorem Y7{W:World}{C4:Nat}{v:Value}(h:Value.okWide Tryz.prog W .any C4 67 v):∃cs,v=.agg cs:=by
 unfold Value.okWide at h;rw[Tryz.underlying67]at h;obtain⟨cs,rfl,_⟩:=h;exact⟨cs,rfl⟩
theorem aMy{H:Type}{enc:TypeId×Value→H}{W:World}{C4:Nat}{v:Value}{d:DataW H}{p:List MemPlace}(hval:Value.okWide Tryz.prog W .any C4 67 v)(h0:DataW.Trod enc Tryz.prog W 0 (fun _=>true) true 67 v d p)(hw:∀n∈d.weights Tryz.prog 67,n≤reachBytes) :
 ∃t u,(OkT t∧OkT u)∧RV (.none fun b=>b<W.heap.size) W [] (.agg (aU t++aU u)) v:=by
 obtain⟨l,⟨hl,hq⟩,hr⟩:=aIp (X:=.none fun b=>b<W.heap.size) (h:=[]) (Y7 hval) h0 hw (bAg Tryz.underlying67 (sz:=6) (n:=2) (by kernel_rfl) (by kernel_rfl) uC (bFo (fun _ h=>h)));match l,hl with
 | [x,y],_=>exact⟨x,y,⟨hq x (by simp),hq y (by simp)⟩,by simpa using hr⟩
section
variable {H:Type} {enc:TypeId × Value→H} {X:Ctx} {w:World} {h:List AObj} {sp:Nat→Bool} {hd:Bool}
end
end Go.Proofs.YtdjcggcjlphdoaaGreatDoor
namespace Go.Proofs.YtdjcggcjlphdoaaGreatDoor
open Go Go.Vo Go.ChangeShapes Go.WideShapes Go.ChangeAt Go.RowKit
open Nat (reduceAdd reduceSub reduceMul reduceLeDiff reduceLT reduceEqDiff)
open Int (reduceNeg)
theorem own:ownKnob Tryz.prog.godebug=none:=by kernel_rfl
theorem bLw:laidOutB Tryz.prog=true:=by kernel_rfl
noncomputable def xP(os:Os):World:=
 let N:=(World.settled Tryz.prog os).heap.size
 let w0:=World.holding Tryz.prog os ⟨#[
  .cells #[.int .u16 9,.int .u16 13,.int .u16 1,.int .u16 32,.int .u16 133,.int .u16 101,.int .u16 160,.int .u16 5760,.int .u16 5600,.int .u16 8192,.int .u16 8202,.int .u16 1,.int .u16 8232,.int .u16 8233,.int .u16 1,.int .u16 8239,.int .u16 8287,.int .u16 48,.int .u16 12288,.int .u16 12288,.int .u16 1] 281,
  .cells #[.slice (some ⟨N,0,none⟩) 7 7,.slice none 0 0,.int .i64 2] 278],#[],[]⟩
 let put (h:Array Obj) (g:Nat) (cs:Array Value):Array Obj:=h.modify g fun
  | .cells _ t frozen=>.cells cs t frozen
  |o=>o
 let h1:=put w0.heap 0 (Lib.asciiSpaceTab.map fun z=>Value.int .u8 z).toArray
 let h2:=put h1 1 #[.pointer (some ⟨N+1,0,none⟩)]
 let h3:=put h2 2 (Lib.pow10Tab.map fun z=>Value.int .u64 z).toArray
 let h4:=put h3 4 (Lib.deBruijn32tab.map fun z=>Value.int .u8 (z:Nat)).toArray
 let h5:=put h4 5 (Lib.deBruijn64tab.map fun z=>Value.int .u8 (z:Nat)).toArray
 {w0 with heap:=h5}
noncomputable abbrev N0:Nat:=(World.settled Tryz.prog default).heap.size
def yQ:List (String×DataW Unit):=[("math/bits.deBruijn32tab",Rows.laid_math_bits_deBruijn32tab),("math/bits.deBruijn64tab",Rows.laid_math_bits_deBruijn64tab),("internal/strconv.uint64pow10",Rows.laid_internal_strconv_uint64pow10),("unicode.White_Space",Rows.laid_unicode_White_Space),("strings.asciiSpace",Rows.laid_strings_asciiSpace)]
theorem bCc(os:Os)(args:Array Value):laidMet Tryz.prog yQ ((xP os).forCall (fun _ _=>0) ⟨#[],args,[]⟩).memory:=
 (LaidIn.of_run (l:=yQ) [0,1,2,4,5,N0,N0+1] 8 (by kernel_rfl) (by kernel_rfl) (by kernel_rfl) (by kernel_rfl)).met
theorem aOy:Rows.laid_strings_asciiSpace (H:=Unit)=Lib.tabData .u8 Lib.asciiSpaceTab:=by kernel_rfl
theorem bAp:Rows.laid_internal_strconv_uint64pow10 (H:=Unit)=Lib.tabData .u64 Lib.pow10Tab:=by kernel_rfl
theorem cCj:Tryz.prog.globalNamed "strings.asciiSpace" = some 0:=by kernel_rfl
theorem bSh:Tryz.prog.globalNamed "internal/strconv.uint64pow10" = some 2:=by kernel_rfl
theorem bCu:(Tryz.prog.globals[0]?).map (·.type)=some 240:=by kernel_rfl
theorem aUo:(Tryz.prog.globals[2]?).map (·.type)=some 272:=by kernel_rfl
theorem bYb{W:World}(h:laidMet Tryz.prog yQ W):Lib.TabIs Tryz.prog W "strings.asciiSpace" .u8 Lib.asciiSpaceTab:=by
 obtain⟨g',t',cs,fuel,p,hg',ht',hvar,hd⟩:=Lib.laidMet.reads h (.tail _ (.tail _ (.tail _ (.tail _ (.head _)))));obtain rfl:=fJ (cCj.symm.trans hg');obtain rfl:=fJ (bCu.symm.trans ht');rw[aOy]at hd;unfold Lib.TabIs;rw[hvar,← Lib.cells_of_tab Tryz.underlying240 Tryz.underlying5 (by kernel_rfl) (by kernel_rfl) hd]
theorem bQl{W:World}(h:laidMet Tryz.prog yQ W):Lib.TabIs Tryz.prog W "internal/strconv.uint64pow10" .u64 Lib.pow10Tab:=by
 obtain⟨g',t',cs,fuel,p,hg',ht',hvar,hd⟩:=Lib.laidMet.reads h (.tail _ (.tail _ (.head _)));obtain rfl:=fJ (bSh.symm.trans hg');obtain rfl:=fJ (aUo.symm.trans ht');rw[bAp]at hd;unfold Lib.TabIs;rw[hvar,← Lib.cells_of_tab Tryz.underlying272 Tryz.underlying258 (by kernel_rfl) (by kernel_rfl) hd]
theorem cGe{W:World}(h:laidMet Tryz.prog yQ W):∀k a,G0 k=some a→GRel (.none fun b=>b<W.heap.size) W [] k a:=by
 intro k a hk;unfold G0 at hk;split at hk
 ·rename_i hk0;subst hk0;cases hk;exact aQn cCj (bYb h) (by decide)
 ·split at hk
  ·rename_i hk0;subst hk0;cases hk;exact aQn bSh (bQl h) (by decide)
  ·cases hk
def bQr:Value:=.agg #[.slice none 0 0,.slice none 0 0,.slice none 0 0,.slice none 0 0,.slice none 0 0]
def cEz{H:Type}:DataW H:=.agg [.nil,.nil,.nil,.nil,.nil]
def aQi:Value:=.agg #[.int .i64 0,.int .i64 0,.string ⟨#[]⟩,.string ⟨#[]⟩,.slice none 0 0,.slice none 0 0]
def bJe{H:Type}:DataW H:=.agg [.lit (.int .i64 0),.lit (.int .i64 0),.lit (.string []),.lit (.string []),.nil,.nil]
def G7:Value:=.agg #[.int .i64 0,.int .i64 0,.string ⟨#[]⟩,.string ⟨#[]⟩,.slice none 0 0,.slice none 0 0,.int .i64 0,.int .i64 0,.string ⟨#[]⟩,.string ⟨#[]⟩,.slice none 0 0,.slice none 0 0]
def bJd{H:Type}:DataW H:=.agg [bJe,bJe]
theorem aNw{W:World}{C4:Nat}{v:Value}(h:Value.okWide Tryz.prog W .any C4 26 v):∃cs,v=.agg cs:=by
 unfold Value.okWide at h;rw[Tryz.underlying26]at h;obtain⟨cs,rfl,_⟩:=h;exact⟨cs,rfl⟩
theorem aCo(f:Func)(h:f.params.toList.all (fun t=>Tryz.prog.readableRec t&&decide (t<Tryz.prog.types.size))=true):∀t∈f.params.toList,Tryz.prog.readableRec t=true∧t<Tryz.prog.types.size:=by
 intro t ht;have:=bC.1 h t ht;simpa using this
theorem bJr{H:Type}{enc:TypeId×Value→H}{W:World}{C4:Nat}{v:Value}{d:DataW H}{p:List MemPlace}(hval:Value.okWide Tryz.prog W .any C4 26 v)(h0:DataW.Trod enc Tryz.prog W 0 (fun _=>true) true 26 v d p)(hw:∀n∈d.weights Tryz.prog 26,n≤reachBytes) :
 ∃s,OkS s∧RV (.none fun b=>b<W.heap.size) W [] (.agg (dW s)) v:=aIp (aNw hval) h0 hw (bYi (fun _ h=>h))
end Go.Proofs.YtdjcggcjlphdoaaGreatDoor

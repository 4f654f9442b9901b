/-
  Functions of the chapter, as plain functions of what they are given; no condition.
-/
import Derived.Test.YtdjcggcjlphdoaaGreatDoorTeP15
import Derived.Test.YtdjcggcjlphdoaaGreatDoorCards
import Derived.Test.YtdjcggcjlphdoaaGreatDoorTie
import Derived.Lib.LaidIn
import Derived.Lib.LaidU8
import Derived.Lib.TrailingZeros
import Derived.Deep.DeepHandedRow
import Derived.Deep.DeepWitnessRowRef
set_option maxRecDepth 100000
set_option linter.unusedSimpArgs false
set_option linter.unusedVariables false
set_option maxHeartbeats 4000000
namespace Go.Proofs.YtdjcggcjlphdoaaGreatDoor
open Go Go.Vo Go.ChangeShapes Go.WideShapes Go.ChangeAt Go.RowKit
open Nat (reduceAdd reduceSub reduceMul reduceLeDiff reduceLT reduceEqDiff)
open Int (reduceNeg)
theorem own:ownKnob Tryz.prog.godebug=none:=by kernel_rfl
theorem bPc:laidOutB Tryz.prog=true:=by kernel_rfl
noncomputable def yW(os:Os):World:=
 let N:=(World.settled Tryz.prog os).heap.size
 let w0:=World.holding Tryz.prog os ⟨#[
  .cells #[.int .u16 9,.int .u16 13,.int .u16 1,.int .u16 32,.int .u16 133,.int .u16 101,.int .u16 160,.int .u16 5760,.int .u16 5600,.int .u16 8192,.int .u16 8202,.int .u16 1,.int .u16 8232,.int .u16 8233,.int .u16 1,.int .u16 8239,.int .u16 8287,.int .u16 48,.int .u16 12288,.int .u16 12288,.int .u16 1] 281,
  .cells #[.slice (some ⟨N,0,none⟩) 7 7,.slice none 0 0,.int .i64 2] 278],#[],[]⟩
 let put (h:Array Obj) (g:Nat) (cs:Array Value):Array Obj:=h.modify g fun
  | .cells _ t frozen=>.cells cs t frozen
  |o=>o
 let h1:=put w0.heap 0 (Lib.asciiSpaceTab.map fun z=>Value.int .u8 z).toArray
 let h2:=put h1 1 #[.pointer (some ⟨N+1,0,none⟩)]
 let h3:=put h2 2 (Lib.pow10Tab.map fun z=>Value.int .u64 z).toArray
 let h4:=put h3 4 (Lib.deBruijn32tab.map fun z=>Value.int .u8 (z:Nat)).toArray
 let h5:=put h4 5 (Lib.deBruijn64tab.map fun z=>Value.int .u8 (z:Nat)).toArray
 {w0 with heap:=h5}
noncomputable abbrev N0:Nat:=(World.settled Tryz.prog default).heap.size
def A5:List (String×DataW Unit):=[("math/bits.deBruijn32tab",Rows.laid_math_bits_deBruijn32tab),("math/bits.deBruijn64tab",Rows.laid_math_bits_deBruijn64tab),("internal/strconv.uint64pow10",Rows.laid_internal_strconv_uint64pow10),("unicode.White_Space",Rows.laid_unicode_White_Space),("strings.asciiSpace",Rows.laid_strings_asciiSpace)]
theorem bFb(os:Os)(args:Array Value):laidMet Tryz.prog A5 ((yW os).forCall (fun _ _=>0) ⟨#[],args,[]⟩).memory:=
 (LaidIn.of_run (l:=A5) [0,1,2,4,5,N0,N0+1] 8 (by kernel_rfl) (by kernel_rfl) (by kernel_rfl) (by kernel_rfl)).met
theorem aRm:Rows.laid_strings_asciiSpace (H:=Unit)=Lib.tabData .u8 Lib.asciiSpaceTab:=by kernel_rfl
theorem bDm:Rows.laid_internal_strconv_uint64pow10 (H:=Unit)=Lib.tabData .u64 Lib.pow10Tab:=by kernel_rfl
theorem cHb:Tryz.prog.globalNamed "strings.asciiSpace" = some 0:=by kernel_rfl
theorem bVw:Tryz.prog.globalNamed "internal/strconv.uint64pow10" = some 2:=by kernel_rfl
theorem bFu:(Tryz.prog.globals[0]?).map (·.type)=some 240:=by kernel_rfl
theorem aWx:(Tryz.prog.globals[2]?).map (·.type)=some 272:=by kernel_rfl
theorem cCl{W:World}(h:laidMet Tryz.prog A5 W):Lib.TabIs Tryz.prog W "strings.asciiSpace" .u8 Lib.asciiSpaceTab:=by
 obtain⟨g',t',cs,fuel,p,hg',ht',hvar,hd⟩:=Lib.laidMet.reads h (.tail _ (.tail _ (.tail _ (.tail _ (.head _)))));obtain rfl:=fR (cHb.symm.trans hg');obtain rfl:=fR (bFu.symm.trans ht');rw[aRm]at hd;unfold Lib.TabIs;rw[hvar,← Lib.cells_of_tab Tryz.underlying240 Tryz.underlying5 (by kernel_rfl) (by kernel_rfl) hd]
theorem bTx{W:World}(h:laidMet Tryz.prog A5 W):Lib.TabIs Tryz.prog W "internal/strconv.uint64pow10" .u64 Lib.pow10Tab:=by
 obtain⟨g',t',cs,fuel,p,hg',ht',hvar,hd⟩:=Lib.laidMet.reads h (.tail _ (.tail _ (.head _)));obtain rfl:=fR (bVw.symm.trans hg');obtain rfl:=fR (aWx.symm.trans ht');rw[bDm]at hd;unfold Lib.TabIs;rw[hvar,← Lib.cells_of_tab Tryz.underlying272 Tryz.underlying258 (by kernel_rfl) (by kernel_rfl) hd]
theorem cKu{W:World}(h:laidMet Tryz.prog A5 W):∀k a,G0 k=some a→GRel (.none fun b=>b<W.heap.size) W [] k a:=by
 intro k a hk;unfold G0 at hk;split at hk
 ·rename_i hk0;subst hk0;cases hk;exact aTb cHb (cCl h) (by decide)
 ·split at hk
  ·rename_i hk0;subst hk0;cases hk;exact aTb bVw (bTx h) (by decide)
  ·cases hk
def bUe:Value:=.agg #[.slice none 0 0,.slice none 0 0,.slice none 0 0,.slice none 0 0,.slice none 0 0]
def cJq{H:Type}:DataW H:=.agg [.nil,.nil,.nil,.nil,.nil]
def bTv{H:Type}:DataW H:=.agg [.lit (.int .i64 0),.lit (.int .i64 0),.lit (.string []),.lit (.string []),.nil,.nil]
def aGr:Value:=.agg #[.int .i64 0,.int .i64 0,.string ⟨#[]⟩,.string ⟨#[]⟩,.slice none 0 0,.slice none 0 0,.int .i64 0,.int .i64 0,.string ⟨#[]⟩,.string ⟨#[]⟩,.slice none 0 0,.slice none 0 0,.slice none 0 0]
def cAo{H:Type}:DataW H:=.agg [bTv,bTv,.nil]
theorem aQe{W:World}{sO:Nat}{v:Value}(h:Value.okWide Tryz.prog W .any sO 26 v):∃cs,v=.agg cs:=by
 unfold Value.okWide at h;rw[Tryz.underlying26]at h;obtain⟨cs,rfl,_⟩:=h;exact⟨cs,rfl⟩
theorem aDp(f:Func)(h:f.params.toList.all (fun t=>Tryz.prog.readableRec t&&decide (t<Tryz.prog.types.size))=true):∀t∈f.params.toList,Tryz.prog.readableRec t=true∧t<Tryz.prog.types.size:=by
 intro t ht;have:=bF.1 h t ht;simpa using this
theorem bMo{H:Type}{enc:TypeId×Value→H}{W:World}{sO:Nat}{v:Value}{d:DataW H}{p:List MemPlace}(hval:Value.okWide Tryz.prog W .any sO 26 v)(h0:DataW.Trod enc Tryz.prog W 0 (fun _=>true) true 26 v d p)(hw:∀n∈d.weights Tryz.prog 26,n≤reachBytes) :
 ∃s,OkS s∧RV (.none fun b=>b<W.heap.size) W [] (.agg (dT s)) v:=bAg (aQe hval) h0 hw (cCs (fun _ h=>h))
end Go.Proofs.YtdjcggcjlphdoaaGreatDoor

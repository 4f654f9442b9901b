/-
  Contracts of the library (sorting, fields, a byte in a string) at this program: laid by the kit's tool; no condition.
-/
import Derived.Shelf.Small.Strs
import Derived.Shelf.Strconv.Itoa3
import Derived.Shelf.Strings.Builder1
import Derived.Shelf.Strings.Fields
import Derived.Test.YtifefbhllfdmlaaGreatDoorProg
import Derived.Test.YtifefbhllfdmlaaGreatDoorSoP122
import Derived.Sort.Walk0
set_option linter.unusedVariables false
set_option maxRecDepth 100000
set_option linter.unusedSimpArgs false
set_option maxHeartbeats 4000000
namespace Go.Proofs
open Go.Shelf
def Tryz.lays169_ren:Go.Shelf.Ren:=⟨fun | 169=>220 | n=>n,fun | 70=>230 | 9=>9 | 0=>0 | 72=>233 | 37=>231 | 127=>264 | 3=>3 | 5=>5 | n=>n,fun | n=>n⟩
theorem Tryz.lays169:Go.Proofs.Lays.n169 Tryz.prog Tryz.lays169_ren:={
 mixed:=by kernel_rfl
 f169:=Tryz.func220.trans (congrArg some (by kernel_rfl))
 t0:=Tryz.underlying0
 a0:=Tryz.isAgg0
 z0:=Tryz.sizeOf0
 v0:=Tryz.zeroValue0
 t3:=Tryz.underlying3
 a3:=Tryz.isAgg3
 z3:=Tryz.sizeOf3
 v3:=Tryz.zeroValue3
 t9:=Tryz.underlying9
 a9:=Tryz.isAgg9
 z9:=Tryz.sizeOf9
 v9:=Tryz.zeroValue9
 t37:=Tryz.underlying231
 a37:=Tryz.isAgg231
 z37:=Tryz.sizeOf231
 v37:=Tryz.zeroValue231
 t70:=Tryz.underlying230
 a70:=Tryz.isAgg230
 z70:=Tryz.sizeOf230
 v70:=Tryz.zeroValue230
 t72:=Tryz.underlying233
 a72:=Tryz.isAgg233
 z72:=Tryz.sizeOf233
 v72:=Tryz.zeroValue233
 t127:=Tryz.underlying264
 a127:=Tryz.isAgg264
 z127:=Tryz.sizeOf264
 v127:=Tryz.zeroValue264 }
theorem Tryz.Builder_Extra_169:Builder.Extra Tryz.prog Tryz.lays169_ren:={
 sizeBuilder:=by kernel_rfl
 liesBuilder:=by kernel_rfl
 t5:=Tryz.underlying5
 a5:=Tryz.isAgg5
 z5:=Tryz.sizeOf5
 v5:=Tryz.zeroValue5
 infoByte:=by kernel_rfl
 cellsByte:=by kernel_rfl
 sizeByte:=by kernel_rfl
 neB5:=by decide }
def Tryz.lays137_ren:Go.Shelf.Ren:=⟨fun | 137=>232 | 217=>257 | 266=>270 | n=>n,fun | 9=>9 | 5=>5 | 3=>3 | n=>n,fun | n=>n⟩
theorem Tryz.lays137:Go.Proofs.Lays.n137 Tryz.prog Tryz.lays137_ren:={
 mixed:=by kernel_rfl
 f137:=Tryz.func232.trans (congrArg some (by kernel_rfl))
 f217:=Tryz.func257.trans (congrArg some (by kernel_rfl))
 f266:=Tryz.func270.trans (congrArg some (by kernel_rfl))
 t3:=Tryz.underlying3
 a3:=Tryz.isAgg3
 z3:=Tryz.sizeOf3
 v3:=Tryz.zeroValue3
 t5:=Tryz.underlying5
 a5:=Tryz.isAgg5
 z5:=Tryz.sizeOf5
 v5:=Tryz.zeroValue5
 t9:=Tryz.underlying9
 a9:=Tryz.isAgg9
 z9:=Tryz.sizeOf9
 v9:=Tryz.zeroValue9 }
open Go.RowKit in
theorem Tryz.strings_IndexByte (s:ByteArray) (c:Int) (w:World) :
   Calls Tryz.prog 232 #[.string s,.int .u8 c] w fun e w'=>e=.returned (.int .i64 (Lib.indexByte s.data.toList c.toNat.toUInt8))∧w'=w:=Any.strings_IndexByte Tryz.lays137 s c w
def Tryz.laysM171_ren:Go.Shelf.Ren:=⟨fun | 171=>178 | 243=>218 | 246=>244 | 283=>262 | 284=>263 | 285=>264 | 286=>265 | 129=>272 | 317=>271 | 318=>273 | 319=>274 | 320=>275 | 337=>277 | 338=>278 | n=>n,fun | 3=>3 | 9=>9 | 2=>2 | 4=>4 | 171=>277 | 0=>0 | 53=>278 | 37=>231 | 5=>5 | 173=>281 | 212=>296 | 51=>273 | 20=>20 | 213=>297 | 46=>298 | 232=>305 | 233=>306 | n=>n,fun | 17=>2 | 18=>4 | 19=>5 | n=>n⟩
theorem Tryz.laysM171:Go.Proofs.LaysM.n171 Tryz.prog Tryz.laysM171_ren:={
 mixed:=by kernel_rfl
 f129:=Tryz.func272.trans (congrArg some (by kernel_rfl))
 f171:=Tryz.func178.trans (congrArg some (by kernel_rfl))
 f243:=Tryz.func218.trans (congrArg some (by kernel_rfl))
 f246:=Tryz.func244.trans (congrArg some (by kernel_rfl))
 f283:=Tryz.func262.trans (congrArg some (by kernel_rfl))
 f284:=Tryz.func263.trans (congrArg some (by kernel_rfl))
 f285:=Tryz.func264.trans (congrArg some (by kernel_rfl))
 f286:=Tryz.func265.trans (congrArg some (by kernel_rfl))
 f317:=Tryz.func271.trans (congrArg some (by kernel_rfl))
 f318:=Tryz.func273.trans (congrArg some (by kernel_rfl))
 f319:=Tryz.func274.trans (congrArg some (by kernel_rfl))
 f320:=Tryz.func275.trans (congrArg some (by kernel_rfl))
 f337:=Tryz.func277.trans (congrArg some (by kernel_rfl))
 f338:=Tryz.func278.trans (congrArg some (by kernel_rfl))
 t0:=Tryz.underlying0
 a0:=Tryz.isAgg0
 z0:=Tryz.sizeOf0
 v0:=Tryz.zeroValue0
 t2:=Tryz.underlying2
 a2:=Tryz.isAgg2
 z2:=Tryz.sizeOf2
 v2:=Tryz.zeroValue2
 t3:=Tryz.underlying3
 a3:=Tryz.isAgg3
 z3:=Tryz.sizeOf3
 v3:=Tryz.zeroValue3
 t4:=Tryz.underlying4
 a4:=Tryz.isAgg4
 z4:=Tryz.sizeOf4
 v4:=Tryz.zeroValue4
 t5:=Tryz.underlying5
 a5:=Tryz.isAgg5
 z5:=Tryz.sizeOf5
 v5:=Tryz.zeroValue5
 t9:=Tryz.underlying9
 a9:=Tryz.isAgg9
 z9:=Tryz.sizeOf9
 v9:=Tryz.zeroValue9
 t20:=Tryz.underlying20
 a20:=Tryz.isAgg20
 z20:=Tryz.sizeOf20
 v20:=Tryz.zeroValue20
 t37:=Tryz.underlying231
 a37:=Tryz.isAgg231
 z37:=Tryz.sizeOf231
 v37:=Tryz.zeroValue231
 t46:=Tryz.underlying298
 a46:=Tryz.isAgg298
 z46:=Tryz.sizeOf298
 v46:=Tryz.zeroValue298
 t51:=Tryz.underlying273
 a51:=Tryz.isAgg273
 z51:=Tryz.sizeOf273
 v51:=Tryz.zeroValue273
 t53:=Tryz.underlying278
 a53:=Tryz.isAgg278
 z53:=Tryz.sizeOf278
 v53:=Tryz.zeroValue278
 t171:=Tryz.underlying277
 a171:=Tryz.isAgg277
 z171:=Tryz.sizeOf277
 v171:=Tryz.zeroValue277
 t173:=Tryz.underlying281
 a173:=Tryz.isAgg281
 z173:=Tryz.sizeOf281
 v173:=Tryz.zeroValue281
 t212:=Tryz.underlying296
 a212:=Tryz.isAgg296
 z212:=Tryz.sizeOf296
 v212:=Tryz.zeroValue296
 t213:=Tryz.underlying297
 a213:=Tryz.isAgg297
 z213:=Tryz.sizeOf297
 t232:=Tryz.underlying305
 a232:=Tryz.isAgg305
 z232:=Tryz.sizeOf305
 v232:=Tryz.zeroValue305
 t233:=Tryz.underlying306
 a233:=Tryz.isAgg306
 z233:=Tryz.sizeOf306
 v233:=Tryz.zeroValue306
 g17:=by kernel_rfl
 g18:=by kernel_rfl
 g19:=by kernel_rfl
 i0:=by kernel_rfl
 i2:=by kernel_rfl
 i3:=by kernel_rfl
 i4:=by kernel_rfl
 i5:=by kernel_rfl
 i9:=by kernel_rfl
 i20:=by kernel_rfl
 i37:=by kernel_rfl
 i46:=by kernel_rfl
 i51:=by kernel_rfl
 i53:=by kernel_rfl
 i171:=by kernel_rfl
 i173:=by kernel_rfl
 i212:=by kernel_rfl
 i232:=by kernel_rfl
 i233:=by kernel_rfl
 m17:=by kernel_rfl
 m18:=by kernel_rfl
 m19:=by kernel_rfl }
open Go.RowKit Go.Sort Go.Lib in
theorem Tryz.strconv_Itoa (n:Int) (h0 : -9223372036854775808≤n) (h1:n≤9223372036854775807) (w:World) (htab:Lib.TabIs Tryz.prog w "internal/strconv.uint64pow10" .u64 Lib.pow10Tab) :
   Calls Tryz.prog 178 #[.int .i64 n] w fun e w'=>e=.returned (.string ⟨(Lib.itoa n).toArray⟩)∧∃ k os,w'=grow (w.drewN k) os:=Any.strconv_Itoa Tryz.laysM171 n h0 h1 w htab
def Tryz.lays157_ren:Go.Shelf.Ren:=⟨fun | 157=>196 | 229=>230 | 199=>231 | 261=>256 | 311=>268 | 312=>269 | n=>n,fun | 9=>9 | 31=>22 | 3=>3 | 5=>5 | 4=>4 | 119=>249 | 0=>0 | 40=>251 | 152=>270 | 21=>21 | 154=>272 | 51=>273 | 141=>275 | 196=>286 | 193=>283 | 198=>289 | 49=>287 | 194=>284 | 201=>292 | 226=>302 | 46=>298 | 227=>303 | n=>n,fun | 0=>0 | 6=>1 | n=>n⟩
theorem Tryz.lays157:Go.Proofs.Lays.n157 Tryz.prog Tryz.lays157_ren:={
 mixed:=by kernel_rfl
 f157:=Tryz.func196.trans (congrArg some (by kernel_rfl))
 f199:=Tryz.func231.trans (congrArg some (by kernel_rfl))
 f229:=Tryz.func230.trans (congrArg some (by kernel_rfl))
 f261:=Tryz.func256.trans (congrArg some (by kernel_rfl))
 f311:=Tryz.func268.trans (congrArg some (by kernel_rfl))
 f312:=Tryz.func269.trans (congrArg some (by kernel_rfl))
 t0:=Tryz.underlying0
 a0:=Tryz.isAgg0
 z0:=Tryz.sizeOf0
 v0:=Tryz.zeroValue0
 t3:=Tryz.underlying3
 a3:=Tryz.isAgg3
 z3:=Tryz.sizeOf3
 v3:=Tryz.zeroValue3
 t4:=Tryz.underlying4
 a4:=Tryz.isAgg4
 z4:=Tryz.sizeOf4
 v4:=Tryz.zeroValue4
 t5:=Tryz.underlying5
 a5:=Tryz.isAgg5
 z5:=Tryz.sizeOf5
 v5:=Tryz.zeroValue5
 t9:=Tryz.underlying9
 a9:=Tryz.isAgg9
 z9:=Tryz.sizeOf9
 v9:=Tryz.zeroValue9
 t21:=Tryz.underlying21
 a21:=Tryz.isAgg21
 z21:=Tryz.sizeOf21
 v21:=Tryz.zeroValue21
 t31:=Tryz.underlying22
 a31:=Tryz.isAgg22
 z31:=Tryz.sizeOf22
 v31:=Tryz.zeroValue22
 t40:=Tryz.underlying251
 a40:=Tryz.isAgg251
 z40:=Tryz.sizeOf251
 v40:=Tryz.zeroValue251
 t46:=Tryz.underlying298
 a46:=Tryz.isAgg298
 z46:=Tryz.sizeOf298
 v46:=Tryz.zeroValue298
 t49:=Tryz.underlying287
 a49:=Tryz.isAgg287
 z49:=Tryz.sizeOf287
 v49:=Tryz.zeroValue287
 t51:=Tryz.underlying273
 a51:=Tryz.isAgg273
 z51:=Tryz.sizeOf273
 v51:=Tryz.zeroValue273
 t119:=Tryz.underlying249
 a119:=Tryz.isAgg249
 z119:=Tryz.sizeOf249
 t141:=Tryz.underlying275
 a141:=Tryz.isAgg275
 z141:=Tryz.sizeOf275
 v141:=Tryz.zeroValue275
 t152:=Tryz.underlying270
 a152:=Tryz.isAgg270
 z152:=Tryz.sizeOf270
 v152:=Tryz.zeroValue270
 t154:=Tryz.underlying272
 a154:=Tryz.isAgg272
 z154:=Tryz.sizeOf272
 v154:=Tryz.zeroValue272
 t193:=Tryz.underlying283
 a193:=Tryz.isAgg283
 z193:=Tryz.sizeOf283
 v193:=Tryz.zeroValue283
 t194:=Tryz.underlying284
 a194:=Tryz.isAgg284
 z194:=Tryz.sizeOf284
 v194:=Tryz.zeroValue284
 t196:=Tryz.underlying286
 a196:=Tryz.isAgg286
 z196:=Tryz.sizeOf286
 v196:=Tryz.zeroValue286
 t198:=Tryz.underlying289
 a198:=Tryz.isAgg289
 z198:=Tryz.sizeOf289
 v198:=Tryz.zeroValue289
 t201:=Tryz.underlying292
 a201:=Tryz.isAgg292
 z201:=Tryz.sizeOf292
 v201:=Tryz.zeroValue292
 t226:=Tryz.underlying302
 a226:=Tryz.isAgg302
 z226:=Tryz.sizeOf302
 v226:=Tryz.zeroValue302
 t227:=Tryz.underlying303
 a227:=Tryz.isAgg303
 z227:=Tryz.sizeOf303
 v227:=Tryz.zeroValue303
 g0:=by kernel_rfl
 g6:=by kernel_rfl }
end Go.Proofs
namespace Go.Proofs.YtifefbhllfdmlaaGreatDoor
open Go Go.Vo
open Nat (reduceAdd reduceSub reduceMul reduceLeDiff reduceLT reduceEqDiff)
open Int (reduceNeg)

theorem bFe (l:List LOp) (hl:l.length≤1172812402961): CT 87 [avo l] (.own 1 ((l.map LOp.name).map .s) l.length):=by
 refine aQ mixed Tryz.func87 g0 ?_
 · skip
   refine dD (fun (s:Nat × AV × List AObj)=>[.k,.k,.k,.v (s.2.1),.k,.j,.k,.k,.v (.i .i64 (s.1:Nat)),.j,.j,.j,.j,.j,.j,.j,.j,.j,.k]) (fun s=>s.2.2) (fun s=>s.1≤l.length∧fD 1 0 s.2.2 s.2.1 (((l.take s.1).map LOp.name).map .s) s.1) (fun s=>l.length - s.1) ((0,.e0,[])) ⟨aT _,kK⟩ rfl (by simp [iL]) ?_
   rintro ⟨k,out,g⟩ j ⟨hk,ho⟩
   dsimp only at hk ho
   refine zg ?_
   (refine zs0 ?_; repeat' first | exact trivial | refine zJ ?_ ?_ | refine zH fun hc=>?_)
   · refine fE (pre:=[]) (news:=[.s (l.getD k default).name]) (m:=1) ho rfl rfl bJe zo9 sz9 by9 rfl (by decide) (by simp -implicitDefEqProofs (disch:=omega) only [go_sem,simprocAttr]) (by simp -implicitDefEqProofs (disch:=omega) only [go_sem,simprocAttr]) ⟨by omega,by omega⟩ ?_
     intro out' g' ho' _
     refine zg ?_
     refine ⟨(k+1,out',g'),⟨by omega,?_⟩,by simp; omega,rfl,by simp⟩
     rw [fZ (d:=default) (by omega),bF,bF]
     exact ho'
   · have h1:k=l.length:=by omega
     subst h1
     exact yQ (pre:=[]) (by simpa using ho) kY
end Go.Proofs.YtifefbhllfdmlaaGreatDoor
namespace Go.Proofs.YtifefbhllfdmlaaGreatDoor
open Go Go.Vo
open Nat (reduceAdd reduceSub reduceMul reduceLeDiff reduceLT reduceEqDiff)
open Int (reduceNeg)

def pF (x:Str) (L:List Str) (b:Str × Str):List Str:=if b.1=x∧L.contains b.2=false then L++[b.2] else L
def oA (l:List (Str × Str)) (x:Str) (L:List Str):List Str:=l.foldl (pF x) L
def climbG (l:List (Str × Str)):Nat→Nat→List Str→List Str
 | 0,_,L=>L
 | f+1,i,L=>if i < L.length then climbG l f (i+1) (oA l (L.getD i []) L) else L
def climb (l:List (Str × Str)) (a:Str):List Str:=climbG l (l.length+1) 0 [a]

theorem vB (x:Str) (L:List Str) (b:Str × Str):(pF x L b=L)∨(b.1=x∧L.contains b.2=false∧pF x L b=L++[b.2]):=by
 unfold pF
 split
 · rename_i h; exact .inr ⟨h.1,h.2,rfl⟩
 · exact .inl rfl
structure Climbs (l:List (Str × Str)) (a:Str) (L:List Str):Prop where
 nd:L.Nodup
 sub:∀ x ∈ L,x=a∨∃ b ∈ l,b.2=x
 me:a ∈ L
theorem Climbs.step {l:List (Str × Str)} {a x:Str} {L:List Str} {b:Str × Str} (h:Climbs l a L) (hb:b ∈ l):Climbs l a (pF x L b):=by
 rcases vB x L b with e | ⟨_,h2,e⟩
 · rw [e]; exact h
 · rw [e]
   refine ⟨?_,?_,by simp [h.me]⟩
   · rw [lW]
     refine ⟨h.nd,by simp,?_⟩
     intro y hy z hz hyz
     simp only [bA] at hz
     have:b.2 ∉ L:=by simpa using h2
     exact this (hz ▸ hyz ▸ hy)
   · intro y hy
     rcases bN.1 hy with hy | hy
     · exact h.sub y hy
     · simp only [bA] at hy; exact .inr ⟨b,hb,hy.symm⟩
theorem tA {α:Type} [DecidableEq α]:∀ {L M:List α},L.Nodup→(∀ x ∈ L,x ∈ M)→L.length≤M.length
 | [],M,_,_=>aT _
 | x :: L,M,hn,hs=>by
   rw [oR] at hn
   have hx:=hs x (by simp)
   have:=tA (L:=L) (M:=M.erase x) hn.2 (fun y hy=>by
     have hne:y ≠ x:=fun e=>hn.1 (e ▸ hy)
     exact (List.mem_erase_of_ne hne).2 (hs y (by simp [hy])))
   rw [List.length_erase_of_mem hx] at this
   have hpos:0 < M.length:=pA hx
   simp only [aD]; omega
theorem Climbs.len {l:List (Str × Str)} {a:Str} {L:List Str} (h:Climbs l a L):L.length≤l.length+1:=by
 have:=tA (M:=a::l.map (·.2)) h.nd (fun x hx=>by
   rcases h.sub x hx with h1 | ⟨b,h1,h2⟩
   · simp [h1]
   · simp only [cH,kF]; exact .inr ⟨b,h1,h2⟩)
 simpa using this
theorem G8 {x:Str} {L:List Str} {b:Str × Str} {i:Nat} (hi:i < L.length):(pF x L b).getD i []=L.getD i []∧i < (pF x L b).length:=by
 rcases vB x L b with e | ⟨_,_,e⟩
 · rw [e]; exact ⟨rfl,hi⟩
 · rw [e]; simp [List.getD,aC hi]; omega
theorem aAp {l:List (Str × Str)} {i:Nat} {L:List Str} (h:L.length≤i):∀ f,climbG l f i L=L
 | 0=>rfl
 | f+1=>by simp only [climbG]; rw [if_neg (by omega)]

theorem pE {l:List (Str × Str)} {x:Str} {L:List Str} {k:Nat} (h:k < l.length):oA (l.take (k+1)) x L=pF x (oA (l.take k) x L) (l.getD k ([],[])):=by
 rw [fZ (d:=([],[])) h]; simp [oA,List.foldl_append]

structure A3 (l:List (Str × Str)) (a:Str) (i:Nat) (L:List Str):Prop where
 le:i≤L.length
 c:Climbs l a L
 eq:climbG l (l.length+1 - i) i L=climb l a
theorem A3.start (l:List (Str × Str)) (a:Str):A3 l a 0 [a]:=⟨by simp,⟨by simp,by simp,by simp⟩,rfl⟩
theorem A3.next {l:List (Str × Str)} {a:Str} {i:Nat} {L:List Str} (h:A3 l a i L) (hi:i < L.length) (hc:Climbs l a (oA l (L.getD i []) L)) (hl:i < (oA l (L.getD i []) L).length):A3 l a (i+1) (oA l (L.getD i []) L):=by
 refine ⟨hl,hc,?_⟩
 have:=h.c.len
 have e:l.length+1 - i=(l.length+1 - (i+1))+1:=by omega
 rw [← h.eq,e,climbG,if_pos hi]

theorem bHm (s:dF) (a:Str) (hb:s.below.length≤1000000): CT 95 [.agg (cB s),.s a] (.own 1 ((climb s.below a).map .s) (climb s.below a).length):=by
 refine aQ mixed Tryz.func95 g0 ?_
 · skip
   refine dD (fun (t:Nat × List Str × AV × List AObj)=>[.k,.k,.k,.k,.k,.v (t.2.2.1),.v (.i .i64 (t.1:Nat)),.k,.j,.k,.k,.j,.j,.j,.j,.j,.j,.j,.j,.j,.j,.j,.j,.j,.j,.j,.j,.j,.j,.j,.j,.j,.j,.j,.j,.j,.j,.j,.j,.j,.j,.j,.j,.j,.k]) (fun t=>.box false [.sl (s.sorts.map .s) s.sorts.length,.sl (s.below.flatMap dP) s.below.length,.sl (s.ops.flatMap dA) s.ops.length,.sl (s.funs.flatMap dA) s.funs.length,.sl (s.values.map .s) s.values.length]::t.2.2.2) (fun t=>A3 s.below a t.1 t.2.1∧fD 1 1 t.2.2.2 t.2.2.1 (t.2.1.map .s) t.2.1.length) (fun t=>s.below.length+1 - t.1) ((0,[a],.hs 1 0 1 false,[.arr false 1 [.s a]])) ⟨A3.start _ _,.inr ⟨0,rfl,rfl,rfl⟩⟩ rfl (by simp [iL]) ?_
   rintro ⟨i,L,out,g⟩ j ⟨hI,ho⟩
   dsimp only at hI ho
   have hlen:=hI.c.len
   have hle:=hI.le
   rcases ho with ⟨_,hnil,_⟩ | ⟨i0,rfl,hg,_⟩
   · exfalso
     have h1:L=[]:=by simpa using hnil
     have:=hI.c.me
     simp [h1] at this
   refine zh hg ?_
   (refine zx0 hg ?_; repeat' first | exact trivial | refine zJ ?_ ?_ | refine zH fun hc=>?_)
   · have hcl:i < L.length:=by simpa using hc
     refine dD (fun (t:Nat × List Str × AV × List AObj)=>[.k,.k,.k,.k,.k,.v (t.2.2.1),.k,.k,.j,.k,.k,.k,.k,.k,.k,.k,.k,.k,.k,.k,.v (.i .i64 (t.1:Nat)),.j,.j,.j,.j,.j,.j,.j,.j,.j,.j,.j,.j,.j,.j,.j,.j,.j,.j,.j,.j,.j,.j,.j,.k]) (fun t=>.box false [.sl (s.sorts.map .s) s.sorts.length,.sl (s.below.flatMap dP) s.below.length,.sl (s.ops.flatMap dA) s.ops.length,.sl (s.funs.flatMap dA) s.funs.length,.sl (s.values.map .s) s.values.length]::t.2.2.2) (fun t=>t.1≤s.below.length∧t.2.1=oA (s.below.take t.1) (L.getD i []) L∧Climbs s.below a t.2.1∧(t.2.1.getD i []=L.getD i []∧i < t.2.1.length)∧fD 1 1 t.2.2.2 t.2.2.1 (t.2.1.map .s) t.2.1.length) (fun t=>s.below.length - t.1) ((0,L,.hs (i0+1) 0 L.length false,g)) ⟨aT _,rfl,hI.c,⟨rfl,hcl⟩,.inr ⟨i0,rfl,hg,by simp⟩⟩ rfl (by simp [iL]) ?_
     rintro ⟨k,M,out,g⟩ j ⟨hk,hM,hc2,⟨hget,hlt⟩,ho⟩
     dsimp only at hk hM hc2 hget hlt ho
     have hlenM:=hc2.len
     have ho1:=ho
     rcases ho with ⟨_,hnil,_⟩ | ⟨i1,rfl,hg1,_⟩
     · exfalso
       have h1:M=[]:=by simpa using hnil
       simp [h1] at hlt
     have hi1:=aK hg1
     have hg2:∀ m,(g++m)[i1]? = some (.arr false 1 (M.map .s)):=fun m=>by rw [aC hi1]; exact hg1
     refine zh hg2 ?_
     (refine zx1 hg2 (C0 M (s.below.getD k ([],[])).2) ?_; repeat' first | exact trivial | refine zJ ?_ ?_ | refine zH fun hc=>?_)
     · have e:pF (L.getD i []) M (s.below.getD k ([],[]))=M++[(s.below.getD k ([],[])).2]:=if_pos ⟨by rw [← hget]; assumption,hc⟩
       have hp:=G8 (x:=L.getD i []) (b:=s.below.getD k ([],[])) hlt
       have hst:=hc2.step (x:=L.getD i []) (cC (d:=([],[])) (show k < s.below.length by omega))
       rw [e] at hp hst
       refine ⟨(k+1,M++[(s.below.getD k ([],[])).2],.hs (g.length+2+1) 0 (M.length+1) false,_),⟨by omega,?_,hst,⟨hp.1.trans hget,hp.2⟩,.inr ⟨g.length+2,by simp,?_,by simp⟩⟩,by simp; omega,rfl,by simp⟩
       · rw [pE (by omega),← hM,e]
       · simp
     · have e:pF (L.getD i []) M (s.below.getD k ([],[]))=M:=if_neg (by rw [hc]; simp)
       refine ⟨(k+1,M,_,_),⟨by omega,?_,hc2,⟨hget,hlt⟩,ho1.more _⟩,by simp; omega,rfl,by simp⟩
       rw [pE (by omega),← hM,e]
     · have e:pF (L.getD i []) M (s.below.getD k ([],[]))=M:=if_neg (by rw [hget] at hc; exact fun h=>hc h.1)
       refine ⟨(k+1,M,_,_),⟨by omega,?_,hc2,⟨hget,hlt⟩,ho1.more _⟩,by simp; omega,rfl,by simp⟩
       rw [pE (by omega),← hM,e]
     · have h1:s.below.take k=s.below:=aJ (by omega)
       rw [h1] at hM
       subst hM
       exact ⟨(i+1,_,_,_),⟨hI.next hcl hc2 hlt,ho1⟩,by simp; omega,rfl,by simp⟩
   · have hd:=hI.eq
     rw [aAp (by omega)] at hd
     subst hd
     exact yQ (pre:=[_]) (.inr ⟨i0,rfl,hg,by simp⟩) kY
end Go.Proofs.YtifefbhllfdmlaaGreatDoor
namespace Go.Proofs.YtifefbhllfdmlaaGreatDoor
open Go Go.Vo
open Nat (reduceAdd reduceSub reduceMul reduceLeDiff reduceLT reduceEqDiff)
open Int (reduceNeg)

theorem bEb:(22:Nat) ≠ 3:=by decide
theorem bMn {h:List AObj}:iX Tryz.prog h .cap #[22] [.e0]=some (.i .i64 0,h):=aNb bPi
theorem bIj {dr:Option DR} {d:Option Nat} {os:List fI} {K:List AV→List AObj→Prop} {env:List AV} {h:List AObj} {s x:Operand}:dW Tryz.prog G0 dr (.call ⟨.builtin .append,#[s,x],#[22,3]⟩) d os K env h=N4 Tryz.prog G0 dr (Tryz.prog.underlying 3) (nR Tryz.prog h 22 (aev G0 env s) (aev G0 env x)) d os K env:=sV bEb
theorem bMm:((0:Nat):Int)=0:=rfl
theorem aBv {a:AV}:∀ {n:Nat},(List.replicate n [a]).flatten=List.replicate n a
 | 0=>rfl
 | n+1=>by rw [iR,aZ,aBv]; rfl
attribute [go_sem] bMn bMm Int.sub_zero aBv List.length_replicate false_and aT
attribute [go_sem ↓] bIj
theorem bHc (n:Nat) (hn:n≤1000000): CT 152 [.e0,.i .i64 n] (.own 1 [] 0):=by
 refine aQ mixed Tryz.func152 g0 ?_
 · skip
   (refine zs0 ?_; repeat' first | exact trivial | refine zJ ?_ ?_ | refine zH fun hc=>?_)
   · exfalso; omega
   · rw [if_pos (by omega),if_neg (by omega)]
     refine zg ?_
     exact .inr ⟨⟨rfl,rfl,_,rfl,by simp,by simp,rfl⟩,by simp [cD],by simp [cD,iW]⟩
   · exact .inr ⟨⟨rfl,rfl⟩,by simp [cD],by simp [cD]⟩
theorem Z6 {l:List (List Str)} {k:Nat} (h:k < l.length):(l.map avs)[k]? = some (avs (l.getD k [])):=by simp [h]
attribute [go_sem] Z6
def M3 (l:List (List Str)):Nat:=l.flatten.length
@[simp] theorem bIw:M3 []=0:=rfl
theorem xI {l:List (List Str)} {k:Nat} (h:k < l.length):M3 (l.take (k+1))=M3 (l.take k)+(l.getD k []).length:=by
 rw [fZ (d:=[]) h]; simp [M3]
theorem aIi {l:List (List Str)} {k:Nat}:M3 (l.take k)≤M3 l:=by
 have h:(l.take k++l.drop k).flatten.length=l.flatten.length:=by rw [eV]
 unfold M3
 rw [kO,aG] at h
 omega
theorem aIj {l:List (List Str)} {k:Nat} (h:k < l.length):M3 (l.take k)+(l.getD k []).length≤M3 l:=by
 rw [← xI h]; exact aIi
theorem bHn (l:List (List Str)) (hl:l.length≤1000) (hs:M3 l≤1000000): CT 94 [.sl (l.map avs) l.length] (.own 1 (l.flatten.map .s) l.flatten.length):=by
 refine aQ mixed Tryz.func94 g0 ?_
 · skip
   refine dD (fun (k:Nat)=>[.k,.k,.k,.v (.i .i64 (M3 (l.take k):Nat)),.k,.j,.k,.k,.k,.k,.k,.v (.i .i64 k),.j,.j,.j,.j,.j,.j,.j,.j,.j,.j,.j,.k,.k,.k,.k,.k,.k,.k,.k,.k,.k,.k,.k,.k]) (fun k=>[]) (fun k=>k≤l.length) (fun k=>l.length - k) (0) (aT _) rfl (by simp [iL]) ?_
   rintro k j hk
   have hat:k < l.length→M3 (l.take k)+(l.getD k []).length≤M3 l:=aIj
   have hkk:=aIi (l:=l) (k:=k)
   refine zg ?_
   (refine zs0 ?_; repeat' first | exact trivial | refine zJ ?_ ?_ | refine zH fun hc=>?_)
   · exfalso; omega
   · refine ⟨k+1,by omega,by omega,?_,by simp⟩
     rw [xI (by omega)]; simp
   · have h1:k=l.length:=by omega
     subst h1
     refine aNd (bHc (M3 l) (by omega)) (by simp -implicitDefEqProofs (disch:=omega) only [aPo,go_sem,simprocAttr]) ?_
     refine zg ?_
     refine dD (fun (t:Nat × AV × List AObj)=>[.k,.k,.k,.k,.k,.k,.v (t.2.1),.k,.j,.k,.k,.k,.k,.k,.k,.k,.k,.k,.k,.k,.k,.k,.k,.k,.k,.k,.k,.v (.i .i64 (t.1:Nat)),.j,.j,.j,.j,.j,.j,.j,.k]) (fun t=>t.2.2) (fun t=>t.1≤l.length∧fD 1 0 t.2.2 t.2.1 ((l.take t.1).flatten.map .s) (M3 (l.take t.1))) (fun t=>l.length - t.1) ((0,.hs 0 0 0 false,[.arr false 1 []])) ⟨aT _,.inr ⟨0,rfl,rfl,rfl⟩⟩ rfl (by simp [iL]) ?_
     rintro ⟨k,out,g⟩ j ⟨hk,ho⟩
     dsimp only at hk ho
     have hat:k < l.length→M3 (l.take k)+(l.getD k []).length≤M3 l:=aIj
     refine zg ?_
     (refine zs0 ?_; repeat' first | exact trivial | refine zJ ?_ ?_ | refine zH fun hc=>?_)
     · refine fE (more:=[]) (pre:=[]) (news:=(l.getD k []).map .s) (m:=(l.getD k []).length) ho rfl (by simp) bJe zo9 sz9 by9 rfl (by decide) (by simp -implicitDefEqProofs (disch:=omega) only [go_sem,simprocAttr]) (by simp -implicitDefEqProofs (disch:=omega) only [go_sem,simprocAttr]) ⟨by omega,by omega⟩ ?_
       intro out' g' ho' _
       refine zg ?_
       refine ⟨(k+1,out',g'),⟨by omega,?_⟩,by simp; omega,rfl,by simp⟩
       dsimp only
       rw [xI (by omega),fZ (d:=[]) (by omega),kO,bF]
       simpa using ho'
     · have h1:k=l.length:=by omega
       subst h1
       rw [jB] at ho
       exact yQ (pre:=[]) ho kY
end Go.Proofs.YtifefbhllfdmlaaGreatDoor
namespace Go.Proofs.YtifefbhllfdmlaaGreatDoor
open Go Go.Vo
open Nat (reduceAdd reduceSub reduceMul reduceLeDiff reduceLT reduceEqDiff)
open Int (reduceNeg)

structure Small (s:dF):Prop where
 sorts:s.sorts.length≤100
 below:s.below.length≤1000
 ops:s.ops.length≤1000
 funs:s.funs.length≤1000
 values:s.values.length≤1000
def keysOf (s:dF):List Str:=iQ++s.sorts
def ups (s:dF) (a:Str):AV:=avs (climb s.below a)
def L4 (s:dF):AV:=.mapv ((keysOf s).map .s) ((keysOf s).map (ups s))
def aQr (l:List LOp):AV:=.mapv ((l.map LOp.name).map .s) (l.map elO)
def lL (s:dF):List AV:=cB s++[L4 s,aQr s.ops,aQr s.funs]
def cU (s:dF):AV:=.box (lL s) 0
structure L8 (s:dF):Prop where
 keys:(keysOf s).Nodup
 ops:(s.ops.map LOp.name).Nodup
 funs:(s.funs.map LOp.name).Nodup

theorem yA {s:dF}:∀ {l:List Str},persL (l.map (ups s))=true
 | []=>rfl
 | x::l=>by simp only [aO,persL,ups,sY,yA,dV]
theorem yB:∀ {l:List LOp},persL (l.map elO)=true
 | []=>rfl
 | x::l=>by simp [elO,persL,pers,dA,avs,avi,avb,kY,fX,jE,yB]
attribute [go_sem] yA yB
theorem T5 (s:dF) (hs:Small s) (hd:L8 s): CT 48 [.agg (cB s)] (cU s):=by
 refine aQ mixed Tryz.func48 g0 ?_
 · skip
   have h1:=hs.sorts
   have h2:=hs.below
   have h3:=hs.ops
   have h4:=hs.funs
   (repeat' (first | refine gT ?_ ?_ | refine gF ?_ ?_ | refine gC ?_ ?_ | (refine cE (bFi) ?_; simp -implicitDefEqProofs (disch:=omega) only [go_sem,simprocAttr]) | refine bM (by omega) ?_ | (intro hr; have hc:=hr; (try simp only [zdz] at hc); simp -implicitDefEqProofs (disch:=omega) only [hr,go_sem,simprocAttr]; (try clear hr))))
   refine bI (bHn [iQ,s.sorts] (by simp) ?_) ?_ ?_
   · simp [M3,iQ]; omega
   · simp -implicitDefEqProofs (disch:=omega) only [iQ,go_sem,simprocAttr]
   · simp -implicitDefEqProofs (disch:=omega) only [go_sem,simprocAttr]
     have hK:[iQ,s.sorts].flatten=keysOf s:=by simp [keysOf]
     have hKl:(keysOf s).length≤107:=by simp [keysOf,iQ]; omega
     rw [hK]
     refine jW (fun (k:Nat)=>[.k,.k,.k,.k,.k,.j,.k,.k,.k,.k,.k,.k,.k,.k,.k,.k,.k,.k,.k,.k,.k,.k,.v (.i .i64 k),.j,.j,.j,.j,.j,.j,.j,.j,.j,.j,.j,.j,.k,.k,.k,.k,.k,.k,.k,.k,.k,.k,.k,.k,.k,.k,.k,.k,.k,.k,.k,.k,.k,.k,.k,.k,.k,.k,.k,.k,.k,.k,.k]) (fun k=>[.box false [.sl (s.sorts.map .s) s.sorts.length,.sl (s.below.flatMap dP) s.below.length,.sl (s.ops.flatMap dA) s.ops.length,.sl (s.funs.flatMap dA) s.funs.length,.sl (s.values.map .s) s.values.length],.map false (((keysOf s).take k).map .s) (((keysOf s).take k).map (ups s)),.map false [] [],.map false [] [],.box false [.sl (s.sorts.map .s) s.sorts.length,.sl (s.below.flatMap dP) s.below.length,.sl (s.ops.flatMap dA) s.ops.length,.sl (s.funs.flatMap dA) s.funs.length,.sl (s.values.map .s) s.values.length,.mp 1,.mp 2,.mp 3],.arr false 1 (iQ.map .s),.arr false 1 [.hs 5 0 iQ.length false,.sl (s.sorts.map .s) s.sorts.length],.arr false 1 ((keysOf s).map .s)]) (fun k=>k≤(keysOf s).length) (fun k=>(keysOf s).length - k) (0) _ (aT _) rfl (by simp [iL]) ?_
     rintro k g j hk
     simp -implicitDefEqProofs (disch:=omega) only [go_sem,simprocAttr]
     (repeat' (first | refine gT ?_ ?_ | refine gF ?_ ?_ | refine gC ?_ ?_ | refine bM (by omega) ?_ | (intro hr; have hc:=hr; (try simp only [zdz] at hc); simp -implicitDefEqProofs (disch:=omega) only [hr,go_sem,simprocAttr]; (try clear hr))))
     · refine bI (bHm s ((keysOf s).getD k []) (by omega)) ?_ ?_
       · simp -implicitDefEqProofs (disch:=omega) only [go_sem,simprocAttr]
       · have hno:=mF (pO (d:=[]) hd.keys (show k < (keysOf s).length by omega))
         simp -implicitDefEqProofs (disch:=omega) only [kE,R9,hno,go_sem,simprocAttr]
         refine ⟨k+1,_,by omega,by omega,congr (congrArg List.cons rfl) (congr (congrArg List.cons ?_) rfl),by simp⟩
         rw [fZ (d:=[]) (by omega),bF,bF]; rfl
     · have hk2:k=(keysOf s).length:=by omega
       subst hk2
       refine jW (fun (k:Nat)=>[.k,.k,.k,.k,.k,.k,.k,.j,.k,.k,.k,.k,.k,.k,.k,.k,.k,.k,.k,.k,.k,.k,.k,.k,.k,.k,.k,.k,.k,.k,.k,.k,.k,.k,.k,.k,.k,.k,.v (.i .i64 k),.j,.j,.j,.j,.j,.j,.j,.j,.j,.j,.j,.k,.k,.k,.k,.k,.k,.k,.k,.k,.k,.k,.k,.k,.k,.k,.k]) (fun k=>[.box false [.sl (s.sorts.map .s) s.sorts.length,.sl (s.below.flatMap dP) s.below.length,.sl (s.ops.flatMap dA) s.ops.length,.sl (s.funs.flatMap dA) s.funs.length,.sl (s.values.map .s) s.values.length],.map false ((keysOf s).map .s) ((keysOf s).map (ups s)),.map false (((s.ops.take k).map LOp.name).map .s) ((s.ops.take k).map elO),.map false [] [],.box false [.sl (s.sorts.map .s) s.sorts.length,.sl (s.below.flatMap dP) s.below.length,.sl (s.ops.flatMap dA) s.ops.length,.sl (s.funs.flatMap dA) s.funs.length,.sl (s.values.map .s) s.values.length,.mp 1,.mp 2,.mp 3],.arr false 1 (iQ.map .s),.arr false 1 [.hs 5 0 iQ.length false,.sl (s.sorts.map .s) s.sorts.length],.arr false 1 ((keysOf s).map .s)]) (fun k=>k≤s.ops.length) (fun k=>s.ops.length - k) (0) _ (aT _) rfl (by simp [iL]) ?_
       rintro k g j hk
       simp -implicitDefEqProofs (disch:=omega) only [go_sem,simprocAttr]
       (repeat' (first | refine gT ?_ ?_ | refine gF ?_ ?_ | refine gC ?_ ?_ | refine bM (by omega) ?_ | (intro hr; have hc:=hr; (try simp only [zdz] at hc); simp -implicitDefEqProofs (disch:=omega) only [hr,go_sem,simprocAttr]; (try clear hr))))
       · have hkn:(s.ops.getD k default).name=(s.ops.map LOp.name).getD k []:=by simp [List.getD,show k < s.ops.length by omega]
         have hno:=mF (pO (d:=[]) hd.ops (show k < (s.ops.map LOp.name).length by simp; omega))
         rw [← hkn,← List.map_take] at hno
         simp -implicitDefEqProofs (disch:=omega) only [kE,R9,hno,go_sem,simprocAttr]
         refine ⟨k+1,_,by omega,by omega,congr (congrArg List.cons rfl) (congr (congrArg List.cons rfl) (congr (congrArg List.cons ?_) rfl)),by simp⟩
         rw [fZ (d:=default) (by omega),bF,bF,bF]; rfl
       · have hk2:k=s.ops.length:=by omega
         subst hk2
         refine jW (fun (k:Nat)=>[.k,.k,.k,.k,.k,.k,.k,.k,.k,.j,.k,.k,.k,.k,.k,.k,.k,.k,.k,.k,.k,.k,.k,.k,.k,.k,.k,.k,.k,.k,.k,.k,.k,.k,.k,.k,.k,.k,.k,.k,.k,.k,.k,.k,.k,.k,.k,.k,.k,.k,.k,.k,.k,.v (.i .i64 k),.j,.j,.j,.j,.j,.j,.j,.j,.j,.j,.j,.k]) (fun k=>[.box false [.sl (s.sorts.map .s) s.sorts.length,.sl (s.below.flatMap dP) s.below.length,.sl (s.ops.flatMap dA) s.ops.length,.sl (s.funs.flatMap dA) s.funs.length,.sl (s.values.map .s) s.values.length],.map false ((keysOf s).map .s) ((keysOf s).map (ups s)),.map false ((s.ops.map LOp.name).map .s) (s.ops.map elO),.map false (((s.funs.take k).map LOp.name).map .s) ((s.funs.take k).map elO),.box false [.sl (s.sorts.map .s) s.sorts.length,.sl (s.below.flatMap dP) s.below.length,.sl (s.ops.flatMap dA) s.ops.length,.sl (s.funs.flatMap dA) s.funs.length,.sl (s.values.map .s) s.values.length,.mp 1,.mp 2,.mp 3],.arr false 1 (iQ.map .s),.arr false 1 [.hs 5 0 iQ.length false,.sl (s.sorts.map .s) s.sorts.length],.arr false 1 ((keysOf s).map .s)]) (fun k=>k≤s.funs.length) (fun k=>s.funs.length - k) (0) _ (aT _) rfl (by simp [iL]) ?_
         rintro k g j hk
         simp -implicitDefEqProofs (disch:=omega) only [go_sem,simprocAttr]
         (repeat' (first | refine gT ?_ ?_ | refine gF ?_ ?_ | refine gC ?_ ?_ | refine bM (by omega) ?_ | (intro hr; have hc:=hr; (try simp only [zdz] at hc); simp -implicitDefEqProofs (disch:=omega) only [hr,go_sem,simprocAttr]; (try clear hr))))
         · have hkn:(s.funs.getD k default).name=(s.funs.map LOp.name).getD k []:=by simp [List.getD,show k < s.funs.length by omega]
           have hno:=mF (pO (d:=[]) hd.funs (show k < (s.funs.map LOp.name).length by simp; omega))
           rw [← hkn,← List.map_take] at hno
           simp -implicitDefEqProofs (disch:=omega) only [kE,R9,hno,go_sem,simprocAttr]
           refine ⟨k+1,_,by omega,by omega,congr (congrArg List.cons rfl) (congr (congrArg List.cons rfl) (congr (congrArg List.cons rfl) (congr (congrArg List.cons ?_) rfl))),by simp⟩
           rw [fZ (d:=default) (by omega),bF,bF,bF]; rfl
         · refine .inr ⟨?_,by simp [cD,cU],by simp [cD,cU]⟩
           simp only [cU,kQ]
           simp -implicitDefEqProofs (disch:=omega) only [lL,L4,aQr,go_sem,simprocAttr]
end Go.Proofs.YtifefbhllfdmlaaGreatDoor
namespace Go.Proofs.YtifefbhllfdmlaaGreatDoor
open Go Go.Vo
open Nat (reduceAdd reduceSub reduceMul reduceLeDiff reduceLT reduceEqDiff)
open Int (reduceNeg)

theorem rG {l:List (Str × Str)} {a x:Str}:∀ (m:List (Str × Str)) (L:List Str),(∀ b ∈ m,b ∈ l)→Climbs l a L→Climbs l a (oA m x L)
 | [],L,_,h=>h
 | b::m,L,hm,h=>rG m _ (fun c hc=>hm c (by simp [hc])) (h.step (hm b (by simp)))
theorem tR {l:List (Str × Str)} {a:Str}:∀ (f i:Nat) (L:List Str),Climbs l a L→Climbs l a (climbG l f i L)
 | 0,i,L,h=>h
 | f+1,i,L,h=>by
   simp only [climbG]
   split
   · exact tR f _ _ (rG l L (fun _ h=>h) h)
   · exact h
theorem U0 (l:List (Str × Str)) (a:Str):Climbs l a (climb l a):=tR _ _ _ ⟨by simp,by simp,by simp⟩
theorem T9 (l:List (Str × Str)) (a:Str):(climb l a).length≤l.length+1:=(U0 l a).len

theorem I1 {l:List Str} {x:Str} (h:l.contains x=true):∃ i,(l.findIdx? fun y=>decide (x=y))=some i∧∀ {β:Type} (f:Str→β),(l.map f)[i]? = some (f x):=by
 cases hf:l.findIdx? fun y=>decide (x=y) with
 | none=>
   rw [eM] at hf
   have hm:x ∈ l:=by simpa using h
   have:=hf x hm
   simp at this
 | some i=>
   rw [eR] at hf
   obtain ⟨hi,hx,_⟩:=hf
   have hx:x=l[i]:=by simpa using hx
   exact ⟨i,rfl,fun f=>by simp [hi,← hx]⟩
attribute [go_sem] kE R9
theorem aNn {s:dF}:(lL s)[0]? = some (avs s.sorts):=rfl
theorem aNm {s:dF}:(lL s)[5]? = some (.mapv ((keysOf s).map .s) ((keysOf s).map (ups s))):=rfl
theorem aNl {s:dF}:(lL s)[6]? = some (.mapv ((s.ops.map LOp.name).map .s) (s.ops.map elO)):=rfl
theorem aNk {s:dF}:(lL s)[7]? = some (.mapv ((s.funs.map LOp.name).map .s) (s.funs.map elO)):=rfl
attribute [go_sem] cU aNn aNm aNl aNk
def iI (s:dF) (a:Str):Bool:=(keysOf s).contains a
theorem pK {s:dF}:pers (cU s)=true:=by
 simp only [cU,lL,pers,persL,cB,avs,avb,avo,aU,bJ,kY,jE,H4,L4,aQr,yA,yB,dV]
theorem aFl {s:dF}:persL (lL s)=true:=by
 have:=pK (s:=s)
 simpa [cU,pers] using this
attribute [go_sem] aFl
theorem J1 (s:dF) (x:Str): CT 90 [cU s,.s x] (.b (iI s x)):=by
 refine aQ mixed Tryz.func90 g0 ?_
 · skip
   by_cases hx:(keysOf s).contains x=true
   · obtain ⟨i,hf,hv⟩:=I1 hx
     simp -implicitDefEqProofs (disch:=omega) only [hf,hv,go_sem,simprocAttr]
     exact aP (by rw [iI,hx]) rfl
   · have hx:=gV.2 hx
     refine zh (qR hx) ?_
     exact aP (by rw [iI,hx]) rfl
def C3:Str:=[65,110,121]
def aGx (s:dF) (x:Str):List Str:=if iI s x then climb s.below x else []
def vX (s:dF) (x y:Str):Bool:=decide (y=C3) || (aGx s x).contains y
theorem aSq (s:dF) (x y:Str) (hs:Small s): CT 158 [cU s,.s x,.s y] (.b (vX s x y)):=by
 refine aQ mixed Tryz.func158 g0 ?_
 · skip
   have hl:=T9 s.below x
   have h2:=hs.below
   by_cases hx:(keysOf s).contains x=true
   · obtain ⟨i,hf,hv⟩:=I1 hx
     (repeat' (first | refine gT ?_ ?_ | refine gF ?_ ?_ | refine gC ?_ ?_ | (refine cE (C0 (climb s.below x) y (by omega)) ?_; simp -implicitDefEqProofs (disch:=omega) only [hf,hv,ups,go_sem,simprocAttr]) | refine bM (by omega) ?_ | (intro hr; have hc:=hr; (try simp only [zdz] at hc); simp -implicitDefEqProofs (disch:=omega) only [hr,hf,hv,ups,go_sem,simprocAttr]; (try clear hr))))
     all_goals (refine aP ?_ (by rfl))
     all_goals simp_all [vX,aGx,iI,C3]
   · have hx:=gV.2 hx
     (refine zx1 (qR hx) (C0 [] y (by simp)) ?_; repeat' first | exact trivial | refine zJ ?_ ?_ | refine zH fun hc=>?_)
     all_goals (refine aP ?_ (by rfl))
     all_goals simp_all [vX,aGx,iI,C3]
def aRc (s:dF) (x y:Str):Bool:=vX s x y || vX s y x
theorem bMb (s:dF) (x y:Str) (hs:Small s): CT 186 [cU s,.s x,.s y] (.b (aRc s x y)):=by
 refine aQ mixed Tryz.func186 g0 ?_
 · skip
   (refine zs2 (aSq s x y hs) (aSq s y x hs) ?_; repeat' first | exact trivial | refine zJ ?_ ?_ | refine zH fun hc=>?_)
   all_goals (refine aP ?_ (by rfl))
   all_goals simp_all [aRc]
end Go.Proofs.YtifefbhllfdmlaaGreatDoor
namespace Go.Proofs.YtifefbhllfdmlaaGreatDoor
open Go Go.Vo
open Nat (reduceAdd reduceSub reduceMul reduceLeDiff reduceLT reduceEqDiff)
open Int (reduceNeg)

def aAf (s:Str) (c:Int):Int:=Lib.indexByte s c.toNat.toUInt8
def aDp:Str:=[97,100,100,32,115,117,98,32,109,117,108,32,100,105,118,32,109,111,100,32,110,101,103,32,108,116,32,108,101,32,103,116,32,103,101,32,101,113,32,110,101,32,97,110,100,32,111,114,32,110,111,116,32,112,105,99,107,32,99,97,116,32,108,101,110,103,116,104,32,116,101,120,116,32,106,111,105,110,32,103,101,116,32,112,117,116,32,104,97,115,32,100,101,108,32,107,101,121,115,32,115,105,122,101,32,105,115,32,105,115,118,97,108,117,101]
def zK:List Str:=Lib.fields aDp

theorem bNf {X:Ctx} {w:World} {h:List AObj} {l:Str} {v:Value} (r:RV X w h (.s l) v):v=.string ⟨l.toArray⟩:=by
 cases r with
 | s=>rfl
 | dead hr _ _=>simp [AV.refs] at hr
theorem bCx {vs:Array Value} (h:2=vs.size):∃ a b,vs = #[a,b]:=by
 match vs,h with
 | ⟨[a,b]⟩,_=>exact ⟨a,b,rfl⟩
theorem aVk {vs:Array Value} (h:1=vs.size):∃ a,vs = #[a]:=by
 match vs,h with
 | ⟨[a]⟩,_=>exact ⟨a,rfl⟩

theorem bGv (s:Str) (c:Int):CT 232 [.s s,.i .u8 c] (.i .i64 (aAf s c)):=by
 refine ⟨by kernel_rfl,g0,?_⟩
 intro F w vs hF hgl hl hr
 obtain ⟨v0,v1,rfl⟩:=bCx hl
 have h0:=bNf (hr 0 _ v0 rfl rfl)
 have h1:=rK (hr 1 _ v1 rfl rfl)
 subst h0 h1
 refine (Tryz.strings_IndexByte ⟨s.toArray⟩ c w).mono ?_
 rintro e w' ⟨rfl,rfl⟩
 exact ⟨_,F,[],rfl,.refl _,fun _ h=>h,fun _ h=>.inl h,hF,RR.val (.i _ _),fL,by simp⟩

theorem aTm {F:Nat→Prop} {w:World} {g:Nat} {cells:List AV} (r:RV (.none F) w [] (.box cells 0) (.pointer (some ⟨g,0,Option.none⟩))) {j:Nat} {k:IntKind} {n:Int} (h:cells[j]? = some (.i k n)):w.cell? ⟨g,j,none⟩=some (.int k n):=by
 generalize hv:Value.pointer (some ⟨g,0,Option.none⟩)=v at r
 cases r with
 | @box _ _ b o cs T fr hF hb hl h1 hr=>
   simp only [Value.pointer.injEq,aA,Addr.mk.injEq,and_true] at hv
   obtain ⟨rfl,h0⟩:=hv
   have ho:o=0:=by omega
   subst ho
   have hj:=aK h
   have hc:cs[0+j]? = some cs[0+j]:=cI (by omega)
   have:=rK (hr j _ _ h hc)
   simp only [cZ] at this hc
   simp [World.cell?,hb,hc,this]
 | dead hr hd _=>simp [AV.refs] at hr
theorem aGt {F:Nat→Prop} {w:World} (hgl:∀ k a,G0 k=some a→GRel (.none F) w [] k a) (c:Nat) (hc:c < 256):w.cell? ⟨0,c,none⟩=some (.int .u8 (if Lib.isSp (UInt8.ofNat c) then 1 else 0)):=by
 have r:=(hgl 0 (.box uT 0) rfl).1
 refine aTm r ?_
 have h:=Lib.asciiSpaceTab_at c hc
 have hl:=Lib.asciiSpaceTab_length
 rw [← h]
 exact R7 (by omega)
theorem bMa (s:Str) (hs:s.length≤4000000000) (ha:s.all (fun b=>decide (b.toNat < 128))=true):CT 196 [.s s] (.own 1 ((Lib.fields s).map .s) (Lib.fields s).length):=by
 refine ⟨by kernel_rfl,g0,?_⟩
 intro F w vs hF hgl hl hr
 obtain ⟨v0,rfl⟩:=aVk hl
 have h0:=bNf (hr 0 _ v0 rfl rfl)
 subst h0
 refine (Any.strings_Fields_core Tryz.lays157 (by kernel_rfl) ⟨s.toArray⟩ w (by simp [ByteArray.size]; omega) (fun j b hj=>?_) (fun c hc=>aGt hgl c hc)).mono ?_
 · have hm:=cT hj
   have:=aV.1 ha b hm
   simpa using this
 · rintro e w' ⟨rfl,rfl⟩
   refine ⟨_,F,[w.heap.size],rfl,(gH.alloc _ _).grew,fun _ h=>h,fun _ h=>.inl h,fun b hb=>eF (hF b hb) (gH.alloc w _).grew.size,?_,by simp,?_⟩
   · refine .inl ⟨w.heap.size,0,_,_,(Lib.fields s).length,rfl,rfl,(gH.alloc _ _).at,by simp,aX _,by simp,?_,?_⟩
     · intro j v hj hv
       simp at hv
       obtain ⟨x,_,rfl⟩:=hv
       rfl
     · intro j a v ha hv
       simp at ha hv
       obtain ⟨x,h1,rfl⟩:=ha
       obtain ⟨y,h2,rfl⟩:=hv
       rw [h1] at h2; cases h2
       exact .s _
   · intro b hb
     simp only [bA] at hb
     subst hb
     refine ⟨fun f=>?_,aX _⟩
     have:=hF _ f; omega

end Go.Proofs.YtifefbhllfdmlaaGreatDoor
namespace Go.Proofs.YtifefbhllfdmlaaGreatDoor
open Go Go.Vo
open Nat (reduceAdd reduceSub reduceMul reduceLeDiff reduceLT reduceEqDiff)
open Int (reduceNeg)

theorem aGk:zK.length=28:=by decide +kernel
theorem aTl (s:Str):zK.contains s=oP.contains s:=by
 have h1:zK.all (fun x=>oP.contains x)=true:=by decide +kernel
 have h2:oP.all (fun x=>zK.contains x)=true:=by decide +kernel
 rw [kA]
 simp only [aV] at h1 h2
 exact ⟨fun h=>h1 s (by simpa using h),fun h=>h2 s (by simpa using h)⟩
theorem bFa:CT 196 [.s [97,100,100,32,115,117,98,32,109,117,108,32,100,105,118,32,109,111,100,32,110,101,103,32,108,116,32,108,101,32,103,116,32,103,101,32,101,113,32,110,101,32,97,110,100,32,111,114,32,110,111,116,32,112,105,99,107,32,99,97,116,32,108,101,110,103,116,104,32,116,101,120,116,32,106,111,105,110,32,103,101,116,32,112,117,116,32,104,97,115,32,100,101,108,32,107,101,121,115,32,115,105,122,101,32,105,115,32,105,115,118,97,108,117,101]] (.own 1 (zK.map .s) zK.length):=bMa aDp (by decide) (by decide +kernel)
theorem bAt (s:Str): CT 147 [.s s] (.b (oP.contains s)):=by
 refine aQ mixed Tryz.func147 g0 ?_
 · skip
   refine bI bFa (by rfl) ?_
   refine zg ?_
   (refine zs1 (C0 zK s (by rw [aGk]; omega)) ?_; repeat' first | exact trivial | refine zJ ?_ ?_ | refine zH fun hc=>?_)
   refine aP ?_ (by rfl)
   rw [aTl]

def yL (s:dF) (x:Str × Str):Bool:=decide (x.1 ≠ C3) && iI s x.1 && s.sorts.contains x.2 && !(aGx s x.2).contains x.1
theorem bMf (s:dF) (x:Str × Str) (hs:Small s): CT 89 [cU s,elB x] (.b (yL s x)):=by
 refine aQ mixed Tryz.func89 g0 ?_
 · skip
   have hl:=T9 s.below x.2
   have h2:=hs.below
   have h1:=hs.sorts
   by_cases hx:(keysOf s).contains x.2=true
   · obtain ⟨i,hf,hv⟩:=I1 hx
     (repeat' (first | refine gT ?_ ?_ | refine gF ?_ ?_ | refine gC ?_ ?_ | ((first | (refine bI (J1 s x.1) ?_ ?_; (focus (simp -implicitDefEqProofs (disch:=omega) only [hf,hv,ups,zdA,go_sem,simprocAttr]; done))) | (refine bI (C0 s.sorts x.2 (by omega)) ?_ ?_; (focus (simp -implicitDefEqProofs (disch:=omega) only [hf,hv,ups,zdA,go_sem,simprocAttr]; done))) | (refine bI (C0 (climb s.below x.2) x.1 (by omega)) ?_ ?_; (focus (simp -implicitDefEqProofs (disch:=omega) only [hf,hv,ups,zdA,go_sem,simprocAttr]; done)))); simp -implicitDefEqProofs (disch:=omega) only [hf,hv,ups,go_sem,simprocAttr]) | refine bM (by omega) ?_ | (intro hr; have hc:=hr; (try simp only [zdz] at hc); simp -implicitDefEqProofs (disch:=omega) only [hr,hf,hv,ups,go_sem,simprocAttr]; (try clear hr))))
     all_goals (refine aP ?_ (by rfl))
     all_goals (simp_all [yL,aGx,iI,C3])
   · have hx:=gV.2 hx
     (refine zx3 (qR hx) (J1 s x.1) (C0 s.sorts x.2) (C0 [] x.1 (by simp)) ?_; repeat' first | exact trivial | refine zJ ?_ ?_ | refine zH fun hc=>?_)
     all_goals (refine aP ?_ (by rfl))
     all_goals (simp_all [yL,aGx,iI,C3])
end Go.Proofs.YtifefbhllfdmlaaGreatDoor
namespace Go.Proofs.YtifefbhllfdmlaaGreatDoor
open Go Go.Vo
open Nat (reduceAdd reduceSub reduceMul reduceLeDiff reduceLT reduceEqDiff)
open Int (reduceNeg)

def oD (n:Int):Bool := !(decide (n < 33) || decide (126 < n) || part n || (decide (n=34) || decide (n=39) || decide (n=92)))
def vN (s:Str):Bool:=decide (1≤s.length) && decide (s.length≤20) && s.all fun c=>oD c.toNat
theorem aTq (s:Str) (k:Nat):0≤at_ s k∧at_ s k < 256:=by
 unfold at_
 have:=(s.getD k 0).toNat_lt
 omega
theorem bRc (s:Str) (k:Nat):decide (0≤aAf [34,39,92] (at_ s k))=(decide (at_ s k=34) || decide (at_ s k=39) || decide (at_ s k=92)):=by
 have h:∀ n:Nat,n < 256→decide (0≤aAf [34,39,92] (n:Int))=(decide ((n:Int)=34) || decide ((n:Int)=39) || decide ((n:Int)=92)):=by decide +kernel
 exact h _ (s.getD k 0).toNat_lt
theorem bGx (s:Str) (hs:s.length≤140737488355328): CT 198 [.s s] (.b (vN s)):=by
 refine aQ mixed Tryz.func198 g0 ?_
 · skip
   (refine zs0 ?_; repeat' first | exact trivial | refine zJ ?_ ?_ | refine zH fun hc=>?_)
   any_goals (refine aP ?_ (by rfl); simp_all [vN] <;> omega)
   refine dD (fun (k:Nat)=>[.k,.k,.j,.j,.j,.k,.k,.k,.k,.k,.k,.k,.k,.k,.v (.i .i64 k),.j,.j,.j,.j,.j,.j,.j,.j,.j,.j,.j,.j,.j,.j,.j,.j,.j,.j,.j,.j,.j]) (fun k=>[]) (fun k=>k≤s.length∧∀ j,j < k→oD (at_ s j)=true) (fun k=>s.length - k) (0) ⟨aT _,fun j h=>by omega⟩ rfl (by simp [iL]) ?_
   rintro k j ⟨hk,ha⟩
   have hr:=aTq s k
   have h3:=bRc s k
   simp only [at_] at h3 hr
   refine zg ?_
   (refine zx2 h3 bEy (bGv [34,39,92] ((s.getD k 0).toNat:Int)) ?_; repeat' first | exact trivial | refine zJ ?_ ?_ | refine zH fun hc=>?_)
   · refine aP ?_ (by rfl)
     have h4:=h3.symm.trans (zt hc)
     rw [vN,nN (j:=k) (by omega) (by simp only [oD,at_,h4,bU,bX]),aW]
   · have h4:=h3.symm.trans (zf hc)
     exact ⟨k+1,⟨by omega,dS ha (by simp only [oD,at_,h4,bC]; simp_all)⟩,by omega,by simp⟩
   · refine aP ?_ (by rfl)
     rw [vN,nN (j:=k) (by omega) (by simp only [oD,at_,hc,bU,bR,bX]),aW]
   · refine aP ?_ (by rfl)
     rw [vN,nN (j:=k) (by omega) (by simp only [oD,at_,hc,decide_true,bU,bR,bX]),aW]
   · refine aP ?_ (by rfl)
     rw [vN,nN (j:=k) (by omega) (by simp only [oD,at_,hc,decide_true,bU,bR,bX]),aW]
   · refine aP ?_ (by rfl)
     have h1:k=s.length:=by omega
     rw [vN,aWt (h1 ▸ ha)]
     simp; omega

def pJ (t:Str):Bool:=vN t || gG t && decide (t.length≤20)
def sW (p:Str × Str):Bool:=decide (decide (p.2=[])=pJ p.1) && !(!decide (p.2=[]) && !decide (p.1=[]))
def rM (l:List (Str × Str)):List Str:=(l.filter fun p => !decide (p.2=[])).map (·.2)
def pD (o:LOp):Bool:=o.pieces.isEmpty || (o.pieces.all sW && decide (o.pieces.length≤20) && decide (rM o.pieces=o.args))
theorem rZ {l:List (Str × Str)} {k:Nat} (h:k < l.length):rM (l.take (k+1))=rM (l.take k)++(if (l.getD k ([],[])).2=[] then [] else [(l.getD k ([],[])).2]):=by
 rw [fZ (d:=([],[])) h]
 simp only [rM,List.filter_append,bF]
 congr 1
 by_cases h2:(l.getD k ([],[])).2=[]
 · rw [if_pos h2,List.filter_cons_of_neg (by simp only [h2]; decide)]; rfl
 · rw [if_neg h2,List.filter_cons_of_pos (by simp only [h2]; decide)]; rfl
theorem G3 {l:List (Str × Str)}:(rM l).length≤l.length:=by
 unfold rM; rw [fM]; exact fQ _ _
theorem oN {n:Nat}:((n:Int)≤20)↔n≤20:=by omega
theorem aEx {o:LOp} {k:Nat} (hk:k < o.pieces.length) (h:sW (o.pieces.getD k ([],[]))=false):pD o=false:=by
 have h1:o.pieces.all sW=false:=R5 hk h
 have h2:o.pieces ≠ []:=fun e=>by simp [e] at hk
 simp [pD,h1,h2]
theorem bHe (o:LOp) (ho:OkO o): CT 151 [elO o] (.b (pD o)):=by
 refine aQ mixed Tryz.func151 g0 ?_
 · skip
   have hp:=ho.piecesT
   have hx:=ho.args
   (refine zs0 ?_; repeat' first | exact trivial | refine zJ ?_ ?_ | refine zH fun hc=>?_)
   · refine aP ?_ (by rfl)
     have:o.pieces=[]:=List.eq_nil_of_length_eq_zero (by omega)
     simp [pD,this]
   · refine dD (fun (s:Nat × AV × List AObj)=>[.k,.k,.j,.v (s.2.1),.k,.j,.j,.k,.k,.k,.k,.k,.k,.k,.v (.i .i64 (s.1:Nat)),.j,.j,.j,.j,.j,.j,.j,.j,.j,.j,.j,.j,.j,.j,.j,.j,.j,.j,.j,.j,.j,.j,.j,.j,.j,.j,.j,.j,.j,.j,.j,.j,.j,.j,.j,.j,.j,.j,.j,.j,.j,.k,.k,.k,.k,.k,.k,.k,.k,.k,.k]) (fun s=>.box false (dA o)::s.2.2) (fun s=>s.1≤o.pieces.length∧(∀ j,j < s.1→sW (o.pieces.getD j ([],[]))=true)∧fD 1 1 s.2.2 s.2.1 ((rM (o.pieces.take s.1)).map .s) (rM (o.pieces.take s.1)).length) (fun s=>o.pieces.length - s.1) ((0,.e0,[])) ⟨aT _,fun j h=>by simp at h,kK⟩ rfl (by simp [iL]) ?_
     rintro ⟨k,out,g⟩ j ⟨hk,ha,ho2⟩
     dsimp only at hk ha ho2
     have hpl:k < o.pieces.length→(o.pieces.getD k ([],[])).1.length≤140737488355328:=fun h=>(ho.piecesS _ (cC h)).1
     have hal:=G3 (l:=o.pieces.take k)
     rw [eZ] at hal
     refine zg ?_
     (repeat' (first | refine gT ?_ ?_ | refine gF ?_ ?_ | refine gC ?_ ?_ | ((first | (refine bI (bGx (o.pieces.getD k ([],[])).1 (hpl (by omega))) ?_ ?_; (focus (simp -implicitDefEqProofs (disch:=omega) only [zdA,go_sem,simprocAttr]; done))) | (refine bI (J2 (o.pieces.getD k ([],[])).1 (hpl (by omega))) ?_ ?_; (focus (simp -implicitDefEqProofs (disch:=omega) only [zdA,go_sem,simprocAttr]; done)))); simp -implicitDefEqProofs (disch:=omega) only [go_sem,simprocAttr]) | refine bM (by omega) ?_ | (intro hr; have hc:=hr; (try simp only [zdz] at hc); simp -implicitDefEqProofs (disch:=omega) only [hr,go_sem,simprocAttr]; (try clear hr))))
     all_goals first | (exfalso; omega) | skip
     all_goals first | (refine aP ?_ (by rfl); rw [aEx (k:=k) (by omega) (by simp_all [sW,pJ,bO,oN])]; done) | skip
     all_goals first | (refine ⟨(k+1,out,_),⟨by omega,dS ha (by simp_all [sW,pJ,bO,oN]),?_⟩,by simp; omega,rfl,rfl,by simp⟩; dsimp only; rw [rZ (by omega),if_pos (List.eq_nil_of_length_eq_zero (by assumption)),List.append_nil]; exact ho2.more _) | skip
     · refine fE (pre:=[_]) (news:=[.s (o.pieces.getD k ([],[])).2]) (m:=1) ho2 rfl rfl bJe zo9 sz9 by9 rfl (by decide) (by simp -implicitDefEqProofs (disch:=omega) only [go_sem,simprocAttr]) (by simp -implicitDefEqProofs (disch:=omega) only [go_sem,simprocAttr]) ⟨by omega,by omega⟩ ?_
       intro out' g' ho' _
       refine zg ?_
       refine ⟨(k+1,out',g'),⟨by omega,dS ha (by simp_all [sW,pJ,bO,oN]),?_⟩,by simp; omega,rfl,by simp⟩
       dsimp only
       rw [rZ (by omega),if_neg (by rw [← bO]; assumption),bF,aG]
       exact ho'
     · refine fE (pre:=[_]) (news:=[.s (o.pieces.getD k ([],[])).2]) (m:=1) ho2 rfl rfl bJe zo9 sz9 by9 rfl (by decide) (by simp -implicitDefEqProofs (disch:=omega) only [go_sem,simprocAttr]) (by simp -implicitDefEqProofs (disch:=omega) only [go_sem,simprocAttr]) ⟨by omega,by omega⟩ ?_
       intro out' g' ho' _
       refine zg ?_
       refine ⟨(k+1,out',g'),⟨by omega,dS ha (by simp_all [sW,pJ,bO,oN]),?_⟩,by simp; omega,rfl,by simp⟩
       dsimp only
       rw [rZ (by omega),if_neg (by rw [← bO]; assumption),bF,aG]
       exact ho'
     · have hk2:k=o.pieces.length:=by omega
       have hne:o.pieces ≠ []:=fun e=>by simp_all
       have hemp:o.pieces.isEmpty=false:=by simpa using hne
       have hall:o.pieces.all sW=true:=aEd (d:=([],[])) (fun j hj=>ha j (by omega))
       rw [aJ (by omega)] at ho2
       have hal:=G3 (l:=o.pieces)
       rcases ho2 with ⟨rfl,hnil,_⟩ | ⟨i0,rfl,hg,_⟩
       · have hnil:rM o.pieces=[]:=by simpa using hnil
         (refine zs1 (bFb [] o.args (by simp) hx) ?_; repeat' first | exact trivial | refine zJ ?_ ?_ | refine zH fun hc=>?_)
         refine aP ?_ (by rfl)
         rw [pD,hemp,hall,hnil,zt (oN.1 hc)]; simp
       · (refine zx1 hg (bFb (rM o.pieces) o.args (by omega) hx) ?_; repeat' first | exact trivial | refine zJ ?_ ?_ | refine zH fun hc=>?_)
         refine aP ?_ (by rfl)
         rw [pD,hemp,hall,zt (oN.1 hc)]; simp
     · refine aP ?_ (by rfl)
       have hne:o.pieces ≠ []:=fun e=>by simp_all
       simp_all [pD,oN]
       omega
end Go.Proofs.YtifefbhllfdmlaaGreatDoor
namespace Go.Proofs.YtifefbhllfdmlaaGreatDoor
open Go Go.Vo
open Nat (reduceAdd reduceSub reduceMul reduceLeDiff reduceLT reduceEqDiff)
open Int (reduceNeg)

theorem qM {s:dF}:persL [cU s]=true:=by
 show (pers (cU s) && true)=true
 rw [pK]; rfl
def aKm (o:LOp) (i:Int):Bool:=decide (1≤i) && decide (i≤o.args.length)
theorem aJt (o:LOp):persL (dA o)=true:=by simp only [dA,persL,pers,sY,Q6,avb,jE,dV]
theorem bHh (i:Int) (o:LOp): CT 148 [.i .i64 i,.box (dA o) 0] (.b (aKm o i)):=by
 refine aQ mixed Tryz.func148 g0 ?_
 · skip
   (refine zs0 ?_; repeat' first | exact trivial | refine zJ ?_ ?_ | refine zH fun hc=>?_)
   all_goals (refine aP ?_ (by rfl))
   all_goals first | (simp_all [aKm]; done) | (simp_all [aKm]; omega)
def aVe (o:LOp):Bool:=decide (0≤o.prec) && decide (o.prec≤20) && (decide (0 < o.pieces.length) || decide (o.prec=0))
def aNu (o:LOp):Bool:=decide (0≤o.assoc) && decide (o.assoc≤2) && (decide (0 < o.prec) || decide (o.assoc=0))
def opHead (s:dF) (o:LOp):Bool:=gG (tX o.name) && !oP.contains o.name && decide (o.args.length≤8) && o.args.all (iI s) && s.sorts.contains o.sort
def bIz (s:dF) (o:LOp):Bool:=opHead s o && aVe o && aNu o && o.strict.all (aKm o) && decide o.strict.Nodup && pD o
def aRr (s:dF) (o:LOp):Bool:=gG o.name && !oP.contains o.name && decide (o.args.length≤8) && o.args.all (iI s) && iI s o.sort && (decide (o.pieces.length=0) && decide (o.prec=0) && decide (o.assoc=0) && decide (o.strict.length=0))
theorem bBf {n:Nat}:(8 < (n:Int))↔¬ n≤8:=by omega
theorem aTh {n:Nat}:((n:Int)≤8)↔n≤8:=by omega
theorem bBe {n:Nat}:(0 < (n:Int))↔0 < n:=by omega
theorem bMl {n:Nat}:((n:Int)=0)↔n=0:=by omega
theorem bMd (s:dF) (o:LOp) (hs:Small s) (ho:OkO o): CT 93 [cU s,elO o] (.b (aRr s o)):=by
 refine aQ mixed Tryz.func93 g0 ?_
 · skip
   (refine zs4 (J2 o.name ho.name) (bAt o.name) (aSr o.args 90 [cU s] [] (iI s) ho.args qM rfl (fun k hk=>J1 s (o.args.getD k []))) (J1 s o.sort) ?_; repeat' first | exact trivial | refine zJ ?_ ?_ | refine zH fun hc=>?_)
   all_goals (refine aP ?_ (by rfl))
   all_goals simp only [aTh,bMl] at *
   all_goals simp only [aRr, *,decide_true,decide_false,bS,aM,aW,aS,bX,bY,bU,bR,bC,dM]
end Go.Proofs.YtifefbhllfdmlaaGreatDoor
namespace Go.Proofs.YtifefbhllfdmlaaGreatDoor
open Go Go.Vo
open Nat (reduceAdd reduceSub reduceMul reduceLeDiff reduceLT reduceEqDiff)
open Int (reduceNeg)

theorem bMe (s:dF) (o:LOp) (hs:Small s) (ho:OkO o): CT 92 [cU s,elO o] (.b (bIz s o)):=by
 refine aQ mixed Tryz.func92 g0 ?_
 · skip
   have hb:=dN (aDs o.name) ho.name
   have h1:=hs.sorts
   (repeat' (first | refine gT ?_ ?_ | refine gF ?_ ?_ | refine gC ?_ ?_ | ((first | (refine bI (aWn o.name ho.name) ?_ ?_; (focus (simp -implicitDefEqProofs (disch:=omega) only [zdA,go_sem,simprocAttr]; done))) | (refine bI (J2 (tX o.name) hb) ?_ ?_; (focus (simp -implicitDefEqProofs (disch:=omega) only [zdA,go_sem,simprocAttr]; done))) | (refine bI (bAt o.name) ?_ ?_; (focus (simp -implicitDefEqProofs (disch:=omega) only [zdA,go_sem,simprocAttr]; done))) | (refine bI (aSr o.args 90 [cU s] [] (iI s) ho.args qM rfl (fun k hk=>J1 s (o.args.getD k []))) ?_ ?_; (focus (simp -implicitDefEqProofs (disch:=omega) only [zdA,go_sem,simprocAttr]; done))) | (refine bI (C0 s.sorts o.sort (by omega)) ?_ ?_; (focus (simp -implicitDefEqProofs (disch:=omega) only [zdA,go_sem,simprocAttr]; done))) | (refine bI (bHg o.strict 148 [] [.box (dA o) 0] (aKm o) ho.strict rfl (by simp only [persL,pers,aJt,dV]) (fun k hk=>bHh (o.strict.getD k 0) o)) ?_ ?_; (focus (simp -implicitDefEqProofs (disch:=omega) only [zdA,go_sem,simprocAttr]; done))) | (refine bI (bHf o.strict ho.strict) ?_ ?_; (focus (simp -implicitDefEqProofs (disch:=omega) only [zdA,go_sem,simprocAttr]; done))) | (refine bI (bHe o ho) ?_ ?_; (focus (simp -implicitDefEqProofs (disch:=omega) only [zdA,go_sem,simprocAttr]; done)))); simp -implicitDefEqProofs (disch:=omega) only [go_sem,simprocAttr]) | refine bM (by omega) ?_ | (intro hr; have hc:=hr; (try simp only [zdz] at hc); simp -implicitDefEqProofs (disch:=omega) only [hr,go_sem,simprocAttr]; (try clear hr))))
   all_goals (refine aP ?_ (by rfl))
   all_goals try simp only [bBf,bBe,Decidable.not_not] at *
   all_goals first | (exfalso; omega) | skip
   all_goals simp only [bIz,opHead,aVe,aNu, *,decide_true,decide_false,bS,aM,aW,aS,bX,bY,bU,bR,bC,dM]
   all_goals first | (simp; done) | (simp_all; done) | (simp_all; omega)
end Go.Proofs.YtifefbhllfdmlaaGreatDoor
namespace Go.Proofs.YtifefbhllfdmlaaGreatDoor
open Go Go.Vo
open Nat (reduceAdd reduceSub reduceMul reduceLeDiff reduceLT reduceEqDiff)
open Int (reduceNeg)

attribute [go_sem] List.replicate_zero bH
end Go.Proofs.YtifefbhllfdmlaaGreatDoor
namespace Go.Proofs.YtifefbhllfdmlaaGreatDoor
open Go Go.Vo
open Nat (reduceAdd reduceSub reduceMul reduceLeDiff reduceLT reduceEqDiff)
open Int (reduceNeg)

def S7 (x:Str):Bool:=gG x && !iQ.contains x
def oH (s:dF):List Str:=s.ops.map LOp.name++s.funs.map LOp.name
def sG (s:dF):Bool:=decide (s.sorts.length≤40) && decide (s.below.length≤200) && decide (s.ops.length+s.funs.length≤200) && decide s.below.Nodup && decide s.values.Nodup
def sE (s:dF):Bool:=decide s.sorts.Nodup && s.sorts.all S7 && decide (oH s).Nodup
def xF (s:dF):Bool:=s.below.all (yL s) && s.values.all (iI s) && s.ops.all (bIz s) && s.funs.all (aRr s)
def gK (s:dF):Bool:=sG s && sE s && xF s
theorem yT {s:dF} (h1:s.sorts.Nodup) (h2:s.sorts.all S7=true) (h3:(oH s).Nodup):L8 s:=by
 refine ⟨?_,?_,?_⟩
 · unfold keysOf
   rw [lW]
   refine ⟨by decide,h1,?_⟩
   intro a ha b hb hab
   subst hab
   have:=aV.1 h2 a hb
   simp only [S7,aB,eN] at this
   have h4:iQ.contains a=true:=by simpa using ha
   rw [h4] at this
   cases this.2
 · unfold oH at h3
   exact (lW.1 h3).1
 · unfold oH at h3
   exact (lW.1 h3).2.1
theorem iB {s:dF} (h:gK s=true):L8 s:=by
 simp only [gK,sE,aB,decide_eq_true_eq] at h
 exact yT h.1.2.1.1 h.1.2.1.2 h.1.2.2

theorem aLn (s:dF) (ho:OkS s):∀ k,k < s.sorts.length→CT 82 ([]++[.s (s.sorts.getD k [])]++[]) (.b (S7 (s.sorts.getD k []))):=fun k hk=>bMh _ (ho.sortsS _ (cC hk))
theorem aJu {a b:List AV}:persL (a++b)=(persL a && persL b):=by
 induction a with
 | nil=>simp [persL]
 | cons x l ih=>simp [persL,ih,A5]
theorem bFp (s:dF) (h:(oH s).length≤140737488355328):CT 81 [.sl ((s.ops.map LOp.name).map .s++(s.funs.map LOp.name).map .s) (s.ops.length+s.funs.length)] (.b (decide (oH s).Nodup)):=by
 have:=bAr (oH s) h
 simpa only [avs,oH,bF,aG,fM] using this
theorem aXk {α β γ:Type} {f:β→γ} {g:α→β} {a b:List α}:((a.map g).map f++(b.map g).map f).take (a.length+b.length)=(a.map g).map f++(b.map g).map f:=aJ (by simp)
attribute [go_sem] aJu aXk
theorem aGd (s:dF) (hs:Small s) (ho:OkS s): CT 47 [.agg (cB s)] (.b (gK s)):=by
 refine aQ mixed Tryz.func47 g0 ?_
 · skip
   have h1:=hs.sorts
   have h2:=hs.below
   have h3:=hs.ops
   have h4:=hs.funs
   have h5:=hs.values
   (refine zs2 (bMi s.below ho.below) (bAr s.values ho.values) ?_; repeat' first | exact trivial | refine zJ ?_ ?_ | refine zH fun hc=>?_)
   all_goals first | (refine aP ?_ (by rfl); simp only [gK,sG]; simp_all; done) | (refine aP ?_ (by rfl); simp only [gK,sG]; simp_all; omega) | skip
   (repeat' (first | refine gT ?_ ?_ | refine gF ?_ ?_ | refine gC ?_ ?_ | ((first | (refine bI (bAr s.sorts ho.sorts) ?_ ?_; (focus (simp -implicitDefEqProofs (disch:=omega) only [zdA,go_sem,simprocAttr]; done))) | (refine bI (aSr s.sorts 82 [] [] S7 ho.sorts rfl rfl (aLn s ho)) ?_ ?_; (focus (simp -implicitDefEqProofs (disch:=omega) only [zdA,go_sem,simprocAttr]; done))) | (refine bI (bFe s.ops ho.opsT) ?_ ?_; (focus (simp -implicitDefEqProofs (disch:=omega) only [zdA,go_sem,simprocAttr]; done))) | (refine bI (bFe s.funs ho.funsT) ?_ ?_; (focus (simp -implicitDefEqProofs (disch:=omega) only [zdA,go_sem,simprocAttr]; done))) | (refine bI (bFp s (by simp only [oH,aG,fM]; omega)) ?_ ?_; (focus (simp -implicitDefEqProofs (disch:=omega) only [zdA,go_sem,simprocAttr]; done)))); simp -implicitDefEqProofs (disch:=omega) only [go_sem,simprocAttr]) | refine bM (by omega) ?_ | (intro hr; have hc:=hr; (try simp only [zdz] at hc); simp -implicitDefEqProofs (disch:=omega) only [hr,go_sem,simprocAttr]; (try clear hr))))
   all_goals first | (refine aP ?_ (by rfl); simp only [gK,sE, *,decide_true,decide_false,aW,aS]; done) | skip
   (repeat' (first | refine gT ?_ ?_ | refine gF ?_ ?_ | refine gC ?_ ?_ | ((first | (refine bI (T5 s hs (yT (by assumption) (by assumption) (by assumption))) ?_ ?_; (focus (simp -implicitDefEqProofs (disch:=omega) only [zdA,go_sem,simprocAttr]; done))) | (refine bI (bMg s.below 89 [cU s] [] (yL s) ho.below qM rfl (fun k hk=>bMf s (s.below.getD k ([],[])) hs)) ?_ ?_; (focus (simp -implicitDefEqProofs (disch:=omega) only [zdA,go_sem,simprocAttr]; done))) | (refine bI (aSr s.values 90 [cU s] [] (iI s) ho.values qM rfl (fun k hk=>J1 s (s.values.getD k []))) ?_ ?_; (focus (simp -implicitDefEqProofs (disch:=omega) only [zdA,go_sem,simprocAttr]; done))) | (refine bI (bFd s.ops 92 [cU s] [] (bIz s) ho.ops qM rfl (fun k hk=>bMe s (s.ops.getD k default) hs (ho.opsO (s.ops.getD k default) (cC hk)))) ?_ ?_; (focus (simp -implicitDefEqProofs (disch:=omega) only [zdA,go_sem,simprocAttr]; done))) | (refine bI (bFd s.funs 93 [cU s] [] (aRr s) ho.funs qM rfl (fun k hk=>bMd s (s.funs.getD k default) hs (ho.funsO (s.funs.getD k default) (cC hk)))) ?_ ?_; (focus (simp -implicitDefEqProofs (disch:=omega) only [zdA,go_sem,simprocAttr]; done)))); simp -implicitDefEqProofs (disch:=omega) only [go_sem,simprocAttr]) | refine bM (by omega) ?_ | (intro hr; have hc:=hr; (try simp only [zdz] at hc); simp -implicitDefEqProofs (disch:=omega) only [hr,go_sem,simprocAttr]; (try clear hr))))
   all_goals first | (refine aP ?_ (by rfl); simp only [gK,sE,xF, *,decide_true,decide_false,aW,aS]; done) | skip
   all_goals refine aP ?_ (by rfl)
   all_goals simp only [gK,sG,sE,xF, *,decide_true,bS,aM]
   all_goals (simp; omega)
end Go.Proofs.YtifefbhllfdmlaaGreatDoor
namespace Go.Proofs.YtifefbhllfdmlaaGreatDoor
open Go Go.Vo
open Nat (reduceAdd reduceSub reduceMul reduceLeDiff reduceLT reduceEqDiff)
open Int (reduceNeg)

theorem F9 (s:Str):tX s++frame s=s:=by
 unfold tX frame
 split
 · exact eV _ _
 · simp
end Go.Proofs.YtifefbhllfdmlaaGreatDoor
namespace Go.Proofs.YtifefbhllfdmlaaGreatDoor
open Go Go.Vo
open Nat (reduceAdd reduceSub reduceMul reduceLeDiff reduceLT reduceEqDiff)
open Int (reduceNeg)

def bOq (o:LOp):Nat:=o.args.length+o.pieces.length+o.strict.length
def oO (l:List LOp):Nat:=(l.map bOq).sum
def few (s:dF):Bool:=decide (s.sorts.length≤60) && decide (s.below.length≤250) && decide (s.ops.length+s.funs.length≤250) && decide (s.values.length≤100) && decide (oO (s.ops++s.funs)≤3000)
@[simp] theorem bIb:oO []=0:=rfl
theorem aVw {s:dF} (h:60 < s.sorts.length∨250 < s.below.length∨250 < s.ops.length+s.funs.length∨100 < s.values.length∨3000 < oO (s.ops++s.funs)):few s=false:=by
 unfold few
 simp only [aBf,decide_eq_false_iff_not]
 omega
theorem bAl {s:dF} (h:s.sorts.length≤60∧s.below.length≤250∧s.ops.length+s.funs.length≤250∧s.values.length≤100∧oO (s.ops++s.funs)≤3000):few s=true:=by
 unfold few
 simp only [aB,decide_eq_true_eq]
 omega
theorem aGj {l:List LOp} {k:Nat} (h:k < l.length):oO (l.take (k+1))=oO (l.take k)+bOq (l.getD k default):=by
 rw [fZ (d:=default) h]; simp [oO]
theorem aTk {l:List LOp} {k:Nat}:oO (l.take k)≤oO l:=by
 have h:oO (l.take k++l.drop k)=oO l:=by rw [eV]
 unfold oO at *
 rw [bF,List.sum_append] at h
 omega
theorem bMj (s:dF) (hs:OkS s): CT 36 [.agg (cB s)] (.b (few s)):=by
 refine eD (rx:=true) (th:=fun _=>none) mixed Tryz.func36 g0 ?_
 · simp -implicitDefEqProofs (disch:=omega) only [Tryz.f36,go_sem,List.replicate,simprocAttr]
   have h1:=hs.sorts
   have h2:=hs.below
   have h3:=hs.ops
   have h4:=hs.funs
   have h5:=hs.values
   (refine zs0 ?_; repeat' first | exact trivial | refine zJ ?_ ?_ | refine zH fun hc=>?_)
   all_goals first | (refine aP ?_ (by rfl); rw [aVw (by omega)]; done) | skip
   rw [← eJ,← aG]
   have hL:(s.ops++s.funs).length=s.ops.length+s.funs.length:=aG
   have hO:∀ x ∈ s.ops++s.funs,OkO x:=fun x hx=>(bN.1 hx).elim (hs.opsO x) (hs.funsO x)
   have hfin:oO (s.ops++s.funs)≤3000→few s=true:=fun h=>bAl ⟨by omega,by omega,by omega,by omega,h⟩
   have hfin2:3000 < oO (s.ops++s.funs)→few s=false:=fun h=>aVw (by omega)
   generalize s.ops++s.funs=L at hL hO hfin hfin2
   refine jW (fun (k:Nat)=>[.k,.k,.j,.v (.i .i64 (oO (L.take k):Nat)),.k,.j,.k,.k,.k,.k,.k,.k,.k,.k,.k,.k,.k,.k,.k,.k,.k,.k,.k,.k,.k,.k,.k,.k,.k,.k,.k,.k,.k,.k,.k,.k,.k,.k,.k,.k,.v (.i .i64 k),.j,.j,.j,.j,.j,.j,.j,.j,.j,.j,.j,.j,.j,.j,.j,.j,.j,.j,.j]) (fun k=>[.box false [.sl (s.sorts.map .s) s.sorts.length,.sl (s.below.flatMap dP) s.below.length,.sl (s.ops.flatMap dA) s.ops.length,.sl (s.funs.flatMap dA) s.funs.length,.sl (s.values.map .s) s.values.length],.dead,.arr false 7 (L.flatMap dA)]) (fun k=>k≤L.length∧oO (L.take k)≤3000) (fun k=>L.length - k) (0) _ ⟨aT _,by simp [oO]⟩ rfl (by simp [iL]) ?_
   rintro k g j ⟨hk,hb⟩
   have ho:k < L.length→(L.getD k default).args.length≤140737488355328∧(L.getD k default).pieces.length≤140737488355328∧(L.getD k default).strict.length≤140737488355328:=fun h=>⟨(hO _ (cC h)).args,(hO _ (cC h)).pieces,(hO _ (cC h)).strict⟩
   have hs1:k < L.length→oO (L.take (k+1))=oO (L.take k)+((L.getD k default).args.length+(L.getD k default).pieces.length+(L.getD k default).strict.length):=fun h=>aGj h
   have hle:=aTk (l:=L) (k:=k+1)
   refine zg ?_
   (refine zs0 ?_; repeat' first | exact trivial | refine zJ ?_ ?_ | refine zH fun hc=>?_)
   · refine aP ?_ (by rfl)
     have:=hs1 (by omega)
     rw [hfin2 (by omega)]
   · have h1:=hs1 (by omega)
     refine ⟨k+1,_,⟨by omega,by omega⟩,by omega,rfl,?_⟩
     rw [h1]; simp
   · refine aP ?_ (by rfl)
     have hk2:k=L.length:=by omega
     subst hk2
     rw [jB] at hb
     rw [hfin hb]
end Go.Proofs.YtifefbhllfdmlaaGreatDoor
namespace Go.Proofs.YtifefbhllfdmlaaGreatDoor
open Go Go.Vo
open Nat (reduceAdd reduceSub reduceMul reduceLeDiff reduceLT reduceEqDiff)
open Int (reduceNeg)

end Go.Proofs.YtifefbhllfdmlaaGreatDoor
namespace Go.Proofs.YtifefbhllfdmlaaGreatDoor
open Go Go.Vo
open Nat (reduceAdd reduceSub reduceMul reduceLeDiff reduceLT reduceEqDiff)
open Int (reduceNeg)

attribute [go_sem] ite_self bL decide_true decide_false not_true_eq_false not_false_eq_true bX bY
def oY (r:Option LOp):AV:=match r with
 | some o=>.tup [elO o,.b true]
 | none=>.tup [elO default,.b false]
def aVj (s:dF) (x:Str):Option LOp:=s.ops.find? fun o=>decide (o.name=x)
def aFy (s:dF) (x:Str):Option LOp:=s.funs.find? fun o=>decide (o.name=x)
theorem oL {l:List LOp} {x:Str}:((l.map LOp.name).findIdx? fun y=>decide (x=y))=l.findIdx? fun o=>decide (o.name=x):=by
 rw [List.findIdx?_map]; congr 1; funext o; simp [eq_comm]
theorem aCt {l:List LOp} {x:Str}:(∃ i o,(l.findIdx? fun o=>decide (o.name=x))=some i∧l.find? (fun o=>decide (o.name=x))=some o∧(l.map elO)[i]? = some (elO o))∨((l.findIdx? fun o=>decide (o.name=x))=none∧l.find? (fun o=>decide (o.name=x))=none):=by
 induction l with
 | nil=>right; simp
 | cons a l ih=>
   by_cases h:a.name=x
   · left; exact ⟨0,a,by simp [eS,h],by simp [h],by simp⟩
   · rcases ih with ⟨i,o,h1,h2,h3⟩ | ⟨h1,h2⟩
     · left; exact ⟨i+1,o,by simp [eS,h,h1],by simp [h,h2],by simpa using h3⟩
     · right; exact ⟨by simp [eS,h,h1],by simp [h,h2]⟩
theorem bFc (s:dF) (x:Str): CT 157 [cU s,.s x] (oY (aVj s x)):=by
 refine aQ mixed Tryz.func157 g0 ?_
 · skip
   rcases aCt (l:=s.ops) (x:=x) with ⟨i,o,h1,h2,h3⟩ | ⟨h1,h2⟩
   · refine zh (zA2 @oL (zA2 h1 h3)) ?_
     exact aP (by simp only [oY,aVj,h2]; rfl) (by simp only [pers,persL,kY,jE,fX,dV])
   · refine zh (zA2 @oL h1) ?_
     have:oY (aVj s x)=.tup [elO default,.b false]:=by simp only [oY,aVj,h2]
     rw [this]
     exact .inr ⟨⟨⟨rfl,rfl,rfl,rfl,rfl,rfl,rfl,trivial⟩,rfl,trivial⟩,by decide,fun i hi=>by cases hi⟩
theorem bMc (s:dF) (x:Str): CT 225 [cU s,.s x] (oY (aFy s x)):=by
 refine aQ mixed Tryz.func225 g0 ?_
 · skip
   rcases aCt (l:=s.funs) (x:=x) with ⟨i,o,h1,h2,h3⟩ | ⟨h1,h2⟩
   · refine zh (zA2 @oL (zA2 h1 h3)) ?_
     exact aP (by simp only [oY,aFy,h2]; rfl) (by simp only [pers,persL,kY,jE,fX,dV])
   · refine zh (zA2 @oL h1) ?_
     have:oY (aFy s x)=.tup [elO default,.b false]:=by simp only [oY,aFy,h2]
     rw [this]
     exact .inr ⟨⟨⟨rfl,rfl,rfl,rfl,rfl,rfl,rfl,trivial⟩,rfl,trivial⟩,by decide,fun i hi=>by cases hi⟩
end Go.Proofs.YtifefbhllfdmlaaGreatDoor
namespace Go.Proofs.YtifefbhllfdmlaaGreatDoor
open Go Go.Vo
open Nat (reduceAdd reduceSub reduceMul reduceLeDiff reduceLT reduceEqDiff)
open Int (reduceNeg)


end Go.Proofs.YtifefbhllfdmlaaGreatDoor
namespace Go.Proofs.YtifefbhllfdmlaaGreatDoor
open Go Go.Vo
open Nat (reduceAdd reduceSub reduceMul reduceLeDiff reduceLT reduceEqDiff)
open Int (reduceNeg)

end Go.Proofs.YtifefbhllfdmlaaGreatDoor
namespace Go.Proofs.YtifefbhllfdmlaaGreatDoor
open Go Go.Vo
open Nat (reduceAdd reduceSub reduceMul reduceLeDiff reduceLT reduceEqDiff)
open Int (reduceNeg)

end Go.Proofs.YtifefbhllfdmlaaGreatDoor
namespace Go.Proofs.YtifefbhllfdmlaaGreatDoor
open Go Go.Vo
open Nat (reduceAdd reduceSub reduceMul reduceLeDiff reduceLT reduceEqDiff)
open Int (reduceNeg)

end Go.Proofs.YtifefbhllfdmlaaGreatDoor
namespace Go.Proofs.YtifefbhllfdmlaaGreatDoor
open Go Go.Vo
open Nat (reduceAdd reduceSub reduceMul reduceLeDiff reduceLT reduceEqDiff)
open Int (reduceNeg)

end Go.Proofs.YtifefbhllfdmlaaGreatDoor
namespace Go.Proofs.YtifefbhllfdmlaaGreatDoor
open Go Go.Vo
open Nat (reduceAdd reduceSub reduceMul reduceLeDiff reduceLT reduceEqDiff)
open Int (reduceNeg)

end Go.Proofs.YtifefbhllfdmlaaGreatDoor
namespace Go.Proofs.YtifefbhllfdmlaaGreatDoor
open Go Go.Vo
open Nat (reduceAdd reduceSub reduceMul reduceLeDiff reduceLT reduceEqDiff)
open Int (reduceNeg)

theorem aJs {s:dF}:persL (cB s)=true:=by
 simp only [cB,persL,sY,avb,avo,pers,jE,H4,dV]
end Go.Proofs.YtifefbhllfdmlaaGreatDoor
namespace Go.Proofs.YtifefbhllfdmlaaGreatDoor
open Go Go.Vo
open Nat (reduceAdd reduceSub reduceMul reduceLeDiff reduceLT reduceEqDiff)
open Int (reduceNeg)

end Go.Proofs.YtifefbhllfdmlaaGreatDoor
namespace Go.Proofs.YtifefbhllfdmlaaGreatDoor
open Go Go.Vo
open Nat (reduceAdd reduceSub reduceMul reduceLeDiff reduceLT reduceEqDiff)
open Int (reduceNeg)

end Go.Proofs.YtifefbhllfdmlaaGreatDoor
namespace Go.Proofs.YtifefbhllfdmlaaGreatDoor
open Go Go.Vo
open Nat (reduceAdd reduceSub reduceMul reduceLeDiff reduceLT reduceEqDiff)
open Int (reduceNeg)

end Go.Proofs.YtifefbhllfdmlaaGreatDoor
namespace Go.Proofs.YtifefbhllfdmlaaGreatDoor
open Go Go.Vo
open Nat (reduceAdd reduceSub reduceMul reduceLeDiff reduceLT reduceEqDiff)
open Int (reduceNeg)

end Go.Proofs.YtifefbhllfdmlaaGreatDoor
namespace Go.Proofs.YtifefbhllfdmlaaGreatDoor
open Go Go.Vo
open Nat (reduceAdd reduceSub reduceMul reduceLeDiff reduceLT reduceEqDiff)
open Int (reduceNeg)

end Go.Proofs.YtifefbhllfdmlaaGreatDoor
namespace Go.Proofs.YtifefbhllfdmlaaGreatDoor
open Go Go.Vo
open Nat (reduceAdd reduceSub reduceMul reduceLeDiff reduceLT reduceEqDiff)
open Int (reduceNeg)

end Go.Proofs.YtifefbhllfdmlaaGreatDoor
namespace Go.Proofs.YtifefbhllfdmlaaGreatDoor
open Go Go.Vo
open Nat (reduceAdd reduceSub reduceMul reduceLeDiff reduceLT reduceEqDiff)
open Int (reduceNeg)

theorem aMa {s:dF} (h:few s=true):Small s:=by
 simp only [few,aB,decide_eq_true_eq] at h
 exact ⟨by omega,by omega,by omega,by omega,by omega⟩
end Go.Proofs.YtifefbhllfdmlaaGreatDoor
namespace Go.Proofs.YtifefbhllfdmlaaGreatDoor
open Go Go.Vo
open Nat (reduceAdd reduceSub reduceMul reduceLeDiff reduceLT reduceEqDiff)
open Int (reduceNeg)

end Go.Proofs.YtifefbhllfdmlaaGreatDoor
namespace Go.Proofs.YtifefbhllfdmlaaGreatDoor
open Go Go.Vo
open Nat (reduceAdd reduceSub reduceMul reduceLeDiff reduceLT reduceEqDiff)
open Int (reduceNeg)

theorem aLw {h:List AObj} {b:Bool}:Fin h (.tup [.agg [.s [],.e0,.s [],.e0,.i .i64 0,.i .i64 0,.e0],.b b]) (.tup [elO default,.b b]):=
 .inr ⟨⟨⟨rfl,rfl,rfl,rfl,rfl,rfl,rfl,trivial⟩,rfl,trivial⟩,by simp [elO,dA,cD,finIdsL,avs,avb,avi],by simp [elO,dA,cD,finIdsL,avs,avb,avi]⟩
end Go.Proofs.YtifefbhllfdmlaaGreatDoor

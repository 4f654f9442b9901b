/-
  Contracts of the library (sorting, fields, a byte in a string) at this program: laid by the kit's tool; no condition.
-/
import Derived.Shelf.Small.Strs
import Derived.Shelf.Strconv.Itoa3
import Derived.Shelf.Strings.Builder1
import Derived.Shelf.Strings.Fields
import Derived.Test.YtifefbhllfdmlaaGreatDoorProg
import Derived.Test.YtifefbhllfdmlaaGreatDoorSoP82
import Derived.Sort.Walk0
set_option linter.unusedVariables false
set_option maxRecDepth 100000
set_option linter.unusedSimpArgs false
set_option maxHeartbeats 4000000
namespace Go.Proofs
open Go.Shelf
def Tryz.lays169_ren:Go.Shelf.Ren:=⟨fun | 169=>220 | n=>n,fun | 70=>230 | 9=>9 | 0=>0 | 72=>233 | 37=>231 | 127=>264 | 3=>3 | 5=>5 | n=>n,fun | n=>n⟩
theorem Tryz.lays169:Go.Proofs.Lays.n169 Tryz.prog Tryz.lays169_ren:={
 mixed:=by kernel_rfl
 f169:=Tryz.func220.trans (congrArg some (by kernel_rfl))
 t0:=Tryz.underlying0
 a0:=Tryz.isAgg0
 z0:=Tryz.sizeOf0
 v0:=Tryz.zeroValue0
 t3:=Tryz.underlying3
 a3:=Tryz.isAgg3
 z3:=Tryz.sizeOf3
 v3:=Tryz.zeroValue3
 t9:=Tryz.underlying9
 a9:=Tryz.isAgg9
 z9:=Tryz.sizeOf9
 v9:=Tryz.zeroValue9
 t37:=Tryz.underlying231
 a37:=Tryz.isAgg231
 z37:=Tryz.sizeOf231
 v37:=Tryz.zeroValue231
 t70:=Tryz.underlying230
 a70:=Tryz.isAgg230
 z70:=Tryz.sizeOf230
 v70:=Tryz.zeroValue230
 t72:=Tryz.underlying233
 a72:=Tryz.isAgg233
 z72:=Tryz.sizeOf233
 v72:=Tryz.zeroValue233
 t127:=Tryz.underlying264
 a127:=Tryz.isAgg264
 z127:=Tryz.sizeOf264
 v127:=Tryz.zeroValue264 }
theorem Tryz.Builder_Extra_169:Builder.Extra Tryz.prog Tryz.lays169_ren:={
 sizeBuilder:=by kernel_rfl
 liesBuilder:=by kernel_rfl
 t5:=Tryz.underlying5
 a5:=Tryz.isAgg5
 z5:=Tryz.sizeOf5
 v5:=Tryz.zeroValue5
 infoByte:=by kernel_rfl
 cellsByte:=by kernel_rfl
 sizeByte:=by kernel_rfl
 neB5:=by decide }
def Tryz.lays137_ren:Go.Shelf.Ren:=⟨fun | 137=>232 | 217=>257 | 266=>270 | n=>n,fun | 9=>9 | 5=>5 | 3=>3 | n=>n,fun | n=>n⟩
theorem Tryz.lays137:Go.Proofs.Lays.n137 Tryz.prog Tryz.lays137_ren:={
 mixed:=by kernel_rfl
 f137:=Tryz.func232.trans (congrArg some (by kernel_rfl))
 f217:=Tryz.func257.trans (congrArg some (by kernel_rfl))
 f266:=Tryz.func270.trans (congrArg some (by kernel_rfl))
 t3:=Tryz.underlying3
 a3:=Tryz.isAgg3
 z3:=Tryz.sizeOf3
 v3:=Tryz.zeroValue3
 t5:=Tryz.underlying5
 a5:=Tryz.isAgg5
 z5:=Tryz.sizeOf5
 v5:=Tryz.zeroValue5
 t9:=Tryz.underlying9
 a9:=Tryz.isAgg9
 z9:=Tryz.sizeOf9
 v9:=Tryz.zeroValue9 }
open Go.RowKit in
theorem Tryz.strings_IndexByte (s:ByteArray) (c:Int) (w:World) :
   Calls Tryz.prog 232 #[.string s,.int .u8 c] w fun e w'=>e=.returned (.int .i64 (Lib.indexByte s.data.toList c.toNat.toUInt8))∧w'=w:=Any.strings_IndexByte Tryz.lays137 s c w
def Tryz.laysM171_ren:Go.Shelf.Ren:=⟨fun | 171=>178 | 243=>218 | 246=>244 | 283=>262 | 284=>263 | 285=>264 | 286=>265 | 129=>272 | 317=>271 | 318=>273 | 319=>274 | 320=>275 | 337=>277 | 338=>278 | n=>n,fun | 3=>3 | 9=>9 | 2=>2 | 4=>4 | 171=>277 | 0=>0 | 53=>278 | 37=>231 | 5=>5 | 173=>281 | 212=>296 | 51=>273 | 20=>20 | 213=>297 | 46=>298 | 232=>305 | 233=>306 | n=>n,fun | 17=>2 | 18=>4 | 19=>5 | n=>n⟩
theorem Tryz.laysM171:Go.Proofs.LaysM.n171 Tryz.prog Tryz.laysM171_ren:={
 mixed:=by kernel_rfl
 f129:=Tryz.func272.trans (congrArg some (by kernel_rfl))
 f171:=Tryz.func178.trans (congrArg some (by kernel_rfl))
 f243:=Tryz.func218.trans (congrArg some (by kernel_rfl))
 f246:=Tryz.func244.trans (congrArg some (by kernel_rfl))
 f283:=Tryz.func262.trans (congrArg some (by kernel_rfl))
 f284:=Tryz.func263.trans (congrArg some (by kernel_rfl))
 f285:=Tryz.func264.trans (congrArg some (by kernel_rfl))
 f286:=Tryz.func265.trans (congrArg some (by kernel_rfl))
 f317:=Tryz.func271.trans (congrArg some (by kernel_rfl))
 f318:=Tryz.func273.trans (congrArg some (by kernel_rfl))
 f319:=Tryz.func274.trans (congrArg some (by kernel_rfl))
 f320:=Tryz.func275.trans (congrArg some (by kernel_rfl))
 f337:=Tryz.func277.trans (congrArg some (by kernel_rfl))
 f338:=Tryz.func278.trans (congrArg some (by kernel_rfl))
 t0:=Tryz.underlying0
 a0:=Tryz.isAgg0
 z0:=Tryz.sizeOf0
 v0:=Tryz.zeroValue0
 t2:=Tryz.underlying2
 a2:=Tryz.isAgg2
 z2:=Tryz.sizeOf2
 v2:=Tryz.zeroValue2
 t3:=Tryz.underlying3
 a3:=Tryz.isAgg3
 z3:=Tryz.sizeOf3
 v3:=Tryz.zeroValue3
 t4:=Tryz.underlying4
 a4:=Tryz.isAgg4
 z4:=Tryz.sizeOf4
 v4:=Tryz.zeroValue4
 t5:=Tryz.underlying5
 a5:=Tryz.isAgg5
 z5:=Tryz.sizeOf5
 v5:=Tryz.zeroValue5
 t9:=Tryz.underlying9
 a9:=Tryz.isAgg9
 z9:=Tryz.sizeOf9
 v9:=Tryz.zeroValue9
 t20:=Tryz.underlying20
 a20:=Tryz.isAgg20
 z20:=Tryz.sizeOf20
 v20:=Tryz.zeroValue20
 t37:=Tryz.underlying231
 a37:=Tryz.isAgg231
 z37:=Tryz.sizeOf231
 v37:=Tryz.zeroValue231
 t46:=Tryz.underlying298
 a46:=Tryz.isAgg298
 z46:=Tryz.sizeOf298
 v46:=Tryz.zeroValue298
 t51:=Tryz.underlying273
 a51:=Tryz.isAgg273
 z51:=Tryz.sizeOf273
 v51:=Tryz.zeroValue273
 t53:=Tryz.underlying278
 a53:=Tryz.isAgg278
 z53:=Tryz.sizeOf278
 v53:=Tryz.zeroValue278
 t171:=Tryz.underlying277
 a171:=Tryz.isAgg277
 z171:=Tryz.sizeOf277
 v171:=Tryz.zeroValue277
 t173:=Tryz.underlying281
 a173:=Tryz.isAgg281
 z173:=Tryz.sizeOf281
 v173:=Tryz.zeroValue281
 t212:=Tryz.underlying296
 a212:=Tryz.isAgg296
 z212:=Tryz.sizeOf296
 v212:=Tryz.zeroValue296
 t213:=Tryz.underlying297
 a213:=Tryz.isAgg297
 z213:=Tryz.sizeOf297
 t232:=Tryz.underlying305
 a232:=Tryz.isAgg305
 z232:=Tryz.sizeOf305
 v232:=Tryz.zeroValue305
 t233:=Tryz.underlying306
 a233:=Tryz.isAgg306
 z233:=Tryz.sizeOf306
 v233:=Tryz.zeroValue306
 g17:=by kernel_rfl
 g18:=by kernel_rfl
 g19:=by kernel_rfl
 i0:=by kernel_rfl
 i2:=by kernel_rfl
 i3:=by kernel_rfl
 i4:=by kernel_rfl
 i5:=by kernel_rfl
 i9:=by kernel_rfl
 i20:=by kernel_rfl
 i37:=by kernel_rfl
 i46:=by kernel_rfl
 i51:=by kernel_rfl
 i53:=by kernel_rfl
 i171:=by kernel_rfl
 i173:=by kernel_rfl
 i212:=by kernel_rfl
 i232:=by kernel_rfl
 i233:=by kernel_rfl
 m17:=by kernel_rfl
 m18:=by kernel_rfl
 m19:=by kernel_rfl }
open Go.RowKit Go.Sort Go.Lib in
theorem Tryz.strconv_Itoa (n:Int) (h0 : -9223372036854775808≤n) (h1:n≤9223372036854775807) (w:World) (htab:Lib.TabIs Tryz.prog w "internal/strconv.uint64pow10" .u64 Lib.pow10Tab) :
   Calls Tryz.prog 178 #[.int .i64 n] w fun e w'=>e=.returned (.string ⟨(Lib.itoa n).toArray⟩)∧∃ k os,w'=grow (w.drewN k) os:=Any.strconv_Itoa Tryz.laysM171 n h0 h1 w htab
def Tryz.lays157_ren:Go.Shelf.Ren:=⟨fun | 157=>196 | 229=>230 | 199=>231 | 261=>256 | 311=>268 | 312=>269 | n=>n,fun | 9=>9 | 31=>22 | 3=>3 | 5=>5 | 4=>4 | 119=>249 | 0=>0 | 40=>251 | 152=>270 | 21=>21 | 154=>272 | 51=>273 | 141=>275 | 196=>286 | 193=>283 | 198=>289 | 49=>287 | 194=>284 | 201=>292 | 226=>302 | 46=>298 | 227=>303 | n=>n,fun | 0=>0 | 6=>1 | n=>n⟩
theorem Tryz.lays157:Go.Proofs.Lays.n157 Tryz.prog Tryz.lays157_ren:={
 mixed:=by kernel_rfl
 f157:=Tryz.func196.trans (congrArg some (by kernel_rfl))
 f199:=Tryz.func231.trans (congrArg some (by kernel_rfl))
 f229:=Tryz.func230.trans (congrArg some (by kernel_rfl))
 f261:=Tryz.func256.trans (congrArg some (by kernel_rfl))
 f311:=Tryz.func268.trans (congrArg some (by kernel_rfl))
 f312:=Tryz.func269.trans (congrArg some (by kernel_rfl))
 t0:=Tryz.underlying0
 a0:=Tryz.isAgg0
 z0:=Tryz.sizeOf0
 v0:=Tryz.zeroValue0
 t3:=Tryz.underlying3
 a3:=Tryz.isAgg3
 z3:=Tryz.sizeOf3
 v3:=Tryz.zeroValue3
 t4:=Tryz.underlying4
 a4:=Tryz.isAgg4
 z4:=Tryz.sizeOf4
 v4:=Tryz.zeroValue4
 t5:=Tryz.underlying5
 a5:=Tryz.isAgg5
 z5:=Tryz.sizeOf5
 v5:=Tryz.zeroValue5
 t9:=Tryz.underlying9
 a9:=Tryz.isAgg9
 z9:=Tryz.sizeOf9
 v9:=Tryz.zeroValue9
 t21:=Tryz.underlying21
 a21:=Tryz.isAgg21
 z21:=Tryz.sizeOf21
 v21:=Tryz.zeroValue21
 t31:=Tryz.underlying22
 a31:=Tryz.isAgg22
 z31:=Tryz.sizeOf22
 v31:=Tryz.zeroValue22
 t40:=Tryz.underlying251
 a40:=Tryz.isAgg251
 z40:=Tryz.sizeOf251
 v40:=Tryz.zeroValue251
 t46:=Tryz.underlying298
 a46:=Tryz.isAgg298
 z46:=Tryz.sizeOf298
 v46:=Tryz.zeroValue298
 t49:=Tryz.underlying287
 a49:=Tryz.isAgg287
 z49:=Tryz.sizeOf287
 v49:=Tryz.zeroValue287
 t51:=Tryz.underlying273
 a51:=Tryz.isAgg273
 z51:=Tryz.sizeOf273
 v51:=Tryz.zeroValue273
 t119:=Tryz.underlying249
 a119:=Tryz.isAgg249
 z119:=Tryz.sizeOf249
 t141:=Tryz.underlying275
 a141:=Tryz.isAgg275
 z141:=Tryz.sizeOf275
 v141:=Tryz.zeroValue275
 t152:=Tryz.underlying270
 a152:=Tryz.isAgg270
 z152:=Tryz.sizeOf270
 v152:=Tryz.zeroValue270
 t154:=Tryz.underlying272
 a154:=Tryz.isAgg272
 z154:=Tryz.sizeOf272
 v154:=Tryz.zeroValue272
 t193:=Tryz.underlying283
 a193:=Tryz.isAgg283
 z193:=Tryz.sizeOf283
 v193:=Tryz.zeroValue283
 t194:=Tryz.underlying284
 a194:=Tryz.isAgg284
 z194:=Tryz.sizeOf284
 v194:=Tryz.zeroValue284
 t196:=Tryz.underlying286
 a196:=Tryz.isAgg286
 z196:=Tryz.sizeOf286
 v196:=Tryz.zeroValue286
 t198:=Tryz.underlying289
 a198:=Tryz.isAgg289
 z198:=Tryz.sizeOf289
 v198:=Tryz.zeroValue289
 t201:=Tryz.underlying292
 a201:=Tryz.isAgg292
 z201:=Tryz.sizeOf292
 v201:=Tryz.zeroValue292
 t226:=Tryz.underlying302
 a226:=Tryz.isAgg302
 z226:=Tryz.sizeOf302
 v226:=Tryz.zeroValue302
 t227:=Tryz.underlying303
 a227:=Tryz.isAgg303
 z227:=Tryz.sizeOf303
 v227:=Tryz.zeroValue303
 g0:=by kernel_rfl
 g6:=by kernel_rfl }
end Go.Proofs
namespace Go.Proofs.YtifefbhllfdmlaaGreatDoor
open Go Go.Vo
open Nat (reduceAdd reduceSub reduceMul reduceLeDiff reduceLT reduceEqDiff)
open Int (reduceNeg)

theorem bNw (l:List LOp) (hl:l.length≤1172812402961): CT 87 [avo l] (.own 1 ((l.map LOp.name).map .s) l.length):=by
 refine aL mixed Tryz.func87 g0 ?_
 · skip
   refine bP (fun (s:Nat × AV × List AObj)=>[.k,.k,.k,.v (s.2.1),.k,.j,.k,.k,.v (.i .i64 (s.1:Nat)),.j,.j,.j,.j,.j,.j,.j,.j,.j,.k]) (fun s=>s.2.2) (fun s=>s.1≤l.length∧dV 1 0 s.2.2 s.2.1 (((l.take s.1).map LOp.name).map .s) s.1) (fun s=>l.length - s.1) ((0,.e0,[])) ⟨aG _,jC⟩ rfl (by simp [eN]) ?_
   rintro ⟨k,out,g⟩ j ⟨hk,ho⟩
   dsimp only at hk ho
   refine zg ?_
   (refine zs0 ?_; repeat' first | exact trivial | refine zJ ?_ ?_ | refine zH fun hc=>?_)
   · refine dU (pre:=[]) (news:=[.s (l.getD k default).name]) (m:=1) ho rfl rfl bIr zo9 sz9 by9 rfl (by decide) (by simp -implicitDefEqProofs (disch:=omega) only [go_sem,simprocAttr]) (by simp -implicitDefEqProofs (disch:=omega) only [go_sem,simprocAttr]) ⟨by omega,by omega⟩ ?_
     intro out' g' ho' _
     refine zg ?_
     refine ⟨(k+1,out',g'),⟨by omega,?_⟩,by simp; omega,rfl,by simp⟩
     rw [fY (d:=default) (by omega),aV,aV]
     exact ho'
   · have h1:k=l.length:=by omega
     subst h1
     exact xS (pre:=[]) (by simpa using ho) jW
end Go.Proofs.YtifefbhllfdmlaaGreatDoor
namespace Go.Proofs.YtifefbhllfdmlaaGreatDoor
open Go Go.Vo
open Nat (reduceAdd reduceSub reduceMul reduceLeDiff reduceLT reduceEqDiff)
open Int (reduceNeg)

def nU (x:Str) (L:List Str) (b:Str × Str):List Str:=if b.1=x∧L.contains b.2=false then L++[b.2] else L
def oG (l:List (Str × Str)) (x:Str) (L:List Str):List Str:=l.foldl (nU x) L
def climbG (l:List (Str × Str)):Nat→Nat→List Str→List Str
 | 0,_,L=>L
 | f+1,i,L=>if i < L.length then climbG l f (i+1) (oG l (L.getD i []) L) else L
def climb (l:List (Str × Str)) (a:Str):List Str:=climbG l (l.length+1) 0 [a]

theorem yH (x:Str) (L:List Str) (b:Str × Str):(nU x L b=L)∨(b.1=x∧L.contains b.2=false∧nU x L b=L++[b.2]):=by
 unfold nU
 split
 · rename_i h; exact .inr ⟨h.1,h.2,rfl⟩
 · exact .inl rfl
structure Climbs (l:List (Str × Str)) (a:Str) (L:List Str):Prop where
 nd:L.Nodup
 sub:∀ x ∈ L,x=a∨∃ b ∈ l,b.2=x
 me:a ∈ L
theorem Climbs.step {l:List (Str × Str)} {a x:Str} {L:List Str} {b:Str × Str} (h:Climbs l a L) (hb:b ∈ l):Climbs l a (nU x L b):=by
 rcases yH x L b with e | ⟨_,h2,e⟩
 · rw [e]; exact h
 · rw [e]
   refine ⟨?_,?_,by simp [h.me]⟩
   · rw [kJ]
     refine ⟨h.nd,by simp,?_⟩
     intro y hy z hz hyz
     simp only [aS] at hz
     have:b.2 ∉ L:=by simpa using h2
     exact this (hz ▸ hyz ▸ hy)
   · intro y hy
     rcases bA.1 hy with hy | hy
     · exact h.sub y hy
     · simp only [aS] at hy; exact .inr ⟨b,hb,hy.symm⟩
theorem vP {α:Type} [DecidableEq α]:∀ {L M:List α},L.Nodup→(∀ x ∈ L,x ∈ M)→L.length≤M.length
 | [],M,_,_=>aG _
 | x :: L,M,hn,hs=>by
   rw [iV] at hn
   have hx:=hs x (by simp)
   have:=vP (L:=L) (M:=M.erase x) hn.2 (fun y hy=>by
     have hne:y ≠ x:=fun e=>hn.1 (e ▸ hy)
     exact (List.mem_erase_of_ne hne).2 (hs y (by simp [hy])))
   rw [List.length_erase_of_mem hx] at this
   have hpos:0 < M.length:=dZ hx
   simp only [aI]; omega
theorem Climbs.len {l:List (Str × Str)} {a:Str} {L:List Str} (h:Climbs l a L):L.length≤l.length+1:=by
 have:=vP (M:=a::l.map (·.2)) h.nd (fun x hx=>by
   rcases h.sub x hx with h1 | ⟨b,h1,h2⟩
   · simp [h1]
   · simp only [bT,dQ]; exact .inr ⟨b,h1,h2⟩)
 simpa using this
theorem uW {x:Str} {L:List Str} {b:Str × Str} {i:Nat} (hi:i < L.length):(nU x L b).getD i []=L.getD i []∧i < (nU x L b).length:=by
 rcases yH x L b with e | ⟨_,_,e⟩
 · rw [e]; exact ⟨rfl,hi⟩
 · rw [e]; simp [List.getD,aD hi]; omega
theorem G8 {l:List (Str × Str)} {i:Nat} {L:List Str} (h:L.length≤i):∀ f,climbG l f i L=L
 | 0=>rfl
 | f+1=>by simp only [climbG]; rw [if_neg (by omega)]

theorem kK {l:List (Str × Str)} {x:Str} {L:List Str} {k:Nat} (h:k < l.length):oG (l.take (k+1)) x L=nU x (oG (l.take k) x L) (l.getD k ([],[])):=by
 rw [fY (d:=([],[])) h]; simp [oG,mW]

structure xC (l:List (Str × Str)) (a:Str) (i:Nat) (L:List Str):Prop where
 le:i≤L.length
 c:Climbs l a L
 eq:climbG l (l.length+1 - i) i L=climb l a
theorem xC.start (l:List (Str × Str)) (a:Str):xC l a 0 [a]:=⟨by simp,⟨by simp,by simp,by simp⟩,rfl⟩
theorem xC.next {l:List (Str × Str)} {a:Str} {i:Nat} {L:List Str} (h:xC l a i L) (hi:i < L.length) (hc:Climbs l a (oG l (L.getD i []) L)) (hl:i < (oG l (L.getD i []) L).length):xC l a (i+1) (oG l (L.getD i []) L):=by
 refine ⟨hl,hc,?_⟩
 have:=h.c.len
 have e:l.length+1 - i=(l.length+1 - (i+1))+1:=by omega
 rw [← h.eq,e,climbG,if_pos hi]

theorem bRm (s:bZ) (a:Str) (hb:s.below.length≤1000000): CT 95 [.agg (aO s),.s a] (.own 1 ((climb s.below a).map .s) (climb s.below a).length):=by
 refine aL mixed Tryz.func95 g0 ?_
 · skip
   refine bP (fun (t:Nat × List Str × AV × List AObj)=>[.k,.k,.k,.k,.k,.v (t.2.2.1),.v (.i .i64 (t.1:Nat)),.k,.j,.k,.k,.j,.j,.j,.j,.j,.j,.j,.j,.j,.j,.j,.j,.j,.j,.j,.j,.j,.j,.j,.j,.j,.j,.j,.j,.j,.j,.j,.j,.j,.j,.j,.j,.j,.k]) (fun t=>.box false [.sl (s.sorts.map .s) s.sorts.length,.sl (s.below.flatMap cD) s.below.length,.sl (s.ops.flatMap bK) s.ops.length,.sl (s.funs.flatMap bK) s.funs.length,.sl (s.values.map .s) s.values.length]::t.2.2.2) (fun t=>xC s.below a t.1 t.2.1∧dV 1 1 t.2.2.2 t.2.2.1 (t.2.1.map .s) t.2.1.length) (fun t=>s.below.length+1 - t.1) ((0,[a],.hs 1 0 1 false,[.arr false 1 [.s a]])) ⟨xC.start _ _,.inr ⟨0,rfl,rfl,rfl⟩⟩ rfl (by simp [eN]) ?_
   rintro ⟨i,L,out,g⟩ j ⟨hI,ho⟩
   dsimp only at hI ho
   have hlen:=hI.c.len
   have hle:=hI.le
   rcases ho with ⟨_,hnil,_⟩ | ⟨i0,rfl,hg,_⟩
   · exfalso
     have h1:L=[]:=by simpa using hnil
     have:=hI.c.me
     simp [h1] at this
   refine zh hg ?_
   (refine zx0 hg ?_; repeat' first | exact trivial | refine zJ ?_ ?_ | refine zH fun hc=>?_)
   · have hcl:i < L.length:=by simpa using hc
     refine bP (fun (t:Nat × List Str × AV × List AObj)=>[.k,.k,.k,.k,.k,.v (t.2.2.1),.k,.k,.j,.k,.k,.k,.k,.k,.k,.k,.k,.k,.k,.k,.v (.i .i64 (t.1:Nat)),.j,.j,.j,.j,.j,.j,.j,.j,.j,.j,.j,.j,.j,.j,.j,.j,.j,.j,.j,.j,.j,.j,.j,.k]) (fun t=>.box false [.sl (s.sorts.map .s) s.sorts.length,.sl (s.below.flatMap cD) s.below.length,.sl (s.ops.flatMap bK) s.ops.length,.sl (s.funs.flatMap bK) s.funs.length,.sl (s.values.map .s) s.values.length]::t.2.2.2) (fun t=>t.1≤s.below.length∧t.2.1=oG (s.below.take t.1) (L.getD i []) L∧Climbs s.below a t.2.1∧(t.2.1.getD i []=L.getD i []∧i < t.2.1.length)∧dV 1 1 t.2.2.2 t.2.2.1 (t.2.1.map .s) t.2.1.length) (fun t=>s.below.length - t.1) ((0,L,.hs (i0+1) 0 L.length false,g)) ⟨aG _,rfl,hI.c,⟨rfl,hcl⟩,.inr ⟨i0,rfl,hg,by simp⟩⟩ rfl (by simp [eN]) ?_
     rintro ⟨k,M,out,g⟩ j ⟨hk,hM,hc2,⟨hget,hlt⟩,ho⟩
     dsimp only at hk hM hc2 hget hlt ho
     have hlenM:=hc2.len
     have ho1:=ho
     rcases ho with ⟨_,hnil,_⟩ | ⟨i1,rfl,hg1,_⟩
     · exfalso
       have h1:M=[]:=by simpa using hnil
       simp [h1] at hlt
     have hi1:=aQ hg1
     have hg2:∀ m,(g++m)[i1]? = some (.arr false 1 (M.map .s)):=fun m=>by rw [aD hi1]; exact hg1
     refine zh hg2 ?_
     (refine zx1 hg2 (K7 M (s.below.getD k ([],[])).2) ?_; repeat' first | exact trivial | refine zJ ?_ ?_ | refine zH fun hc=>?_)
     · have e:nU (L.getD i []) M (s.below.getD k ([],[]))=M++[(s.below.getD k ([],[])).2]:=if_pos ⟨by rw [← hget]; assumption,hc⟩
       have hp:=uW (x:=L.getD i []) (b:=s.below.getD k ([],[])) hlt
       have hst:=hc2.step (x:=L.getD i []) (aU (d:=([],[])) (show k < s.below.length by omega))
       rw [e] at hp hst
       refine ⟨(k+1,M++[(s.below.getD k ([],[])).2],.hs (g.length+2+1) 0 (M.length+1) false,_),⟨by omega,?_,hst,⟨hp.1.trans hget,hp.2⟩,.inr ⟨g.length+2,by simp,?_,by simp⟩⟩,by simp; omega,rfl,by simp⟩
       · rw [kK (by omega),← hM,e]
       · simp
     · have e:nU (L.getD i []) M (s.below.getD k ([],[]))=M:=if_neg (by rw [hc]; simp)
       refine ⟨(k+1,M,_,_),⟨by omega,?_,hc2,⟨hget,hlt⟩,ho1.more _⟩,by simp; omega,rfl,by simp⟩
       rw [kK (by omega),← hM,e]
     · have e:nU (L.getD i []) M (s.below.getD k ([],[]))=M:=if_neg (by rw [hget] at hc; exact fun h=>hc h.1)
       refine ⟨(k+1,M,_,_),⟨by omega,?_,hc2,⟨hget,hlt⟩,ho1.more _⟩,by simp; omega,rfl,by simp⟩
       rw [kK (by omega),← hM,e]
     · have h1:s.below.take k=s.below:=aH (by omega)
       rw [h1] at hM
       subst hM
       exact ⟨(i+1,_,_,_),⟨hI.next hcl hc2 hlt,ho1⟩,by simp; omega,rfl,by simp⟩
   · have hd:=hI.eq
     rw [G8 (by omega)] at hd
     subst hd
     exact xS (pre:=[_]) (.inr ⟨i0,rfl,hg,by simp⟩) jW
theorem bEd (s:bZ) (a:Str) (hb:s.below.length≤1000000): CT 164 [.agg (aO s),.s a] (.own 1 ((climb s.below a).map .s) (climb s.below a).length):=by
 refine aL mixed Tryz.func164 g0 ?_
 · skip
   refine bP (fun (t:Nat × List Str × AV × List AObj)=>[.k,.k,.k,.k,.k,.v (t.2.2.1),.v (.i .i64 (t.1:Nat)),.k,.j,.k,.k,.j,.j,.j,.j,.j,.j,.j,.j,.j,.j,.j,.j,.j,.j,.j,.j,.j,.j,.j,.j,.j,.j,.j,.j,.j,.j,.j,.j,.j,.j,.j,.j,.j,.k]) (fun t=>.box false [.sl (s.sorts.map .s) s.sorts.length,.sl (s.below.flatMap cD) s.below.length,.sl (s.ops.flatMap bK) s.ops.length,.sl (s.funs.flatMap bK) s.funs.length,.sl (s.values.map .s) s.values.length]::t.2.2.2) (fun t=>xC s.below a t.1 t.2.1∧dV 1 1 t.2.2.2 t.2.2.1 (t.2.1.map .s) t.2.1.length) (fun t=>s.below.length+1 - t.1) ((0,[a],.hs 1 0 1 false,[.arr false 1 [.s a]])) ⟨xC.start _ _,.inr ⟨0,rfl,rfl,rfl⟩⟩ rfl (by simp [eN]) ?_
   rintro ⟨i,L,out,g⟩ j ⟨hI,ho⟩
   dsimp only at hI ho
   have hlen:=hI.c.len
   have hle:=hI.le
   rcases ho with ⟨_,hnil,_⟩ | ⟨i0,rfl,hg,_⟩
   · exfalso
     have h1:L=[]:=by simpa using hnil
     have:=hI.c.me
     simp [h1] at this
   refine zh hg ?_
   (refine zx0 hg ?_; repeat' first | exact trivial | refine zJ ?_ ?_ | refine zH fun hc=>?_)
   · have hcl:i < L.length:=by simpa using hc
     refine bP (fun (t:Nat × List Str × AV × List AObj)=>[.k,.k,.k,.k,.k,.v (t.2.2.1),.k,.k,.j,.k,.k,.k,.k,.k,.k,.k,.k,.k,.k,.k,.v (.i .i64 (t.1:Nat)),.j,.j,.j,.j,.j,.j,.j,.j,.j,.j,.j,.j,.j,.j,.j,.j,.j,.j,.j,.j,.j,.j,.j,.k]) (fun t=>.box false [.sl (s.sorts.map .s) s.sorts.length,.sl (s.below.flatMap cD) s.below.length,.sl (s.ops.flatMap bK) s.ops.length,.sl (s.funs.flatMap bK) s.funs.length,.sl (s.values.map .s) s.values.length]::t.2.2.2) (fun t=>t.1≤s.below.length∧t.2.1=oG (s.below.take t.1) (L.getD i []) L∧Climbs s.below a t.2.1∧(t.2.1.getD i []=L.getD i []∧i < t.2.1.length)∧dV 1 1 t.2.2.2 t.2.2.1 (t.2.1.map .s) t.2.1.length) (fun t=>s.below.length - t.1) ((0,L,.hs (i0+1) 0 L.length false,g)) ⟨aG _,rfl,hI.c,⟨rfl,hcl⟩,.inr ⟨i0,rfl,hg,by simp⟩⟩ rfl (by simp [eN]) ?_
     rintro ⟨k,M,out,g⟩ j ⟨hk,hM,hc2,⟨hget,hlt⟩,ho⟩
     dsimp only at hk hM hc2 hget hlt ho
     have hlenM:=hc2.len
     have ho1:=ho
     rcases ho with ⟨_,hnil,_⟩ | ⟨i1,rfl,hg1,_⟩
     · exfalso
       have h1:M=[]:=by simpa using hnil
       simp [h1] at hlt
     have hi1:=aQ hg1
     have hg2:∀ m,(g++m)[i1]? = some (.arr false 1 (M.map .s)):=fun m=>by rw [aD hi1]; exact hg1
     refine zh hg2 ?_
     (refine zx1 hg2 (zI M (s.below.getD k ([],[])).2) ?_; repeat' first | exact trivial | refine zJ ?_ ?_ | refine zH fun hc=>?_)
     · have e:nU (L.getD i []) M (s.below.getD k ([],[]))=M++[(s.below.getD k ([],[])).2]:=if_pos ⟨by rw [← hget]; assumption,hc⟩
       have hp:=uW (x:=L.getD i []) (b:=s.below.getD k ([],[])) hlt
       have hst:=hc2.step (x:=L.getD i []) (aU (d:=([],[])) (show k < s.below.length by omega))
       rw [e] at hp hst
       refine ⟨(k+1,M++[(s.below.getD k ([],[])).2],.hs (g.length+2+1) 0 (M.length+1) false,_),⟨by omega,?_,hst,⟨hp.1.trans hget,hp.2⟩,.inr ⟨g.length+2,by simp,?_,by simp⟩⟩,by simp; omega,rfl,by simp⟩
       · rw [kK (by omega),← hM,e]
       · simp
     · have e:nU (L.getD i []) M (s.below.getD k ([],[]))=M:=if_neg (by rw [hc]; simp)
       refine ⟨(k+1,M,_,_),⟨by omega,?_,hc2,⟨hget,hlt⟩,ho1.more _⟩,by simp; omega,rfl,by simp⟩
       rw [kK (by omega),← hM,e]
     · have e:nU (L.getD i []) M (s.below.getD k ([],[]))=M:=if_neg (by rw [hget] at hc; exact fun h=>hc h.1)
       refine ⟨(k+1,M,_,_),⟨by omega,?_,hc2,⟨hget,hlt⟩,ho1.more _⟩,by simp; omega,rfl,by simp⟩
       rw [kK (by omega),← hM,e]
     · have h1:s.below.take k=s.below:=aH (by omega)
       rw [h1] at hM
       subst hM
       exact ⟨(i+1,_,_,_),⟨hI.next hcl hc2 hlt,ho1⟩,by simp; omega,rfl,by simp⟩
   · have hd:=hI.eq
     rw [G8 (by omega)] at hd
     subst hd
     exact xS (pre:=[_]) (.inr ⟨i0,rfl,hg,by simp⟩) jW
end Go.Proofs.YtifefbhllfdmlaaGreatDoor
namespace Go.Proofs.YtifefbhllfdmlaaGreatDoor
open Go Go.Vo
open Nat (reduceAdd reduceSub reduceMul reduceLeDiff reduceLT reduceEqDiff)
open Int (reduceNeg)

theorem bMk:(22:Nat) ≠ 3:=by decide
theorem bWs {h:List AObj}:jF Tryz.prog h .cap #[22] [.e0]=some (.i .i64 0,h):=aTo bZl
theorem bSl {dr:Option DR} {d:Option Nat} {os:List fZ} {K:List AV→List AObj→Prop} {env:List AV} {h:List AObj} {s x:Operand}:dW Tryz.prog G0 dr (.call ⟨.builtin .append,#[s,x],#[22,3]⟩) d os K env h=X7 Tryz.prog G0 dr (Tryz.prog.underlying 3) (pO Tryz.prog h 22 (aev G0 env s) (aev G0 env x)) d os K env:=vH bMk
theorem bWr:((0:Nat):Int)=0:=rfl
theorem aGw {a:AV}:∀ {n:Nat},(List.replicate n [a]).flatten=List.replicate n a
 | 0=>rfl
 | n+1=>by rw [iU,bS,aGw]; rfl
attribute [go_sem] bWs bWr Int.sub_zero aGw List.length_replicate false_and aG
attribute [go_sem ↓] bSl
theorem bRa (n:Nat) (hn:n≤1000000): CT 152 [.e0,.i .i64 n] (.own 1 [] 0):=by
 refine aL mixed Tryz.func152 g0 ?_
 · skip
   (refine zs0 ?_; repeat' first | exact trivial | refine zJ ?_ ?_ | refine zH fun hc=>?_)
   · exfalso; omega
   · rw [if_pos (by omega),if_neg (by omega)]
     refine zg ?_
     exact .inr ⟨⟨rfl,rfl,_,rfl,by simp,by simp,rfl⟩,by simp [bW],by simp [bW,jD]⟩
   · exact .inr ⟨⟨rfl,rfl⟩,by simp [bW],by simp [bW]⟩
theorem aEl {l:List (List Str)} {k:Nat} (h:k < l.length):(l.map avs)[k]? = some (avs (l.getD k [])):=by simp [h]
attribute [go_sem] aEl
def W5 (l:List (List Str)):Nat:=l.flatten.length
@[simp] theorem bSz:W5 []=0:=rfl
theorem B8 {l:List (List Str)} {k:Nat} (h:k < l.length):W5 (l.take (k+1))=W5 (l.take k)+(l.getD k []).length:=by
 rw [fY (d:=[]) h]; simp [W5]
theorem aOi {l:List (List Str)} {k:Nat}:W5 (l.take k)≤W5 l:=by
 have h:(l.take k++l.drop k).flatten.length=l.flatten.length:=by rw [fJ]
 unfold W5
 rw [kX,aE] at h
 omega
theorem aOj {l:List (List Str)} {k:Nat} (h:k < l.length):W5 (l.take k)+(l.getD k []).length≤W5 l:=by
 rw [← B8 h]; exact aOi
theorem bRn (l:List (List Str)) (hl:l.length≤1000) (hs:W5 l≤1000000): CT 94 [.sl (l.map avs) l.length] (.own 1 (l.flatten.map .s) l.flatten.length):=by
 refine aL mixed Tryz.func94 g0 ?_
 · skip
   refine bP (fun (k:Nat)=>[.k,.k,.k,.v (.i .i64 (W5 (l.take k):Nat)),.k,.j,.k,.k,.k,.k,.k,.v (.i .i64 k),.j,.j,.j,.j,.j,.j,.j,.j,.j,.j,.j,.k,.k,.k,.k,.k,.k,.k,.k,.k,.k,.k,.k,.k]) (fun k=>[]) (fun k=>k≤l.length) (fun k=>l.length - k) (0) (aG _) rfl (by simp [eN]) ?_
   rintro k j hk
   have hat:k < l.length→W5 (l.take k)+(l.getD k []).length≤W5 l:=aOj
   have hkk:=aOi (l:=l) (k:=k)
   refine zg ?_
   (refine zs0 ?_; repeat' first | exact trivial | refine zJ ?_ ?_ | refine zH fun hc=>?_)
   · exfalso; omega
   · refine ⟨k+1,by omega,by omega,?_,by simp⟩
     rw [B8 (by omega)]; simp
   · have h1:k=l.length:=by omega
     subst h1
     refine aTq (bRa (W5 l) (by omega)) (by simp -implicitDefEqProofs (disch:=omega) only [aWc,go_sem,simprocAttr]) ?_
     refine zg ?_
     refine bP (fun (t:Nat × AV × List AObj)=>[.k,.k,.k,.k,.k,.k,.v (t.2.1),.k,.j,.k,.k,.k,.k,.k,.k,.k,.k,.k,.k,.k,.k,.k,.k,.k,.k,.k,.k,.v (.i .i64 (t.1:Nat)),.j,.j,.j,.j,.j,.j,.j,.k]) (fun t=>t.2.2) (fun t=>t.1≤l.length∧dV 1 0 t.2.2 t.2.1 ((l.take t.1).flatten.map .s) (W5 (l.take t.1))) (fun t=>l.length - t.1) ((0,.hs 0 0 0 false,[.arr false 1 []])) ⟨aG _,.inr ⟨0,rfl,rfl,rfl⟩⟩ rfl (by simp [eN]) ?_
     rintro ⟨k,out,g⟩ j ⟨hk,ho⟩
     dsimp only at hk ho
     have hat:k < l.length→W5 (l.take k)+(l.getD k []).length≤W5 l:=aOj
     refine zg ?_
     (refine zs0 ?_; repeat' first | exact trivial | refine zJ ?_ ?_ | refine zH fun hc=>?_)
     · refine dU (more:=[]) (pre:=[]) (news:=(l.getD k []).map .s) (m:=(l.getD k []).length) ho rfl (by simp) bIr zo9 sz9 by9 rfl (by decide) (by simp -implicitDefEqProofs (disch:=omega) only [go_sem,simprocAttr]) (by simp -implicitDefEqProofs (disch:=omega) only [go_sem,simprocAttr]) ⟨by omega,by omega⟩ ?_
       intro out' g' ho' _
       refine zg ?_
       refine ⟨(k+1,out',g'),⟨by omega,?_⟩,by simp; omega,rfl,by simp⟩
       dsimp only
       rw [B8 (by omega),fY (d:=[]) (by omega),kX,aV]
       simpa using ho'
     · have h1:k=l.length:=by omega
       subst h1
       rw [jK] at ho
       exact xS (pre:=[]) ho jW
end Go.Proofs.YtifefbhllfdmlaaGreatDoor
namespace Go.Proofs.YtifefbhllfdmlaaGreatDoor
open Go Go.Vo
open Nat (reduceAdd reduceSub reduceMul reduceLeDiff reduceLT reduceEqDiff)
open Int (reduceNeg)

structure Small (s:bZ):Prop where
 sorts:s.sorts.length≤100
 below:s.below.length≤1000
 ops:s.ops.length≤1000
 funs:s.funs.length≤1000
 values:s.values.length≤1000
def keysOf (s:bZ):List Str:=gI++s.sorts
def ups (s:bZ) (a:Str):AV:=avs (climb s.below a)
def V6 (s:bZ):AV:=.mapv ((keysOf s).map .s) ((keysOf s).map (ups s))
def aXg (l:List LOp):AV:=.mapv ((l.map LOp.name).map .s) (l.map elO)
def mE (s:bZ):List AV:=aO s++[V6 s,aXg s.ops,aXg s.funs]
def cX (s:bZ):AV:=.box (mE s) 0
structure W2 (s:bZ):Prop where
 keys:(keysOf s).Nodup
 ops:(s.ops.map LOp.name).Nodup
 funs:(s.funs.map LOp.name).Nodup

theorem D3 {s:bZ}:∀ {l:List Str},persL (l.map (ups s))=true
 | []=>rfl
 | x::l=>by simp only [aT,persL,ups,vM,D3,dY]
theorem D4:∀ {l:List LOp},persL (l.map elO)=true
 | []=>rfl
 | x::l=>by simp [elO,persL,pers,bK,avs,avi,avb,jW,eP,iR,D4]
attribute [go_sem] D3 D4
theorem aBz (s:bZ) (hs:Small s) (hd:W2 s): CT 48 [.agg (aO s)] (cX s):=by
 refine aL mixed Tryz.func48 g0 ?_
 · skip
   have h1:=hs.sorts
   have h2:=hs.below
   have h3:=hs.ops
   have h4:=hs.funs
   (repeat' (first | refine gT ?_ ?_ | refine gF ?_ ?_ | refine gC ?_ ?_ | (refine cE (bOc) ?_; simp -implicitDefEqProofs (disch:=omega) only [go_sem,simprocAttr]) | refine bB (by omega) ?_ | (intro hr; have hc:=hr; (try simp only [zdz] at hc); simp -implicitDefEqProofs (disch:=omega) only [hr,go_sem,simprocAttr]; (try clear hr))))
   refine bF (bRn [gI,s.sorts] (by simp) ?_) ?_ ?_
   · simp [W5,gI]; omega
   · simp -implicitDefEqProofs (disch:=omega) only [gI,go_sem,simprocAttr]
   · simp -implicitDefEqProofs (disch:=omega) only [go_sem,simprocAttr]
     have hK:[gI,s.sorts].flatten=keysOf s:=by simp [keysOf]
     have hKl:(keysOf s).length≤107:=by simp [keysOf,gI]; omega
     rw [hK]
     refine eE (fun (k:Nat)=>[.k,.k,.k,.k,.k,.j,.k,.k,.k,.k,.k,.k,.k,.k,.k,.k,.k,.k,.k,.k,.k,.k,.v (.i .i64 k),.j,.j,.j,.j,.j,.j,.j,.j,.j,.j,.j,.j,.k,.k,.k,.k,.k,.k,.k,.k,.k,.k,.k,.k,.k,.k,.k,.k,.k,.k,.k,.k,.k,.k,.k,.k,.k,.k,.k,.k,.k,.k,.k]) (fun k=>[.box false [.sl (s.sorts.map .s) s.sorts.length,.sl (s.below.flatMap cD) s.below.length,.sl (s.ops.flatMap bK) s.ops.length,.sl (s.funs.flatMap bK) s.funs.length,.sl (s.values.map .s) s.values.length],.map false (((keysOf s).take k).map .s) (((keysOf s).take k).map (ups s)),.map false [] [],.map false [] [],.box false [.sl (s.sorts.map .s) s.sorts.length,.sl (s.below.flatMap cD) s.below.length,.sl (s.ops.flatMap bK) s.ops.length,.sl (s.funs.flatMap bK) s.funs.length,.sl (s.values.map .s) s.values.length,.mp 1,.mp 2,.mp 3],.arr false 1 (gI.map .s),.arr false 1 [.hs 5 0 gI.length false,.sl (s.sorts.map .s) s.sorts.length],.arr false 1 ((keysOf s).map .s)]) (fun k=>k≤(keysOf s).length) (fun k=>(keysOf s).length - k) (0) _ (aG _) rfl (by simp [eN]) ?_
     rintro k g j hk
     simp -implicitDefEqProofs (disch:=omega) only [go_sem,simprocAttr]
     (repeat' (first | refine gT ?_ ?_ | refine gF ?_ ?_ | refine gC ?_ ?_ | refine bB (by omega) ?_ | (intro hr; have hc:=hr; (try simp only [zdz] at hc); simp -implicitDefEqProofs (disch:=omega) only [hr,go_sem,simprocAttr]; (try clear hr))))
     · refine bF (bRm s ((keysOf s).getD k []) (by omega)) ?_ ?_
       · simp -implicitDefEqProofs (disch:=omega) only [go_sem,simprocAttr]
       · have hno:=nH (nE (d:=[]) hd.keys (show k < (keysOf s).length by omega))
         simp -implicitDefEqProofs (disch:=omega) only [kM,aBf,hno,go_sem,simprocAttr]
         refine ⟨k+1,_,by omega,by omega,congr (congrArg List.cons rfl) (congr (congrArg List.cons ?_) rfl),by simp⟩
         rw [fY (d:=[]) (by omega),aV,aV]; rfl
     · have hk2:k=(keysOf s).length:=by omega
       subst hk2
       refine eE (fun (k:Nat)=>[.k,.k,.k,.k,.k,.k,.k,.j,.k,.k,.k,.k,.k,.k,.k,.k,.k,.k,.k,.k,.k,.k,.k,.k,.k,.k,.k,.k,.k,.k,.k,.k,.k,.k,.k,.k,.k,.k,.v (.i .i64 k),.j,.j,.j,.j,.j,.j,.j,.j,.j,.j,.j,.k,.k,.k,.k,.k,.k,.k,.k,.k,.k,.k,.k,.k,.k,.k,.k]) (fun k=>[.box false [.sl (s.sorts.map .s) s.sorts.length,.sl (s.below.flatMap cD) s.below.length,.sl (s.ops.flatMap bK) s.ops.length,.sl (s.funs.flatMap bK) s.funs.length,.sl (s.values.map .s) s.values.length],.map false ((keysOf s).map .s) ((keysOf s).map (ups s)),.map false (((s.ops.take k).map LOp.name).map .s) ((s.ops.take k).map elO),.map false [] [],.box false [.sl (s.sorts.map .s) s.sorts.length,.sl (s.below.flatMap cD) s.below.length,.sl (s.ops.flatMap bK) s.ops.length,.sl (s.funs.flatMap bK) s.funs.length,.sl (s.values.map .s) s.values.length,.mp 1,.mp 2,.mp 3],.arr false 1 (gI.map .s),.arr false 1 [.hs 5 0 gI.length false,.sl (s.sorts.map .s) s.sorts.length],.arr false 1 ((keysOf s).map .s)]) (fun k=>k≤s.ops.length) (fun k=>s.ops.length - k) (0) _ (aG _) rfl (by simp [eN]) ?_
       rintro k g j hk
       simp -implicitDefEqProofs (disch:=omega) only [go_sem,simprocAttr]
       (repeat' (first | refine gT ?_ ?_ | refine gF ?_ ?_ | refine gC ?_ ?_ | refine bB (by omega) ?_ | (intro hr; have hc:=hr; (try simp only [zdz] at hc); simp -implicitDefEqProofs (disch:=omega) only [hr,go_sem,simprocAttr]; (try clear hr))))
       · have hkn:(s.ops.getD k default).name=(s.ops.map LOp.name).getD k []:=by simp [List.getD,show k < s.ops.length by omega]
         have hno:=nH (nE (d:=[]) hd.ops (show k < (s.ops.map LOp.name).length by simp; omega))
         rw [← hkn,← List.map_take] at hno
         simp -implicitDefEqProofs (disch:=omega) only [kM,aBf,hno,go_sem,simprocAttr]
         refine ⟨k+1,_,by omega,by omega,congr (congrArg List.cons rfl) (congr (congrArg List.cons rfl) (congr (congrArg List.cons ?_) rfl)),by simp⟩
         rw [fY (d:=default) (by omega),aV,aV,aV]; rfl
       · have hk2:k=s.ops.length:=by omega
         subst hk2
         refine eE (fun (k:Nat)=>[.k,.k,.k,.k,.k,.k,.k,.k,.k,.j,.k,.k,.k,.k,.k,.k,.k,.k,.k,.k,.k,.k,.k,.k,.k,.k,.k,.k,.k,.k,.k,.k,.k,.k,.k,.k,.k,.k,.k,.k,.k,.k,.k,.k,.k,.k,.k,.k,.k,.k,.k,.k,.k,.v (.i .i64 k),.j,.j,.j,.j,.j,.j,.j,.j,.j,.j,.j,.k]) (fun k=>[.box false [.sl (s.sorts.map .s) s.sorts.length,.sl (s.below.flatMap cD) s.below.length,.sl (s.ops.flatMap bK) s.ops.length,.sl (s.funs.flatMap bK) s.funs.length,.sl (s.values.map .s) s.values.length],.map false ((keysOf s).map .s) ((keysOf s).map (ups s)),.map false ((s.ops.map LOp.name).map .s) (s.ops.map elO),.map false (((s.funs.take k).map LOp.name).map .s) ((s.funs.take k).map elO),.box false [.sl (s.sorts.map .s) s.sorts.length,.sl (s.below.flatMap cD) s.below.length,.sl (s.ops.flatMap bK) s.ops.length,.sl (s.funs.flatMap bK) s.funs.length,.sl (s.values.map .s) s.values.length,.mp 1,.mp 2,.mp 3],.arr false 1 (gI.map .s),.arr false 1 [.hs 5 0 gI.length false,.sl (s.sorts.map .s) s.sorts.length],.arr false 1 ((keysOf s).map .s)]) (fun k=>k≤s.funs.length) (fun k=>s.funs.length - k) (0) _ (aG _) rfl (by simp [eN]) ?_
         rintro k g j hk
         simp -implicitDefEqProofs (disch:=omega) only [go_sem,simprocAttr]
         (repeat' (first | refine gT ?_ ?_ | refine gF ?_ ?_ | refine gC ?_ ?_ | refine bB (by omega) ?_ | (intro hr; have hc:=hr; (try simp only [zdz] at hc); simp -implicitDefEqProofs (disch:=omega) only [hr,go_sem,simprocAttr]; (try clear hr))))
         · have hkn:(s.funs.getD k default).name=(s.funs.map LOp.name).getD k []:=by simp [List.getD,show k < s.funs.length by omega]
           have hno:=nH (nE (d:=[]) hd.funs (show k < (s.funs.map LOp.name).length by simp; omega))
           rw [← hkn,← List.map_take] at hno
           simp -implicitDefEqProofs (disch:=omega) only [kM,aBf,hno,go_sem,simprocAttr]
           refine ⟨k+1,_,by omega,by omega,congr (congrArg List.cons rfl) (congr (congrArg List.cons rfl) (congr (congrArg List.cons rfl) (congr (congrArg List.cons ?_) rfl))),by simp⟩
           rw [fY (d:=default) (by omega),aV,aV,aV]; rfl
         · refine .inr ⟨?_,by simp [bW,cX],by simp [bW,cX]⟩
           simp only [cX,lD]
           simp -implicitDefEqProofs (disch:=omega) only [mE,V6,aXg,go_sem,simprocAttr]
end Go.Proofs.YtifefbhllfdmlaaGreatDoor
namespace Go.Proofs.YtifefbhllfdmlaaGreatDoor
open Go Go.Vo
open Nat (reduceAdd reduceSub reduceMul reduceLeDiff reduceLT reduceEqDiff)
open Int (reduceNeg)

theorem tO {l:List (Str × Str)} {a x:Str}:∀ (m:List (Str × Str)) (L:List Str),(∀ b ∈ m,b ∈ l)→Climbs l a L→Climbs l a (oG m x L)
 | [],L,_,h=>h
 | b::m,L,hm,h=>tO m _ (fun c hc=>hm c (by simp [hc])) (h.step (hm b (by simp)))
theorem wP {l:List (Str × Str)} {a:Str}:∀ (f i:Nat) (L:List Str),Climbs l a L→Climbs l a (climbG l f i L)
 | 0,i,L,h=>h
 | f+1,i,L,h=>by
   simp only [climbG]
   split
   · exact wP f _ _ (tO l L (fun _ h=>h) h)
   · exact h
theorem aCc (l:List (Str × Str)) (a:Str):Climbs l a (climb l a):=wP _ _ _ ⟨by simp,by simp,by simp⟩
theorem wO (l:List (Str × Str)) (a:Str):(climb l a).length≤l.length+1:=(aCc l a).len

theorem R9 {l:List Str} {x:Str} (h:l.contains x=true):∃ i,(l.findIdx? fun y=>decide (x=y))=some i∧∀ {β:Type} (f:Str→β),(l.map f)[i]? = some (f x):=by
 cases hf:l.findIdx? fun y=>decide (x=y) with
 | none=>
   rw [eV] at hf
   have hm:x ∈ l:=by simpa using h
   have:=hf x hm
   simp at this
 | some i=>
   rw [fD] at hf
   obtain ⟨hi,hx,_⟩:=hf
   have hx:x=l[i]:=by simpa using hx
   exact ⟨i,rfl,fun f=>by simp [hi,← hx]⟩
attribute [go_sem] kM aBf
theorem aTx {s:bZ}:(mE s)[0]? = some (avs s.sorts):=rfl
theorem aTw {s:bZ}:(mE s)[5]? = some (.mapv ((keysOf s).map .s) ((keysOf s).map (ups s))):=rfl
theorem aTv {s:bZ}:(mE s)[6]? = some (.mapv ((s.ops.map LOp.name).map .s) (s.ops.map elO)):=rfl
theorem aTu {s:bZ}:(mE s)[7]? = some (.mapv ((s.funs.map LOp.name).map .s) (s.funs.map elO)):=rfl
attribute [go_sem] cX aTx aTw aTv aTu
def existsA (s:bZ) (a:Str):Bool:=(keysOf s).contains a
theorem vL {s:bZ}:pers (cX s)=true:=by
 simp only [cX,mE,pers,persL,aO,avs,avb,avo,bR,cH,jW,iR,R0,V6,aXg,D3,D4,dY]
theorem aLj {s:bZ}:persL (mE s)=true:=by
 have:=vL (s:=s)
 simpa [cX,pers] using this
attribute [go_sem] aLj
theorem T5 (s:bZ) (x:Str): CT 90 [cX s,.s x] (.b (existsA s x)):=by
 refine aL mixed Tryz.func90 g0 ?_
 · skip
   by_cases hx:(keysOf s).contains x=true
   · obtain ⟨i,hf,hv⟩:=R9 hx
     simp -implicitDefEqProofs (disch:=omega) only [hf,hv,go_sem,simprocAttr]
     exact aF (by rw [existsA,hx]) rfl
   · have hx:=gE.2 hx
     refine zh (sY hx) ?_
     exact aF (by rw [existsA,hx]) rfl
def pP:Str:=[65,110,121]
def aCt (s:bZ) (x:Str):List Str:=if existsA s x then climb s.below x else []
def rE (s:bZ) (x y:Str):Bool:=decide (y=pP) || (aCt s x).contains y
theorem aZh (s:bZ) (x y:Str) (hs:Small s): CT 158 [cX s,.s x,.s y] (.b (rE s x y)):=by
 refine aL mixed Tryz.func158 g0 ?_
 · skip
   have hl:=wO s.below x
   have h2:=hs.below
   by_cases hx:(keysOf s).contains x=true
   · obtain ⟨i,hf,hv⟩:=R9 hx
     (repeat' (first | refine gT ?_ ?_ | refine gF ?_ ?_ | refine gC ?_ ?_ | (refine cE (K7 (climb s.below x) y (by omega)) ?_; simp -implicitDefEqProofs (disch:=omega) only [hf,hv,ups,go_sem,simprocAttr]) | refine bB (by omega) ?_ | (intro hr; have hc:=hr; (try simp only [zdz] at hc); simp -implicitDefEqProofs (disch:=omega) only [hr,hf,hv,ups,go_sem,simprocAttr]; (try clear hr))))
     all_goals (refine aF ?_ (by rfl))
     all_goals simp_all [rE,aCt,existsA,pP]
   · have hx:=gE.2 hx
     (refine zx1 (sY hx) (K7 [] y (by simp)) ?_; repeat' first | exact trivial | refine zJ ?_ ?_ | refine zH fun hc=>?_)
     all_goals (refine aF ?_ (by rfl))
     all_goals simp_all [rE,aCt,existsA,pP]
def aLq (s:bZ) (x y:Str):Bool:=rE s x y || rE s y x
theorem bWc (s:bZ) (x y:Str) (hs:Small s): CT 186 [cX s,.s x,.s y] (.b (aLq s x y)):=by
 refine aL mixed Tryz.func186 g0 ?_
 · skip
   (refine zs2 (aZh s x y hs) (aZh s y x hs) ?_; repeat' first | exact trivial | refine zJ ?_ ?_ | refine zH fun hc=>?_)
   all_goals (refine aF ?_ (by rfl))
   all_goals simp_all [aLq]
end Go.Proofs.YtifefbhllfdmlaaGreatDoor
namespace Go.Proofs.YtifefbhllfdmlaaGreatDoor
open Go Go.Vo
open Nat (reduceAdd reduceSub reduceMul reduceLeDiff reduceLT reduceEqDiff)
open Int (reduceNeg)

def aEw (s:Str) (c:Int):Int:=Lib.indexByte s c.toNat.toUInt8
def aJi:Str:=[97,100,100,32,115,117,98,32,109,117,108,32,100,105,118,32,109,111,100,32,110,101,103,32,108,116,32,108,101,32,103,116,32,103,101,32,101,113,32,110,101,32,97,110,100,32,111,114,32,110,111,116,32,112,105,99,107,32,99,97,116,32,108,101,110,103,116,104,32,116,101,120,116,32,106,111,105,110,32,103,101,116,32,112,117,116,32,104,97,115,32,100,101,108,32,107,101,121,115,32,115,105,122,101,32,105,115,32,105,115,118,97,108,117,101]
def H6:List Str:=Lib.fields aJi

theorem bXj {X:Ctx} {w:World} {h:List AObj} {l:Str} {v:Value} (r:RV X w h (.s l) v):v=.string ⟨l.toArray⟩:=by
 cases r with
 | s=>rfl
 | dead hr _ _=>simp [AV.refs] at hr
theorem bLg {vs:Array Value} (h:2=vs.size):∃ a b,vs = #[a,b]:=by
 match vs,h with
 | ⟨[a,b]⟩,_=>exact ⟨a,b,rfl⟩
theorem bCl {vs:Array Value} (h:1=vs.size):∃ a,vs = #[a]:=by
 match vs,h with
 | ⟨[a]⟩,_=>exact ⟨a,rfl⟩

theorem bQr (s:Str) (c:Int):CT 232 [.s s,.i .u8 c] (.i .i64 (aEw s c)):=by
 refine ⟨by kernel_rfl,g0,?_⟩
 intro F w vs hF hgl hl hr
 obtain ⟨v0,v1,rfl⟩:=bLg hl
 have h0:=bXj (hr 0 _ v0 rfl rfl)
 have h1:=tS (hr 1 _ v1 rfl rfl)
 subst h0 h1
 refine (Tryz.strings_IndexByte ⟨s.toArray⟩ c w).mono ?_
 rintro e w' ⟨rfl,rfl⟩
 exact ⟨_,F,[],rfl,.refl _,fun _ h=>h,fun _ h=>.inl h,hF,RR.val (.i _ _),cR,by simp⟩

theorem bAp {F:Nat→Prop} {w:World} {g:Nat} {cells:List AV} (r:RV (.none F) w [] (.box cells 0) (.pointer (some ⟨g,0,Option.none⟩))) {j:Nat} {k:IntKind} {n:Int} (h:cells[j]? = some (.i k n)):w.cell? ⟨g,j,none⟩=some (.int k n):=by
 generalize hv:Value.pointer (some ⟨g,0,Option.none⟩)=v at r
 cases r with
 | @box _ _ b o cs T fr hF hb hl h1 hr=>
   simp only [Value.pointer.injEq,aB,Addr.mk.injEq,and_true] at hv
   obtain ⟨rfl,h0⟩:=hv
   have ho:o=0:=by omega
   subst ho
   have hj:=aQ h
   have hc:cs[0+j]? = some cs[0+j]:=cC (by omega)
   have:=tS (hr j _ _ h hc)
   simp only [cM] at this hc
   simp [World.cell?,hb,hc,this]
 | dead hr hd _=>simp [AV.refs] at hr
theorem aMy {F:Nat→Prop} {w:World} (hgl:∀ k a,G0 k=some a→GRel (.none F) w [] k a) (c:Nat) (hc:c < 256):w.cell? ⟨0,c,none⟩=some (.int .u8 (if Lib.isSp (UInt8.ofNat c) then 1 else 0)):=by
 have r:=(hgl 0 (.box xY 0) rfl).1
 refine bAp r ?_
 have h:=Lib.asciiSpaceTab_at c hc
 have hl:=Lib.asciiSpaceTab_length
 rw [← h]
 exact aBa (by omega)
theorem bWa (s:Str) (hs:s.length≤4000000000) (ha:s.all (fun b=>decide (b.toNat < 128))=true):CT 196 [.s s] (.own 1 ((Lib.fields s).map .s) (Lib.fields s).length):=by
 refine ⟨by kernel_rfl,g0,?_⟩
 intro F w vs hF hgl hl hr
 obtain ⟨v0,rfl⟩:=bCl hl
 have h0:=bXj (hr 0 _ v0 rfl rfl)
 subst h0
 refine (Any.strings_Fields_core Tryz.lays157 (by kernel_rfl) ⟨s.toArray⟩ w (by simp [ByteArray.size]; omega) (fun j b hj=>?_) (fun c hc=>aMy hgl c hc)).mono ?_
 · have hm:=cP hj
   have:=aN.1 ha b hm
   simpa using this
 · rintro e w' ⟨rfl,rfl⟩
   refine ⟨_,F,[w.heap.size],rfl,(gO.alloc _ _).grew,fun _ h=>h,fun _ h=>.inl h,fun b hb=>fC (hF b hb) (gO.alloc w _).grew.size,?_,by simp,?_⟩
   · refine .inl ⟨w.heap.size,0,_,_,(Lib.fields s).length,rfl,rfl,(gO.alloc _ _).at,by simp,aZ _,by simp,?_,?_⟩
     · intro j v hj hv
       simp at hv
       obtain ⟨x,_,rfl⟩:=hv
       rfl
     · intro j a v ha hv
       simp at ha hv
       obtain ⟨x,h1,rfl⟩:=ha
       obtain ⟨y,h2,rfl⟩:=hv
       rw [h1] at h2; cases h2
       exact .s _
   · intro b hb
     simp only [aS] at hb
     subst hb
     refine ⟨fun f=>?_,aZ _⟩
     have:=hF _ f; omega

end Go.Proofs.YtifefbhllfdmlaaGreatDoor
namespace Go.Proofs.YtifefbhllfdmlaaGreatDoor
open Go Go.Vo
open Nat (reduceAdd reduceSub reduceMul reduceLeDiff reduceLT reduceEqDiff)
open Int (reduceNeg)

theorem aMp:H6.length=28:=by decide +kernel
theorem bAo (s:Str):H6.contains s=iJ.contains s:=by
 have h1:H6.all (fun x=>iJ.contains x)=true:=by decide +kernel
 have h2:iJ.all (fun x=>H6.contains x)=true:=by decide +kernel
 rw [cI]
 simp only [aN] at h1 h2
 exact ⟨fun h=>h1 s (by simpa using h),fun h=>h2 s (by simpa using h)⟩
theorem bNq:CT 196 [.s [97,100,100,32,115,117,98,32,109,117,108,32,100,105,118,32,109,111,100,32,110,101,103,32,108,116,32,108,101,32,103,116,32,103,101,32,101,113,32,110,101,32,97,110,100,32,111,114,32,110,111,116,32,112,105,99,107,32,99,97,116,32,108,101,110,103,116,104,32,116,101,120,116,32,106,111,105,110,32,103,101,116,32,112,117,116,32,104,97,115,32,100,101,108,32,107,101,121,115,32,115,105,122,101,32,105,115,32,105,115,118,97,108,117,101]] (.own 1 (H6.map .s) H6.length):=bWa aJi (by decide) (by decide +kernel)
theorem bIy (s:Str): CT 147 [.s s] (.b (iJ.contains s)):=by
 refine aL mixed Tryz.func147 g0 ?_
 · skip
   refine bF bNq (by rfl) ?_
   refine zg ?_
   (refine zs1 (K7 H6 s (by rw [aMp]; omega)) ?_; repeat' first | exact trivial | refine zJ ?_ ?_ | refine zH fun hc=>?_)
   refine aF ?_ (by rfl)
   rw [bAo]

def qL (s:bZ) (x:Str × Str):Bool:=decide (x.1 ≠ pP) && existsA s x.1 && s.sorts.contains x.2 && !(aCt s x.2).contains x.1
theorem bWj (s:bZ) (x:Str × Str) (hs:Small s): CT 89 [cX s,elB x] (.b (qL s x)):=by
 refine aL mixed Tryz.func89 g0 ?_
 · skip
   have hl:=wO s.below x.2
   have h2:=hs.below
   have h1:=hs.sorts
   by_cases hx:(keysOf s).contains x.2=true
   · obtain ⟨i,hf,hv⟩:=R9 hx
     (repeat' (first | refine gT ?_ ?_ | refine gF ?_ ?_ | refine gC ?_ ?_ | ((first | (refine bF (T5 s x.1) ?_ ?_; (focus (simp -implicitDefEqProofs (disch:=omega) only [hf,hv,ups,zdA,go_sem,simprocAttr]; done))) | (refine bF (K7 s.sorts x.2 (by omega)) ?_ ?_; (focus (simp -implicitDefEqProofs (disch:=omega) only [hf,hv,ups,zdA,go_sem,simprocAttr]; done))) | (refine bF (K7 (climb s.below x.2) x.1 (by omega)) ?_ ?_; (focus (simp -implicitDefEqProofs (disch:=omega) only [hf,hv,ups,zdA,go_sem,simprocAttr]; done)))); simp -implicitDefEqProofs (disch:=omega) only [hf,hv,ups,go_sem,simprocAttr]) | refine bB (by omega) ?_ | (intro hr; have hc:=hr; (try simp only [zdz] at hc); simp -implicitDefEqProofs (disch:=omega) only [hr,hf,hv,ups,go_sem,simprocAttr]; (try clear hr))))
     all_goals (refine aF ?_ (by rfl))
     all_goals (simp_all [qL,aCt,existsA,pP])
   · have hx:=gE.2 hx
     (refine zx3 (sY hx) (T5 s x.1) (K7 s.sorts x.2) (K7 [] x.1 (by simp)) ?_; repeat' first | exact trivial | refine zJ ?_ ?_ | refine zH fun hc=>?_)
     all_goals (refine aF ?_ (by rfl))
     all_goals (simp_all [qL,aCt,existsA,pP])
end Go.Proofs.YtifefbhllfdmlaaGreatDoor
namespace Go.Proofs.YtifefbhllfdmlaaGreatDoor
open Go Go.Vo
open Nat (reduceAdd reduceSub reduceMul reduceLeDiff reduceLT reduceEqDiff)
open Int (reduceNeg)

def mL (n:Int):Bool := !(decide (n < 33) || decide (126 < n) || part n || (decide (n=34) || decide (n=39) || decide (n=92)))
def wB (s:Str):Bool:=decide (1≤s.length) && decide (s.length≤20) && s.all fun c=>mL c.toNat
theorem aJn (s:Str) (k:Nat):0≤at_ s k∧at_ s k < 256:=by
 unfold at_
 have:=(s.getD k 0).toNat_lt
 omega
theorem cBg (s:Str) (k:Nat):decide (0≤aEw [34,39,92] (at_ s k))=(decide (at_ s k=34) || decide (at_ s k=39) || decide (at_ s k=92)):=by
 have h:∀ n:Nat,n < 256→decide (0≤aEw [34,39,92] (n:Int))=(decide ((n:Int)=34) || decide ((n:Int)=39) || decide ((n:Int)=92)):=by decide +kernel
 exact h _ (s.getD k 0).toNat_lt
theorem bQv (s:Str) (hs:s.length≤140737488355328): CT 198 [.s s] (.b (wB s)):=by
 refine aL mixed Tryz.func198 g0 ?_
 · skip
   (refine zs0 ?_; repeat' first | exact trivial | refine zJ ?_ ?_ | refine zH fun hc=>?_)
   any_goals (refine aF ?_ (by rfl); simp_all [wB] <;> omega)
   refine bP (fun (k:Nat)=>[.k,.k,.j,.j,.j,.k,.k,.k,.k,.k,.k,.k,.k,.k,.v (.i .i64 k),.j,.j,.j,.j,.j,.j,.j,.j,.j,.j,.j,.j,.j,.j,.j,.j,.j,.j,.j,.j,.j]) (fun k=>[]) (fun k=>k≤s.length∧∀ j,j < k→mL (at_ s j)=true) (fun k=>s.length - k) (0) ⟨aG _,fun j h=>by omega⟩ rfl (by simp [eN]) ?_
   rintro k j ⟨hk,ha⟩
   have hr:=aJn s k
   have h3:=cBg s k
   simp only [at_] at h3 hr
   refine zg ?_
   (refine zx2 h3 bNo (bQr [34,39,92] ((s.getD k 0).toNat:Int)) ?_; repeat' first | exact trivial | refine zJ ?_ ?_ | refine zH fun hc=>?_)
   · refine aF ?_ (by rfl)
     have h4:=h3.symm.trans (zt hc)
     rw [wB,lM (j:=k) (by omega) (by simp only [mL,at_,h4,dE,Bool.not_true]),Bool.and_false]
   · have h4:=h3.symm.trans (zf hc)
     exact ⟨k+1,⟨by omega,bD ha (by simp only [mL,at_,h4,cG]; simp_all)⟩,by omega,by simp⟩
   · refine aF ?_ (by rfl)
     rw [wB,lM (j:=k) (by omega) (by simp only [mL,at_,hc,dE,dD,Bool.not_true]),Bool.and_false]
   · refine aF ?_ (by rfl)
     rw [wB,lM (j:=k) (by omega) (by simp only [mL,at_,hc,decide_true,dE,dD,Bool.not_true]),Bool.and_false]
   · refine aF ?_ (by rfl)
     rw [wB,lM (j:=k) (by omega) (by simp only [mL,at_,hc,decide_true,dE,dD,Bool.not_true]),Bool.and_false]
   · refine aF ?_ (by rfl)
     have h1:k=s.length:=by omega
     rw [wB,aJw (h1 ▸ ha)]
     simp; omega

def nC (t:Str):Bool:=wB t || dN t && decide (t.length≤20)
def pA (p:Str × Str):Bool:=decide (decide (p.2=[])=nC p.1) && !(!decide (p.2=[]) && !decide (p.1=[]))
def nJ (l:List (Str × Str)):List Str:=(l.filter fun p => !decide (p.2=[])).map (·.2)
def pX (o:LOp):Bool:=o.pieces.isEmpty || (o.pieces.all pA && decide (o.pieces.length≤20) && decide (nJ o.pieces=o.args))
theorem nI {l:List (Str × Str)} {k:Nat} (h:k < l.length):nJ (l.take (k+1))=nJ (l.take k)++(if (l.getD k ([],[])).2=[] then [] else [(l.getD k ([],[])).2]):=by
 rw [fY (d:=([],[])) h]
 simp only [nJ,qX,aV]
 congr 1
 by_cases h2:(l.getD k ([],[])).2=[]
 · rw [if_pos h2,List.filter_cons_of_neg (by simp only [h2]; decide)]; rfl
 · rw [if_neg h2,List.filter_cons_of_pos (by simp only [h2]; decide)]; rfl
theorem tC {l:List (Str × Str)}:(nJ l).length≤l.length:=by
 unfold nJ; rw [eH]; exact fK _ _
theorem mT {n:Nat}:((n:Int)≤20)↔n≤20:=by omega
theorem aKu {o:LOp} {k:Nat} (hk:k < o.pieces.length) (h:pA (o.pieces.getD k ([],[]))=false):pX o=false:=by
 have h1:o.pieces.all pA=false:=fH hk h
 have h2:o.pieces ≠ []:=fun e=>by simp [e] at hk
 simp [pX,h1,h2]
theorem bRe (o:LOp) (ho:OkO o): CT 151 [elO o] (.b (pX o)):=by
 refine aL mixed Tryz.func151 g0 ?_
 · skip
   have hp:=ho.piecesT
   have hx:=ho.args
   (refine zs0 ?_; repeat' first | exact trivial | refine zJ ?_ ?_ | refine zH fun hc=>?_)
   · refine aF ?_ (by rfl)
     have:o.pieces=[]:=List.eq_nil_of_length_eq_zero (by omega)
     simp [pX,this]
   · refine bP (fun (s:Nat × AV × List AObj)=>[.k,.k,.j,.v (s.2.1),.k,.j,.j,.k,.k,.k,.k,.k,.k,.k,.v (.i .i64 (s.1:Nat)),.j,.j,.j,.j,.j,.j,.j,.j,.j,.j,.j,.j,.j,.j,.j,.j,.j,.j,.j,.j,.j,.j,.j,.j,.j,.j,.j,.j,.j,.j,.j,.j,.j,.j,.j,.j,.j,.j,.j,.j,.j,.k,.k,.k,.k,.k,.k,.k,.k,.k,.k]) (fun s=>.box false (bK o)::s.2.2) (fun s=>s.1≤o.pieces.length∧(∀ j,j < s.1→pA (o.pieces.getD j ([],[]))=true)∧dV 1 1 s.2.2 s.2.1 ((nJ (o.pieces.take s.1)).map .s) (nJ (o.pieces.take s.1)).length) (fun s=>o.pieces.length - s.1) ((0,.e0,[])) ⟨aG _,fun j h=>by simp at h,jC⟩ rfl (by simp [eN]) ?_
     rintro ⟨k,out,g⟩ j ⟨hk,ha,ho2⟩
     dsimp only at hk ha ho2
     have hpl:k < o.pieces.length→(o.pieces.getD k ([],[])).1.length≤140737488355328:=fun h=>(ho.piecesS _ (aU h)).1
     have hal:=tC (l:=o.pieces.take k)
     rw [dS] at hal
     refine zg ?_
     (repeat' (first | refine gT ?_ ?_ | refine gF ?_ ?_ | refine gC ?_ ?_ | ((first | (refine bF (bQv (o.pieces.getD k ([],[])).1 (hpl (by omega))) ?_ ?_; (focus (simp -implicitDefEqProofs (disch:=omega) only [zdA,go_sem,simprocAttr]; done))) | (refine bF (T8 (o.pieces.getD k ([],[])).1 (hpl (by omega))) ?_ ?_; (focus (simp -implicitDefEqProofs (disch:=omega) only [zdA,go_sem,simprocAttr]; done)))); simp -implicitDefEqProofs (disch:=omega) only [go_sem,simprocAttr]) | refine bB (by omega) ?_ | (intro hr; have hc:=hr; (try simp only [zdz] at hc); simp -implicitDefEqProofs (disch:=omega) only [hr,go_sem,simprocAttr]; (try clear hr))))
     all_goals first | (exfalso; omega) | skip
     all_goals first | (refine aF ?_ (by rfl); rw [aKu (k:=k) (by omega) (by simp_all [pA,nC,List.length_eq_zero_iff,mT])]; done) | skip
     all_goals first | (refine ⟨(k+1,out,_),⟨by omega,bD ha (by simp_all [pA,nC,List.length_eq_zero_iff,mT]),?_⟩,by simp; omega,rfl,rfl,by simp⟩; dsimp only; rw [nI (by omega),if_pos (List.eq_nil_of_length_eq_zero (by assumption)),List.append_nil]; exact ho2.more _) | skip
     · refine dU (pre:=[_]) (news:=[.s (o.pieces.getD k ([],[])).2]) (m:=1) ho2 rfl rfl bIr zo9 sz9 by9 rfl (by decide) (by simp -implicitDefEqProofs (disch:=omega) only [go_sem,simprocAttr]) (by simp -implicitDefEqProofs (disch:=omega) only [go_sem,simprocAttr]) ⟨by omega,by omega⟩ ?_
       intro out' g' ho' _
       refine zg ?_
       refine ⟨(k+1,out',g'),⟨by omega,bD ha (by simp_all [pA,nC,List.length_eq_zero_iff,mT]),?_⟩,by simp; omega,rfl,by simp⟩
       dsimp only
       rw [nI (by omega),if_neg (by rw [← List.length_eq_zero_iff]; assumption),aV,aE]
       exact ho'
     · refine dU (pre:=[_]) (news:=[.s (o.pieces.getD k ([],[])).2]) (m:=1) ho2 rfl rfl bIr zo9 sz9 by9 rfl (by decide) (by simp -implicitDefEqProofs (disch:=omega) only [go_sem,simprocAttr]) (by simp -implicitDefEqProofs (disch:=omega) only [go_sem,simprocAttr]) ⟨by omega,by omega⟩ ?_
       intro out' g' ho' _
       refine zg ?_
       refine ⟨(k+1,out',g'),⟨by omega,bD ha (by simp_all [pA,nC,List.length_eq_zero_iff,mT]),?_⟩,by simp; omega,rfl,by simp⟩
       dsimp only
       rw [nI (by omega),if_neg (by rw [← List.length_eq_zero_iff]; assumption),aV,aE]
       exact ho'
     · have hk2:k=o.pieces.length:=by omega
       have hne:o.pieces ≠ []:=fun e=>by simp_all
       have hemp:o.pieces.isEmpty=false:=by simpa using hne
       have hall:o.pieces.all pA=true:=kC (d:=([],[])) (fun j hj=>ha j (by omega))
       rw [aH (by omega)] at ho2
       have hal:=tC (l:=o.pieces)
       rcases ho2 with ⟨rfl,hnil,_⟩ | ⟨i0,rfl,hg,_⟩
       · have hnil:nJ o.pieces=[]:=by simpa using hnil
         (refine zs1 (bNr [] o.args (by simp) hx) ?_; repeat' first | exact trivial | refine zJ ?_ ?_ | refine zH fun hc=>?_)
         refine aF ?_ (by rfl)
         rw [pX,hemp,hall,hnil,zt (mT.1 hc)]; simp
       · (refine zx1 hg (bNr (nJ o.pieces) o.args (by omega) hx) ?_; repeat' first | exact trivial | refine zJ ?_ ?_ | refine zH fun hc=>?_)
         refine aF ?_ (by rfl)
         rw [pX,hemp,hall,zt (mT.1 hc)]; simp
     · refine aF ?_ (by rfl)
       have hne:o.pieces ≠ []:=fun e=>by simp_all
       simp_all [pX,mT]
       omega
end Go.Proofs.YtifefbhllfdmlaaGreatDoor
namespace Go.Proofs.YtifefbhllfdmlaaGreatDoor
open Go Go.Vo
open Nat (reduceAdd reduceSub reduceMul reduceLeDiff reduceLT reduceEqDiff)
open Int (reduceNeg)

theorem sS {s:bZ}:persL [cX s]=true:=by
 show (pers (cX s) && true)=true
 rw [vL]; rfl
def E1 (o:LOp) (i:Int):Bool:=decide (1≤i) && decide (i≤o.args.length)
theorem aAn (o:LOp):persL (bK o)=true:=by simp only [bK,persL,pers,vM,aAo,avb,iR,dY]
theorem bRh (i:Int) (o:LOp): CT 148 [.i .i64 i,.box (bK o) 0] (.b (E1 o i)):=by
 refine aL mixed Tryz.func148 g0 ?_
 · skip
   (refine zs0 ?_; repeat' first | exact trivial | refine zJ ?_ ?_ | refine zH fun hc=>?_)
   all_goals (refine aF ?_ (by rfl))
   all_goals first | (simp_all [E1]; done) | (simp_all [E1]; omega)
def aPm (o:LOp):Bool:=decide (0≤o.prec) && decide (o.prec≤20) && (decide (0 < o.pieces.length) || decide (o.prec=0))
def aFs (o:LOp):Bool:=decide (0≤o.assoc) && decide (o.assoc≤2) && (decide (0 < o.prec) || decide (o.assoc=0))
def opHead (s:bZ) (o:LOp):Bool:=dN (tG o.name) && !iJ.contains o.name && decide (o.args.length≤8) && o.args.all (existsA s) && s.sorts.contains o.sort
def aRd (s:bZ) (o:LOp):Bool:=opHead s o && aPm o && aFs o && o.strict.all (E1 o) && decide o.strict.Nodup && pX o
def S0 (s:bZ) (o:LOp):Bool:=dN o.name && !iJ.contains o.name && decide (o.args.length≤8) && o.args.all (existsA s) && existsA s o.sort && (decide (o.pieces.length=0) && decide (o.prec=0) && decide (o.assoc=0) && decide (o.strict.length=0))
theorem bJk {n:Nat}:(8 < (n:Int))↔¬ n≤8:=by omega
theorem bAk {n:Nat}:((n:Int)≤8)↔n≤8:=by omega
theorem aTn {n:Nat}:(0 < (n:Int))↔0 < n:=by omega
theorem bWq {n:Nat}:((n:Int)=0)↔n=0:=by omega
theorem bWh (s:bZ) (o:LOp) (hs:Small s) (ho:OkO o): CT 93 [cX s,elO o] (.b (S0 s o)):=by
 refine aL mixed Tryz.func93 g0 ?_
 · skip
   (refine zs4 (T8 o.name ho.name) (bIy o.name) (aZj o.args 90 [cX s] [] (existsA s) ho.args sS rfl (fun k hk=>T5 s (o.args.getD k []))) (T5 s o.sort) ?_; repeat' first | exact trivial | refine zJ ?_ ?_ | refine zH fun hc=>?_)
   all_goals (refine aF ?_ (by rfl))
   all_goals simp only [bAk,bWq] at *
   all_goals simp only [S0, *,decide_true,decide_false,Bool.and_true,Bool.true_and,Bool.and_false,Bool.false_and,Bool.not_true,Bool.not_false,dE,dD,cG,cT]
end Go.Proofs.YtifefbhllfdmlaaGreatDoor
namespace Go.Proofs.YtifefbhllfdmlaaGreatDoor
open Go Go.Vo
open Nat (reduceAdd reduceSub reduceMul reduceLeDiff reduceLT reduceEqDiff)
open Int (reduceNeg)

theorem bWi (s:bZ) (o:LOp) (hs:Small s) (ho:OkO o): CT 92 [cX s,elO o] (.b (aRd s o)):=by
 refine aL mixed Tryz.func92 g0 ?_
 · skip
   have hb:=dI (U6 o.name) ho.name
   have h1:=hs.sorts
   (repeat' (first | refine gT ?_ ?_ | refine gF ?_ ?_ | refine gC ?_ ?_ | ((first | (refine bF (bEe o.name ho.name) ?_ ?_; (focus (simp -implicitDefEqProofs (disch:=omega) only [zdA,go_sem,simprocAttr]; done))) | (refine bF (T8 (tG o.name) hb) ?_ ?_; (focus (simp -implicitDefEqProofs (disch:=omega) only [zdA,go_sem,simprocAttr]; done))) | (refine bF (bIy o.name) ?_ ?_; (focus (simp -implicitDefEqProofs (disch:=omega) only [zdA,go_sem,simprocAttr]; done))) | (refine bF (aZj o.args 90 [cX s] [] (existsA s) ho.args sS rfl (fun k hk=>T5 s (o.args.getD k []))) ?_ ?_; (focus (simp -implicitDefEqProofs (disch:=omega) only [zdA,go_sem,simprocAttr]; done))) | (refine bF (K7 s.sorts o.sort (by omega)) ?_ ?_; (focus (simp -implicitDefEqProofs (disch:=omega) only [zdA,go_sem,simprocAttr]; done))) | (refine bF (bRg o.strict 148 [] [.box (bK o) 0] (E1 o) ho.strict rfl (by simp only [persL,pers,aAn,dY]) (fun k hk=>bRh (o.strict.getD k 0) o)) ?_ ?_; (focus (simp -implicitDefEqProofs (disch:=omega) only [zdA,go_sem,simprocAttr]; done))) | (refine bF (bRf o.strict ho.strict) ?_ ?_; (focus (simp -implicitDefEqProofs (disch:=omega) only [zdA,go_sem,simprocAttr]; done))) | (refine bF (bRe o ho) ?_ ?_; (focus (simp -implicitDefEqProofs (disch:=omega) only [zdA,go_sem,simprocAttr]; done)))); simp -implicitDefEqProofs (disch:=omega) only [go_sem,simprocAttr]) | refine bB (by omega) ?_ | (intro hr; have hc:=hr; (try simp only [zdz] at hc); simp -implicitDefEqProofs (disch:=omega) only [hr,go_sem,simprocAttr]; (try clear hr))))
   all_goals (refine aF ?_ (by rfl))
   all_goals try simp only [bJk,aTn,L6] at *
   all_goals first | (exfalso; omega) | skip
   all_goals simp only [aRd,opHead,aPm,aFs, *,decide_true,decide_false,Bool.and_true,Bool.true_and,Bool.and_false,Bool.false_and,Bool.not_true,Bool.not_false,dE,dD,cG,cT]
   all_goals first | (simp; done) | (simp_all; done) | (simp_all; omega)
end Go.Proofs.YtifefbhllfdmlaaGreatDoor
namespace Go.Proofs.YtifefbhllfdmlaaGreatDoor
open Go Go.Vo
open Nat (reduceAdd reduceSub reduceMul reduceLeDiff reduceLT reduceEqDiff)
open Int (reduceNeg)

attribute [go_sem] List.replicate_zero cB
end Go.Proofs.YtifefbhllfdmlaaGreatDoor
namespace Go.Proofs.YtifefbhllfdmlaaGreatDoor
open Go Go.Vo
open Nat (reduceAdd reduceSub reduceMul reduceLeDiff reduceLT reduceEqDiff)
open Int (reduceNeg)

def yT (x:Str):Bool:=dN x && !gI.contains x
def oI (s:bZ):List Str:=s.ops.map LOp.name++s.funs.map LOp.name
def nA (s:bZ):Bool:=decide (s.sorts.length≤40) && decide (s.below.length≤200) && decide (s.ops.length+s.funs.length≤200) && decide s.below.Nodup && decide s.values.Nodup
def nT (s:bZ):Bool:=decide s.sorts.Nodup && s.sorts.all yT && decide (oI s).Nodup
def oS (s:bZ):Bool:=s.below.all (qL s) && s.values.all (existsA s) && s.ops.all (aRd s) && s.funs.all (S0 s)
def dM (s:bZ):Bool:=nA s && nT s && oS s
theorem F8 {s:bZ} (h1:s.sorts.Nodup) (h2:s.sorts.all yT=true) (h3:(oI s).Nodup):W2 s:=by
 refine ⟨?_,?_,?_⟩
 · unfold keysOf
   rw [kJ]
   refine ⟨by decide,h1,?_⟩
   intro a ha b hb hab
   subst hab
   have:=aN.1 h2 a hb
   simp only [yT,aA,bV] at this
   have h4:gI.contains a=true:=by simpa using ha
   rw [h4] at this
   cases this.2
 · unfold oI at h3
   exact (kJ.1 h3).1
 · unfold oI at h3
   exact (kJ.1 h3).2.1
theorem iE {s:bZ} (h:dM s=true):W2 s:=by
 simp only [dM,nT,aA,decide_eq_true_eq] at h
 exact F8 h.1.2.1.1 h.1.2.1.2 h.1.2.2

theorem aRp (s:bZ) (ho:OkS s):∀ k,k < s.sorts.length→CT 82 ([]++[.s (s.sorts.getD k [])]++[]) (.b (yT (s.sorts.getD k []))):=fun k hk=>bWl _ (ho.sortsS _ (aU hk))
theorem aPt {a b:List AV}:persL (a++b)=(persL a && persL b):=by
 induction a with
 | nil=>simp [persL]
 | cons x l ih=>simp [persL,ih,jY]
theorem bOn (s:bZ) (h:(oI s).length≤140737488355328):CT 81 [.sl ((s.ops.map LOp.name).map .s++(s.funs.map LOp.name).map .s) (s.ops.length+s.funs.length)] (.b (decide (oI s).Nodup)):=by
 have:=bIv (oI s) h
 simpa only [avs,oI,aV,aE,eH] using this
theorem bFg {α β γ:Type} {f:β→γ} {g:α→β} {a b:List α}:((a.map g).map f++(b.map g).map f).take (a.length+b.length)=(a.map g).map f++(b.map g).map f:=aH (by simp)
attribute [go_sem] aPt bFg
theorem aMg (s:bZ) (hs:Small s) (ho:OkS s): CT 47 [.agg (aO s)] (.b (dM s)):=by
 refine aL mixed Tryz.func47 g0 ?_
 · skip
   have h1:=hs.sorts
   have h2:=hs.below
   have h3:=hs.ops
   have h4:=hs.funs
   have h5:=hs.values
   (refine zs2 (bWm s.below ho.below) (bIv s.values ho.values) ?_; repeat' first | exact trivial | refine zJ ?_ ?_ | refine zH fun hc=>?_)
   all_goals first | (refine aF ?_ (by rfl); simp only [dM,nA]; simp_all; done) | (refine aF ?_ (by rfl); simp only [dM,nA]; simp_all; omega) | skip
   (repeat' (first | refine gT ?_ ?_ | refine gF ?_ ?_ | refine gC ?_ ?_ | ((first | (refine bF (bIv s.sorts ho.sorts) ?_ ?_; (focus (simp -implicitDefEqProofs (disch:=omega) only [zdA,go_sem,simprocAttr]; done))) | (refine bF (aZj s.sorts 82 [] [] yT ho.sorts rfl rfl (aRp s ho)) ?_ ?_; (focus (simp -implicitDefEqProofs (disch:=omega) only [zdA,go_sem,simprocAttr]; done))) | (refine bF (bNw s.ops ho.opsT) ?_ ?_; (focus (simp -implicitDefEqProofs (disch:=omega) only [zdA,go_sem,simprocAttr]; done))) | (refine bF (bNw s.funs ho.funsT) ?_ ?_; (focus (simp -implicitDefEqProofs (disch:=omega) only [zdA,go_sem,simprocAttr]; done))) | (refine bF (bOn s (by simp only [oI,aE,eH]; omega)) ?_ ?_; (focus (simp -implicitDefEqProofs (disch:=omega) only [zdA,go_sem,simprocAttr]; done)))); simp -implicitDefEqProofs (disch:=omega) only [go_sem,simprocAttr]) | refine bB (by omega) ?_ | (intro hr; have hc:=hr; (try simp only [zdz] at hc); simp -implicitDefEqProofs (disch:=omega) only [hr,go_sem,simprocAttr]; (try clear hr))))
   all_goals first | (refine aF ?_ (by rfl); simp only [dM,nT, *,decide_true,decide_false,Bool.and_false,Bool.false_and]; done) | skip
   (repeat' (first | refine gT ?_ ?_ | refine gF ?_ ?_ | refine gC ?_ ?_ | ((first | (refine bF (aBz s hs (F8 (by assumption) (by assumption) (by assumption))) ?_ ?_; (focus (simp -implicitDefEqProofs (disch:=omega) only [zdA,go_sem,simprocAttr]; done))) | (refine bF (bWk s.below 89 [cX s] [] (qL s) ho.below sS rfl (fun k hk=>bWj s (s.below.getD k ([],[])) hs)) ?_ ?_; (focus (simp -implicitDefEqProofs (disch:=omega) only [zdA,go_sem,simprocAttr]; done))) | (refine bF (aZj s.values 90 [cX s] [] (existsA s) ho.values sS rfl (fun k hk=>T5 s (s.values.getD k []))) ?_ ?_; (focus (simp -implicitDefEqProofs (disch:=omega) only [zdA,go_sem,simprocAttr]; done))) | (refine bF (bNv s.ops 92 [cX s] [] (aRd s) ho.ops sS rfl (fun k hk=>bWi s (s.ops.getD k default) hs (ho.opsO (s.ops.getD k default) (aU hk)))) ?_ ?_; (focus (simp -implicitDefEqProofs (disch:=omega) only [zdA,go_sem,simprocAttr]; done))) | (refine bF (bNv s.funs 93 [cX s] [] (S0 s) ho.funs sS rfl (fun k hk=>bWh s (s.funs.getD k default) hs (ho.funsO (s.funs.getD k default) (aU hk)))) ?_ ?_; (focus (simp -implicitDefEqProofs (disch:=omega) only [zdA,go_sem,simprocAttr]; done)))); simp -implicitDefEqProofs (disch:=omega) only [go_sem,simprocAttr]) | refine bB (by omega) ?_ | (intro hr; have hc:=hr; (try simp only [zdz] at hc); simp -implicitDefEqProofs (disch:=omega) only [hr,go_sem,simprocAttr]; (try clear hr))))
   all_goals first | (refine aF ?_ (by rfl); simp only [dM,nT,oS, *,decide_true,decide_false,Bool.and_false,Bool.false_and]; done) | skip
   all_goals refine aF ?_ (by rfl)
   all_goals simp only [dM,nA,nT,oS, *,decide_true,Bool.and_true,Bool.true_and]
   all_goals (simp; omega)
end Go.Proofs.YtifefbhllfdmlaaGreatDoor
namespace Go.Proofs.YtifefbhllfdmlaaGreatDoor
open Go Go.Vo
open Nat (reduceAdd reduceSub reduceMul reduceLeDiff reduceLT reduceEqDiff)
open Int (reduceNeg)

theorem P2 (s:Str):tG s++frame s=s:=by
 unfold tG frame
 split
 · exact fJ _ _
 · simp
end Go.Proofs.YtifefbhllfdmlaaGreatDoor
namespace Go.Proofs.YtifefbhllfdmlaaGreatDoor
open Go Go.Vo
open Nat (reduceAdd reduceSub reduceMul reduceLeDiff reduceLT reduceEqDiff)
open Int (reduceNeg)

def bWt (o:LOp):Nat:=o.args.length+o.pieces.length+o.strict.length
def qV (l:List LOp):Nat:=(l.map bWt).sum
def few (s:bZ):Bool:=decide (s.sorts.length≤60) && decide (s.below.length≤250) && decide (s.ops.length+s.funs.length≤250) && decide (s.values.length≤100) && decide (qV (s.ops++s.funs)≤3000)
@[simp] theorem bSc:qV []=0:=rfl
theorem bDb {s:bZ} (h:60 < s.sorts.length∨250 < s.below.length∨250 < s.ops.length+s.funs.length∨100 < s.values.length∨3000 < qV (s.ops++s.funs)):few s=false:=by
 unfold few
 simp only [iG,decide_eq_false_iff_not]
 omega
theorem bIo {s:bZ} (h:s.sorts.length≤60∧s.below.length≤250∧s.ops.length+s.funs.length≤250∧s.values.length≤100∧qV (s.ops++s.funs)≤3000):few s=true:=by
 unfold few
 simp only [aA,decide_eq_true_eq]
 omega
theorem aMn {l:List LOp} {k:Nat} (h:k < l.length):qV (l.take (k+1))=qV (l.take k)+bWt (l.getD k default):=by
 rw [fY (d:=default) h]; simp [qV]
theorem bAn {l:List LOp} {k:Nat}:qV (l.take k)≤qV l:=by
 have h:qV (l.take k++l.drop k)=qV l:=by rw [fJ]
 unfold qV at *
 rw [aV,List.sum_append] at h
 omega
theorem bWo (s:bZ) (hs:OkS s): CT 36 [.agg (aO s)] (.b (few s)):=by
 refine cY (rx:=true) (th:=fun _=>none) mixed Tryz.func36 g0 ?_
 · simp -implicitDefEqProofs (disch:=omega) only [Tryz.f36,go_sem,List.replicate,simprocAttr]
   have h1:=hs.sorts
   have h2:=hs.below
   have h3:=hs.ops
   have h4:=hs.funs
   have h5:=hs.values
   (refine zs0 ?_; repeat' first | exact trivial | refine zJ ?_ ?_ | refine zH fun hc=>?_)
   all_goals first | (refine aF ?_ (by rfl); rw [bDb (by omega)]; done) | skip
   rw [← dP,← aE]
   have hL:(s.ops++s.funs).length=s.ops.length+s.funs.length:=aE
   have hO:∀ x ∈ s.ops++s.funs,OkO x:=fun x hx=>(bA.1 hx).elim (hs.opsO x) (hs.funsO x)
   have hfin:qV (s.ops++s.funs)≤3000→few s=true:=fun h=>bIo ⟨by omega,by omega,by omega,by omega,h⟩
   have hfin2:3000 < qV (s.ops++s.funs)→few s=false:=fun h=>bDb (by omega)
   generalize s.ops++s.funs=L at hL hO hfin hfin2
   refine eE (fun (k:Nat)=>[.k,.k,.j,.v (.i .i64 (qV (L.take k):Nat)),.k,.j,.k,.k,.k,.k,.k,.k,.k,.k,.k,.k,.k,.k,.k,.k,.k,.k,.k,.k,.k,.k,.k,.k,.k,.k,.k,.k,.k,.k,.k,.k,.k,.k,.k,.k,.v (.i .i64 k),.j,.j,.j,.j,.j,.j,.j,.j,.j,.j,.j,.j,.j,.j,.j,.j,.j,.j,.j]) (fun k=>[.box false [.sl (s.sorts.map .s) s.sorts.length,.sl (s.below.flatMap cD) s.below.length,.sl (s.ops.flatMap bK) s.ops.length,.sl (s.funs.flatMap bK) s.funs.length,.sl (s.values.map .s) s.values.length],.dead,.arr false 7 (L.flatMap bK)]) (fun k=>k≤L.length∧qV (L.take k)≤3000) (fun k=>L.length - k) (0) _ ⟨aG _,by simp [qV]⟩ rfl (by simp [eN]) ?_
   rintro k g j ⟨hk,hb⟩
   have ho:k < L.length→(L.getD k default).args.length≤140737488355328∧(L.getD k default).pieces.length≤140737488355328∧(L.getD k default).strict.length≤140737488355328:=fun h=>⟨(hO _ (aU h)).args,(hO _ (aU h)).pieces,(hO _ (aU h)).strict⟩
   have hs1:k < L.length→qV (L.take (k+1))=qV (L.take k)+((L.getD k default).args.length+(L.getD k default).pieces.length+(L.getD k default).strict.length):=fun h=>aMn h
   have hle:=bAn (l:=L) (k:=k+1)
   refine zg ?_
   (refine zs0 ?_; repeat' first | exact trivial | refine zJ ?_ ?_ | refine zH fun hc=>?_)
   · refine aF ?_ (by rfl)
     have:=hs1 (by omega)
     rw [hfin2 (by omega)]
   · have h1:=hs1 (by omega)
     refine ⟨k+1,_,⟨by omega,by omega⟩,by omega,rfl,?_⟩
     rw [h1]; simp
   · refine aF ?_ (by rfl)
     have hk2:k=L.length:=by omega
     subst hk2
     rw [jK] at hb
     rw [hfin hb]
end Go.Proofs.YtifefbhllfdmlaaGreatDoor
namespace Go.Proofs.YtifefbhllfdmlaaGreatDoor
open Go Go.Vo
open Nat (reduceAdd reduceSub reduceMul reduceLeDiff reduceLT reduceEqDiff)
open Int (reduceNeg)

def yS (x:Str):Bool:=dN x && !oP.contains x
theorem aCo (x:Str):gI.contains x=oP.contains x:=by
 have h1:gI.all (fun x=>oP.contains x)=true:=by decide +kernel
 have h2:oP.all (fun x=>gI.contains x)=true:=by decide +kernel
 rw [cI]
 simp only [aN] at h1 h2
 exact ⟨fun h=>h1 x (by simpa using h),fun h=>h2 x (by simpa using h)⟩
def yI (s:bZ):Bool:=s.sorts.all yS && decide (s.sorts.length≤40) && decide s.sorts.Nodup
theorem aJg {n:Nat}:((n:Int)≤40)↔n≤40:=by omega
theorem bWg (s:bZ) (hs:OkS s): CT 102 [.agg (aO s)] (.b (yI s)):=by
 refine aL mixed Tryz.func102 g0 ?_
 · skip
   have h1:=hs.sorts
   refine eE (fun (k:Nat)=>[.k,.k,.j,.k,.j,.k,.k,.k,.v (.i .i64 k),.j,.j,.j,.j,.j,.j,.j,.j,.j,.j,.j,.j,.k,.k,.k,.k,.k,.k,.k,.k,.k]) (fun k=>[.box false [.sl (s.sorts.map .s) s.sorts.length,.sl (s.below.flatMap cD) s.below.length,.sl (s.ops.flatMap bK) s.ops.length,.sl (s.funs.flatMap bK) s.funs.length,.sl (s.values.map .s) s.values.length]]) (fun k=>k≤s.sorts.length∧∀ j,j < k→yS (s.sorts.getD j [])=true) (fun k=>s.sorts.length - k) (0) _ ⟨aG _,fun j h=>by omega⟩ rfl (by simp [eN]) ?_
   rintro k g j ⟨hk,ha⟩
   have hpl:k < s.sorts.length→(s.sorts.getD k []).length≤140737488355328:=fun h=>hs.sortsS _ (aU h)
   refine zg ?_
   (repeat' (first | refine gT ?_ ?_ | refine gF ?_ ?_ | refine gC ?_ ?_ | ((first | refine cE (T7 (s.sorts.getD k []) (hpl (by omega))) ?_ | refine cE (bIu) ?_ | refine cE (zI oP (s.sorts.getD k []) (by decide)) ?_ | refine cE (aZi s.sorts h1) ?_); simp -implicitDefEqProofs (disch:=omega) only [go_sem,simprocAttr]) | refine bB (by omega) ?_ | (intro hr; have hc:=hr; (try simp only [zdz] at hc); simp -implicitDefEqProofs (disch:=omega) only [hr,go_sem,simprocAttr]; (try clear hr))))
   · refine aF ?_ (by rfl)
     rw [yI,fH (d:=[]) (j:=k) (by omega) (by simp only [yS, *,Bool.not_true,Bool.and_false])]; rfl
   · exact ⟨k+1,_,⟨by omega,bD ha (by simp only [yS, *,Bool.not_false,Bool.and_true])⟩,by omega,rfl,by simp⟩
   · refine aF ?_ (by rfl)
     rw [yI,fH (d:=[]) (j:=k) (by omega) (by simp only [yS, *,Bool.false_and])]; rfl
   · refine aF ?_ (by rfl)
     have hall:s.sorts.all yS=true:=kC (d:=[]) (fun j hj=>ha j (by omega))
     rw [yI,hall,zt (aJg.1 hc)]; rfl
   · refine aF ?_ (by rfl)
     rw [aJg] at hc
     rw [yI,zf hc]; simp
def aFu (s:bZ) (o:LOp):Bool:=o.args.all (iL s) && decide (o.args.length≤8)
theorem bEc (s:bZ) (o:LOp) (hs:s.sorts.length≤140737488355328) (ho:o.args.length≤140737488355328): CT 167 [.agg (aO s),elO o] (.b (aFu s o)):=by
 refine aL mixed Tryz.func167 g0 ?_
 · skip
   refine eE (fun (k:Nat)=>[.k,.k,.k,.k,.j,.k,.j,.k,.k,.k,.v (.i .i64 k),.j,.j,.j,.j,.j,.j,.j,.j,.k,.k,.k,.k]) (fun k=>[.box false [.sl (s.sorts.map .s) s.sorts.length,.sl (s.below.flatMap cD) s.below.length,.sl (s.ops.flatMap bK) s.ops.length,.sl (s.funs.flatMap bK) s.funs.length,.sl (s.values.map .s) s.values.length],.box false (bK o)]) (fun k=>k≤o.args.length∧∀ j,j < k→iL s (o.args.getD j [])=true) (fun k=>o.args.length - k) (0) _ ⟨aG _,fun j h=>by omega⟩ rfl (by simp [eN]) ?_
   rintro k g j ⟨hk,ha⟩
   refine zg ?_
   (refine zs1 (aMf s (o.args.getD k []) hs) ?_; repeat' first | exact trivial | refine zJ ?_ ?_ | refine zH fun hc=>?_)
   · refine aF ?_ (by rfl)
     rw [aFu,fH (d:=[]) (j:=k) (by omega) hc]; rfl
   · exact ⟨k+1,_,⟨by omega,bD ha hc⟩,by omega,rfl,by simp⟩
   · refine aF ?_ (by rfl)
     have hall:o.args.all (iL s)=true:=kC (d:=[]) (fun j hj=>ha j (by omega))
     rw [aFu,hall]; simp; omega
theorem aRk {α:Type} {l:List α} {i:Nat} {d:α} (h:i < l.length):l.getD i d=l[i]:=by simp [List.getD,h]
def tX (o:LOp):Bool:=o.strict.all (E1 o) && decide o.strict.Nodup
theorem bRc (o:LOp) (ho:OkO o): CT 169 [elO o] (.b (tX o)):=by
 refine aL mixed Tryz.func169 g0 ?_
 · skip
   have h1:=ho.strict
   have h2:=ho.args
   refine bP (fun (k:Nat)=>[.k,.k,.j,.j,.j,.k,.j,.k,.k,.k,.v (.i .i64 k),.j,.j,.j,.j,.j,.j,.j,.j,.j,.j,.j,.j,.j,.j,.j,.j,.j,.j,.j,.j,.j,.j,.j,.j,.j,.j,.j]) (fun k=>[.box false (bK o)]) (fun k=>k≤o.strict.length∧∀ j,j < k→(E1 o (o.strict.getD j 0)=true∧(o.strict.take j).contains (o.strict.getD j 0)=false)) (fun k=>o.strict.length - k) (0) ⟨aG _,fun j h=>by omega⟩ rfl (by simp [eN]) ?_
   rintro k j ⟨hk,ha⟩
   refine zg ?_
   (refine zs0 ?_; repeat' first | exact trivial | refine zJ ?_ ?_ | refine zH fun hc=>?_)
   · refine aF ?_ (by rfl)
     rw [tX,fH (d:=0) (j:=k) (by omega) (by unfold E1; rw [zf (p:=o.strict.getD k 0≤_) (by omega),Bool.and_false])]; rfl
   · refine bP (fun (m:Nat)=>[.k,.k,.j,.k,.k,.k,.j,.k,.k,.k,.k,.k,.k,.k,.k,.k,.k,.k,.k,.k,.k,.k,.k,.k,.k,.k,.k,.k,.k,.v (.i .i64 m),.j,.j,.j,.j,.j,.j,.j,.k]) (fun m=>[.box false (bK o)]) (fun m=>m≤k∧∀ j,j < m→(o.strict.take k).getD j 0 ≠ o.strict.getD k 0) (fun m=>k - m) (0) ⟨aG _,fun j h=>by omega⟩ rfl (by simp [eN]) ?_
     rintro m j ⟨hm,hb⟩
     have hlt:(o.strict.take k).length=k:=by simp; omega
     refine zh hlt ?_
     (refine zx0 hlt ?_; repeat' first | exact trivial | refine zJ ?_ ?_ | refine zH fun hc=>?_)
     · refine aF ?_ (by rfl)
       have hcon:(o.strict.take k).contains (o.strict.getD k 0)=true:=by
         have hm2:=aU (l:=o.strict.take k) (d:=0) (k:=m) (by omega)
         rw [hc] at hm2
         simpa using hm2
       rw [tX,zf (fun hn=>by rw [nE hn (by omega)] at hcon; cases hcon),Bool.and_false]
     · exact ⟨m+1,⟨by omega,bD hb hc⟩,by omega,by simp⟩
     · have hmk:m=k:=by omega
       subst hmk
       have hno:(o.strict.take m).contains (o.strict.getD m 0)=false:=by
         rw [← X5]
         intro hcon
         have hm2:o.strict.getD m 0 ∈ o.strict.take m:=by simpa using hcon
         obtain ⟨i,hi,he⟩:=bU.1 hm2
         exact hb i (by omega) (by rw [aRk hi]; exact he)
       exact ⟨m+1,⟨by omega,bD ha ⟨by unfold E1; rw [zt (by omega),zt (by omega)]; rfl,hno⟩⟩,by omega,by simp⟩
   · refine aF ?_ (by rfl)
     rw [tX,fH (d:=0) (j:=k) (by omega) (by unfold E1; rw [zf (p:=1≤_) (by omega),Bool.false_and])]; rfl
   · refine aF ?_ (by rfl)
     have h3:k=o.strict.length:=by omega
     have hall:o.strict.all (E1 o)=true:=kC (d:=0) (fun j hj=>(ha j (by omega)).1)
     rw [tX,hall,zt (vQ (d:=0) (fun j hj=>(ha j (by omega)).2))]; rfl
def lX (n:Int):Bool := !(decide (n < 33) || decide (126 < n) || vW n || aSn n || decide (n=95) || decide (n=34) || decide (n=39) || decide (n=92))
def tQ (s:Str):Bool:=decide (1≤s.length) && decide (s.length≤20) && (dN s || s.all fun c=>lX c.toNat)
theorem bQt (s:Str) (hs:s.length≤140737488355328): CT 211 [.s s] (.b (tQ s)):=by
 refine aL mixed Tryz.func211 g0 ?_
 · skip
   (refine zs1 (T7 s hs) ?_; repeat' first | exact trivial | refine zJ ?_ ?_ | refine zH fun hc=>?_)
   · refine aF ?_ (by rfl)
     rw [tQ,zf (p:=s.length≤20) (by omega)]; simp
   · refine aF ?_ (by rfl)
     rw [tQ,zt (p:=s.length≤20) (by omega),zt (p:=1≤s.length) (by omega),hc]; rfl
   · refine bP (fun (k:Nat)=>[.k,.k,.j,.j,.j,.k,.k,.k,.k,.k,.k,.k,.k,.k,.k,.k,.k,.v (.i .i64 k),.j,.j,.j,.j,.j,.j,.j,.j,.j,.j,.j,.j,.j,.j,.j,.j,.j,.j,.j,.j,.j,.j,.j,.j,.j,.j,.j,.j,.j,.j,.j,.j,.j,.j,.j,.j]) (fun k=>[]) (fun k=>k≤s.length∧∀ j,j < k→lX (at_ s j)=true) (fun k=>s.length - k) (0) ⟨aG _,fun j h=>by omega⟩ rfl (by simp [eN]) ?_
     rintro k j ⟨hk,ha⟩
     have hb:dN s=false:=hc
     have hr:=aJn s k
     simp only [at_] at hr
     refine zg ?_
     (refine zs2 bNn bNm ?_; repeat' first | exact trivial | refine zJ ?_ ?_ | refine zH fun hc=>?_)
     all_goals first | (refine aF ?_ (by rfl); rw [tQ,hb,lM (q:=lX) (j:=k) (by omega) (by simp only [lX,at_, *,decide_true,dE,dD,Bool.not_true]),cG,Bool.and_false]; done) | skip
     · exact ⟨k+1,⟨by omega,bD ha (by simp only [lX,at_, *,decide_false,cG,Bool.not_false])⟩,by omega,by simp⟩
     · refine aF ?_ (by rfl)
       have h1:k=s.length:=by omega
       rw [tQ,aJw (q:=lX) (h1 ▸ ha),zt (p:=s.length≤20) (by omega),zt (p:=1≤s.length) (by omega),dE]; rfl
   · refine aF ?_ (by rfl)
     rw [tQ,zf (p:=1≤s.length) (by omega)]; simp
end Go.Proofs.YtifefbhllfdmlaaGreatDoor
namespace Go.Proofs.YtifefbhllfdmlaaGreatDoor
open Go Go.Vo
open Nat (reduceAdd reduceSub reduceMul reduceLeDiff reduceLT reduceEqDiff)
open Int (reduceNeg)

theorem bMt:((4:Int)=0)=False:=by decide
attribute [go_sem] ite_self bMt eD decide_true decide_false not_true_eq_false not_false_eq_true Bool.not_true Bool.not_false
def rJ (r:Option LOp):AV:=match r with
 | some o=>.tup [elO o,.b true]
 | none=>.tup [elO default,.b false]
def J9 (s:bZ) (x:Str):Option LOp:=s.ops.find? fun o=>decide (o.name=x)
def F0 (s:bZ) (x:Str):Option LOp:=s.funs.find? fun o=>decide (o.name=x)
theorem qO {l:List LOp} {x:Str}:((l.map LOp.name).findIdx? fun y=>decide (x=y))=l.findIdx? fun o=>decide (o.name=x):=by
 rw [List.findIdx?_map]; congr 1; funext o; simp [eq_comm]
theorem aIf {l:List LOp} {x:Str}:(∃ i o,(l.findIdx? fun o=>decide (o.name=x))=some i∧l.find? (fun o=>decide (o.name=x))=some o∧(l.map elO)[i]? = some (elO o))∨((l.findIdx? fun o=>decide (o.name=x))=none∧l.find? (fun o=>decide (o.name=x))=none):=by
 induction l with
 | nil=>right; simp
 | cons a l ih=>
   by_cases h:a.name=x
   · left; exact ⟨0,a,by simp [fE,h],by simp [h],by simp⟩
   · rcases ih with ⟨i,o,h1,h2,h3⟩ | ⟨h1,h2⟩
     · left; exact ⟨i+1,o,by simp [fE,h,h1],by simp [h,h2],by simpa using h3⟩
     · right; exact ⟨by simp [fE,h,h1],by simp [h,h2]⟩
theorem bNu (s:bZ) (x:Str): CT 157 [cX s,.s x] (rJ (J9 s x)):=by
 refine aL mixed Tryz.func157 g0 ?_
 · skip
   rcases aIf (l:=s.ops) (x:=x) with ⟨i,o,h1,h2,h3⟩ | ⟨h1,h2⟩
   · refine zh (zA2 @qO (zA2 h1 h3)) ?_
     exact aF (by simp only [rJ,J9,h2]; rfl) (by simp only [pers,persL,jW,iR,eP,dY])
   · refine zh (zA2 @qO h1) ?_
     have:rJ (J9 s x)=.tup [elO default,.b false]:=by simp only [rJ,J9,h2]
     rw [this]
     exact .inr ⟨⟨⟨rfl,rfl,rfl,rfl,rfl,rfl,rfl,trivial⟩,rfl,trivial⟩,by decide,fun i hi=>by cases hi⟩
theorem bWd (s:bZ) (x:Str): CT 225 [cX s,.s x] (rJ (F0 s x)):=by
 refine aL mixed Tryz.func225 g0 ?_
 · skip
   rcases aIf (l:=s.funs) (x:=x) with ⟨i,o,h1,h2,h3⟩ | ⟨h1,h2⟩
   · refine zh (zA2 @qO (zA2 h1 h3)) ?_
     exact aF (by simp only [rJ,F0,h2]; rfl) (by simp only [pers,persL,jW,iR,eP,dY])
   · refine zh (zA2 @qO h1) ?_
     have:rJ (F0 s x)=.tup [elO default,.b false]:=by simp only [rJ,F0,h2]
     rw [this]
     exact .inr ⟨⟨⟨rfl,rfl,rfl,rfl,rfl,rfl,rfl,trivial⟩,rfl,trivial⟩,by decide,fun i hi=>by cases hi⟩
def bJq (s:bZ) (xs:List Str) (b:Bool):AV:=if dM s then (if xs.all (existsA s) then .tup [.b b,.i .i64 0] else .tup [.b false,.i .i64 13]) else .tup [.b false,.i .i64 2]
end Go.Proofs.YtifefbhllfdmlaaGreatDoor
namespace Go.Proofs.YtifefbhllfdmlaaGreatDoor
open Go Go.Vo
open Nat (reduceAdd reduceSub reduceMul reduceLeDiff reduceLT reduceEqDiff)
open Int (reduceNeg)


end Go.Proofs.YtifefbhllfdmlaaGreatDoor
namespace Go.Proofs.YtifefbhllfdmlaaGreatDoor
open Go Go.Vo
open Nat (reduceAdd reduceSub reduceMul reduceLeDiff reduceLT reduceEqDiff)
open Int (reduceNeg)

end Go.Proofs.YtifefbhllfdmlaaGreatDoor
namespace Go.Proofs.YtifefbhllfdmlaaGreatDoor
open Go Go.Vo
open Nat (reduceAdd reduceSub reduceMul reduceLeDiff reduceLT reduceEqDiff)
open Int (reduceNeg)

end Go.Proofs.YtifefbhllfdmlaaGreatDoor
namespace Go.Proofs.YtifefbhllfdmlaaGreatDoor
open Go Go.Vo
open Nat (reduceAdd reduceSub reduceMul reduceLeDiff reduceLT reduceEqDiff)
open Int (reduceNeg)

end Go.Proofs.YtifefbhllfdmlaaGreatDoor
namespace Go.Proofs.YtifefbhllfdmlaaGreatDoor
open Go Go.Vo
open Nat (reduceAdd reduceSub reduceMul reduceLeDiff reduceLT reduceEqDiff)
open Int (reduceNeg)

end Go.Proofs.YtifefbhllfdmlaaGreatDoor
namespace Go.Proofs.YtifefbhllfdmlaaGreatDoor
open Go Go.Vo
open Nat (reduceAdd reduceSub reduceMul reduceLeDiff reduceLT reduceEqDiff)
open Int (reduceNeg)

end Go.Proofs.YtifefbhllfdmlaaGreatDoor
namespace Go.Proofs.YtifefbhllfdmlaaGreatDoor
open Go Go.Vo
open Nat (reduceAdd reduceSub reduceMul reduceLeDiff reduceLT reduceEqDiff)
open Int (reduceNeg)

theorem aPs {s:bZ}:persL (aO s)=true:=by
 simp only [aO,persL,vM,avb,avo,pers,iR,R0,dY]
end Go.Proofs.YtifefbhllfdmlaaGreatDoor
namespace Go.Proofs.YtifefbhllfdmlaaGreatDoor
open Go Go.Vo
open Nat (reduceAdd reduceSub reduceMul reduceLeDiff reduceLT reduceEqDiff)
open Int (reduceNeg)

end Go.Proofs.YtifefbhllfdmlaaGreatDoor
namespace Go.Proofs.YtifefbhllfdmlaaGreatDoor
open Go Go.Vo
open Nat (reduceAdd reduceSub reduceMul reduceLeDiff reduceLT reduceEqDiff)
open Int (reduceNeg)

end Go.Proofs.YtifefbhllfdmlaaGreatDoor
namespace Go.Proofs.YtifefbhllfdmlaaGreatDoor
open Go Go.Vo
open Nat (reduceAdd reduceSub reduceMul reduceLeDiff reduceLT reduceEqDiff)
open Int (reduceNeg)

def okR (p:Str × Str):Bool:=if p.2=[] then tQ p.1 else decide (p.1=[])
def aDx (o:LOp):Bool:=if o.pieces=[] then decide (o.prec=0) && decide (o.assoc=0) else decide (o.pieces.length≤20) && decide (nJ o.pieces=o.args) && decide (0≤o.prec) && decide (o.prec≤20) && decide (0≤o.assoc) && decide (o.assoc≤2) && (decide (0 < o.prec) || decide (o.assoc=0))
def qG (o:LOp):Bool:=o.pieces.all okR && aDx o
theorem bRd (o:LOp) (ho:OkO o): CT 168 [elO o] (.b (qG o)):=by
 refine aL mixed Tryz.func168 g0 ?_
 · skip
   have hp:=ho.piecesT
   have hx:=ho.args
   refine bP (fun (s:Nat × AV × List AObj)=>[.k,.k,.j,.v (s.2.1),.k,.j,.k,.k,.k,.v (.i .i64 (s.1:Nat)),.j,.j,.j,.j,.j,.j,.j,.j,.j,.j,.j,.j,.j,.j,.j,.j,.j,.j,.j,.j,.j,.j,.j,.j,.j,.j,.j,.k,.k,.k,.k,.k,.k,.k,.k,.k,.k,.k,.k,.k,.k,.k,.k,.k,.k,.k,.k,.k,.k,.k,.k,.k,.k,.k,.k,.k,.k,.k,.k,.k,.k,.k,.k,.k,.k,.k,.k,.k,.k,.k,.k,.k,.k,.k,.k,.k,.k,.k,.k]) (fun s=>.box false (bK o)::s.2.2) (fun s=>s.1≤o.pieces.length∧(∀ j,j < s.1→okR (o.pieces.getD j ([],[]))=true)∧dV 1 1 s.2.2 s.2.1 ((nJ (o.pieces.take s.1)).map .s) (nJ (o.pieces.take s.1)).length) (fun s=>o.pieces.length - s.1) ((0,.e0,[])) ⟨aG _,fun j h=>by simp at h,jC⟩ rfl (by simp [eN]) ?_
   rintro ⟨k,out,g⟩ j ⟨hk,ha,ho2⟩
   dsimp only at hk ha ho2
   have hpl:k < o.pieces.length→(o.pieces.getD k ([],[])).1.length≤140737488355328:=fun h=>(ho.piecesS _ (aU h)).1
   have hal:=tC (l:=o.pieces.take k)
   rw [dS] at hal
   refine zg ?_
   (repeat' (first | refine gT ?_ ?_ | refine gF ?_ ?_ | refine gC ?_ ?_ | ((refine bF (bQt (o.pieces.getD k ([],[])).1 (hpl (by omega))) ?_ ?_; (focus (simp -implicitDefEqProofs (disch:=omega) only [zdA,go_sem,↓reduceIte,reduceAdd,reduceSub,reduceMul,reduceLeDiff,reduceLT,reduceEqDiff,reduceNeg,Nat.reduceBEq]; done))); simp -implicitDefEqProofs (disch:=omega) only [go_sem,↓reduceIte,reduceAdd,reduceSub,reduceMul,reduceLeDiff,reduceLT,reduceEqDiff,reduceNeg,Nat.reduceBEq]) | refine bB (by omega) ?_ | (intro hr; have hc:=hr; (try simp only [zdz] at hc); simp -implicitDefEqProofs (disch:=omega) only [hr,go_sem,↓reduceIte,reduceAdd,reduceSub,reduceMul,reduceLeDiff,reduceLT,reduceEqDiff,reduceNeg,Nat.reduceBEq]; (try clear hr))))
   all_goals first | (exfalso; omega) | skip
   all_goals first | (refine aF ?_ (by rfl); rw [qG,fH (d:=([],[])) (j:=k) (by omega) (by simp_all [okR,← List.length_eq_zero_iff])]; rfl) | skip
   all_goals first | (refine ⟨(k+1,out,_),⟨by omega,bD ha (by simp_all [okR,← List.length_eq_zero_iff]),?_⟩,by simp; omega,rfl,rfl,by simp⟩; dsimp only; rw [nI (by omega),if_pos (List.eq_nil_of_length_eq_zero (by assumption)),List.append_nil]; exact ho2.more _) | skip
   · refine dU (pre:=[_]) (news:=[.s (o.pieces.getD k ([],[])).2]) (m:=1) ho2 rfl rfl bIr zo9 sz9 by9 rfl (by decide) (by simp -implicitDefEqProofs (disch:=omega) only [go_sem,↓reduceIte,reduceAdd,reduceSub,reduceMul,reduceLeDiff,reduceLT,reduceEqDiff,reduceNeg,Nat.reduceBEq]) (by simp -implicitDefEqProofs (disch:=omega) only [go_sem,↓reduceIte,reduceAdd,reduceSub,reduceMul,reduceLeDiff,reduceLT,reduceEqDiff,reduceNeg,Nat.reduceBEq]) ⟨by omega,by omega⟩ ?_
     intro out' g' ho' _
     refine zg ?_
     refine ⟨(k+1,out',g'),⟨by omega,bD ha (by simp_all [okR,← List.length_eq_zero_iff]),?_⟩,by simp; omega,rfl,by simp⟩
     dsimp only
     rw [nI (by omega),if_neg (by rw [← List.length_eq_zero_iff]; assumption),aV,aE]
     exact ho'
   · have he:o.pieces=[]:=List.eq_nil_of_length_eq_zero (by omega)
     refine aF ?_ (by rfl)
     simp_all [qG,aDx]
   · have he:o.pieces=[]:=List.eq_nil_of_length_eq_zero (by omega)
     refine aF ?_ (by rfl)
     simp_all [qG,aDx]
   · have hk2:k=o.pieces.length:=by omega
     have hne:o.pieces ≠ []:=fun e=>by simp_all
     have hall:o.pieces.all okR=true:=kC (d:=([],[])) (fun j hj=>ha j (by omega))
     rw [aH (by omega)] at ho2
     have hal:=tC (l:=o.pieces)
     have h20:=mT.1 hc
     clear ha hpl
     rcases ho2 with ⟨rfl,hnil,_⟩ | ⟨i0,rfl,hg,_⟩
     · have hnil:nJ o.pieces=[]:=by simpa using hnil
       (refine zs1 (bNt [] o.args (by simp) hx) ?_; repeat' first | exact trivial | refine zJ ?_ ?_ | refine zH fun hc=>?_)
       all_goals refine aF ?_ (by rfl)
       all_goals simp only [qG,hall,aDx,if_neg hne,hnil,Bool.true_and]
       all_goals first | (simp_all; done) | (simp_all; omega)
     · (refine zx1 hg (bNt (nJ o.pieces) o.args (by omega) hx) ?_; repeat' first | exact trivial | refine zJ ?_ ?_ | refine zH fun hc=>?_)
       all_goals refine aF ?_ (by rfl)
       all_goals simp only [qG,hall,aDx,if_neg hne,Bool.true_and]
       all_goals first | (simp_all; done) | (simp_all; omega)
   · refine aF ?_ (by rfl)
     have hne:o.pieces ≠ []:=fun e=>by simp_all
     have h20:¬ o.pieces.length≤20:=fun h=>hc (mT.2 h)
     simp only [qG,aDx,if_neg hne,zf h20,Bool.false_and,Bool.and_false]
end Go.Proofs.YtifefbhllfdmlaaGreatDoor
namespace Go.Proofs.YtifefbhllfdmlaaGreatDoor
open Go Go.Vo
open Nat (reduceAdd reduceSub reduceMul reduceLeDiff reduceLT reduceEqDiff)
open Int (reduceNeg)

def jO (s:bZ) (b:Str × Str):Bool:=iL s b.1 && !decide (b.1=pP) && s.sorts.contains b.2
def oO (s:bZ) (b:Str × Str):Bool := !(climb s.below b.2).contains b.1
def wV (s:bZ):Bool:=s.below.all (jO s) && decide s.below.Nodup && s.below.all (oO s) && decide (s.below.length≤200)
theorem aCh {n:Nat}:((n:Int)≤200)↔n≤200:=by omega
theorem uI {s:bZ} {k:Nat} (hk:k < s.below.length) (h:jO s (s.below.getD k ([],[]))=false):wV s=false:=by
 rw [wV,fH hk h]; rfl
theorem bMa {a b:Str × Str}:(decide (a.1=b.1) && (decide (a.2=b.2) && true))=decide (a=b):=by
 rw [cI]; simp [Prod.ext_iff]
theorem bWf (s:bZ) (hs:OkS s) (hb:s.below.length≤1000): CT 103 [.agg (aO s)] (.b (wV s)):=by
 refine aL mixed Tryz.func103 g0 ?_
 · skip
   have h1:=hs.sorts
   have h2:=hs.below
   refine eE (fun (k:Nat)=>[.k,.k,.j,.j,.j,.k,.j,.k,.k,.k,.k,.k,.v (.i .i64 k),.j,.j,.j,.j,.j,.j,.j,.j,.j,.j,.j,.j,.j,.j,.j,.j,.j,.j,.j,.j,.j,.j,.j,.j,.j,.j,.j,.j,.j,.j,.j,.j,.j,.j,.j,.j,.k,.k,.k,.k,.k,.k,.k,.k,.k,.k,.k,.k,.k,.k,.k,.k,.k,.k,.k]) (fun k=>[.box false [.sl (s.sorts.map .s) s.sorts.length,.sl (s.below.flatMap cD) s.below.length,.sl (s.ops.flatMap bK) s.ops.length,.sl (s.funs.flatMap bK) s.funs.length,.sl (s.values.map .s) s.values.length]]) (fun k=>k≤s.below.length∧∀ j,j < k→(jO s (s.below.getD j ([],[]))=true∧(s.below.take j).contains (s.below.getD j ([],[]))=false)) (fun k=>s.below.length - k) (0) _ ⟨aG _,fun j h=>by omega⟩ rfl (by simp [eN]) ?_
   rintro k g j ⟨hk,ha⟩
   refine zg ?_
   (refine zs2 (aMf s (s.below.getD k ([],[])).1 h1) (zI s.sorts (s.below.getD k ([],[])).2 h1) ?_; repeat' first | exact trivial | refine zJ ?_ ?_ | refine zH fun hc=>?_)
   · refine aF ?_ (by rfl)
     rw [uI (k:=k) (by omega) (by simp only [jO, *,Bool.and_false])]
   · have hone:jO s (s.below.getD k ([],[]))=true:=by simp only [jO,pP, *,decide_false,Bool.not_false,dY]
     refine bP (fun (t:Nat × List AObj)=>[.k,.k,.j,.k,.k,.k,.j,.k,.k,.k,.k,.k,.k,.k,.k,.k,.k,.k,.k,.k,.k,.k,.k,.k,.k,.k,.k,.k,.k,.k,.k,.k,.k,.k,.k,.k,.k,.k,.k,.k,.v (.i .i64 (t.1:Nat)),.j,.j,.j,.j,.j,.j,.j,.k,.k,.k,.k,.k,.k,.k,.k,.k,.k,.k,.k,.k,.k,.k,.k,.k,.k,.k,.k]) (fun t=>.box false [.sl (s.sorts.map .s) s.sorts.length,.sl (s.below.flatMap cD) s.below.length,.sl (s.ops.flatMap bK) s.ops.length,.sl (s.funs.flatMap bK) s.funs.length,.sl (s.values.map .s) s.values.length]::(g++(.box false [.s (s.below.getD k ([],[])).1,.s (s.below.getD k ([],[])).2]::t.2))) (fun t=>t.1≤k∧∀ j,j < t.1→(s.below.take k).getD j ([],[]) ≠ s.below.getD k ([],[])) (fun t=>k - t.1) ((0,[])) ⟨aG _,fun j h=>by simp at h⟩ rfl (by simp [eN]) ?_
     rintro ⟨m,g2⟩ j ⟨hm,hb2⟩
     dsimp only at hm hb2
     have hlt:(s.below.take k).length=k:=by simp; omega
     refine zh hlt ?_
     (repeat' (first | refine gT ?_ ?_ | refine gF ?_ ?_ | refine gC ?_ ?_ | refine bB (by omega) ?_ | (intro hr; have hc:=hr; (try simp only [zdz] at hc); simp -implicitDefEqProofs (disch:=omega) only [hr,hlt,go_sem,simprocAttr]; (try clear hr))))
     · refine aF ?_ (by rfl)
       rw [bMa] at hc
       have he:=of_decide_eq_true hc
       have hm2:=aU (l:=s.below.take k) (d:=([],[])) (k:=m) (by omega)
       rw [← he] at hm2
       have hcon:(s.below.take k).contains (s.below.getD k ([],[]))=true:=by simpa using hm2
       rw [wV,zf (fun hn=>by rw [nE hn (by omega)] at hcon; cases hcon),Bool.and_false]; rfl
     · rw [bMa] at hc
       have he:=of_decide_eq_false hc
       exact ⟨(m+1,_),⟨by dsimp only; omega,bD hb2 (fun e=>he e.symm)⟩,by dsimp only; omega,rfl,by simp⟩
     · have hmk:m=k:=by omega
       subst hmk
       have hno:(s.below.take m).contains (s.below.getD m ([],[]))=false:=by
         rw [← X5]
         intro hcon
         have hm2:s.below.getD m ([],[]) ∈ s.below.take m:=by simpa using hcon
         obtain ⟨i,hi,he⟩:=bU.1 hm2
         exact hb2 i (by omega) (by rw [aRk hi]; exact he)
       exact ⟨m+1,_,⟨by omega,bD ha ⟨hone,hno⟩⟩,by omega,rfl,by simp⟩
   · refine aF ?_ (by rfl)
     rw [uI (k:=k) (by omega) (by simp only [jO,pP, *,decide_true,Bool.not_true,Bool.and_false,Bool.false_and])]
   · refine aF ?_ (by rfl)
     rw [uI (k:=k) (by omega) (by simp only [jO, *,Bool.false_and])]
   · have hall:s.below.all (jO s)=true:=kC (d:=([],[])) (fun j hj=>(ha j (by omega)).1)
     have hnd:s.below.Nodup:=vQ (d:=([],[])) (fun j hj=>(ha j (by omega)).2)
     clear ha
     refine eE (fun (k:Nat)=>[.k,.k,.j,.k,.k,.k,.k,.k,.j,.k,.k,.k,.k,.k,.k,.k,.k,.k,.k,.k,.k,.k,.k,.k,.k,.k,.k,.k,.k,.k,.k,.k,.k,.k,.k,.k,.k,.k,.k,.k,.k,.k,.k,.k,.k,.k,.k,.k,.k,.k,.k,.k,.v (.i .i64 k),.j,.j,.j,.j,.j,.j,.j,.j,.j,.j,.j,.k,.k,.k,.k]) (fun k=>[.box false [.sl (s.sorts.map .s) s.sorts.length,.sl (s.below.flatMap cD) s.below.length,.sl (s.ops.flatMap bK) s.ops.length,.sl (s.funs.flatMap bK) s.funs.length,.sl (s.values.map .s) s.values.length]]) (fun k=>k≤s.below.length∧∀ j,j < k→oO s (s.below.getD j ([],[]))=true) (fun k=>s.below.length - k) (0) _ ⟨aG _,fun j h=>by omega⟩ rfl (by simp [eN]) ?_
     rintro k g j ⟨hk,ha⟩
     have hcl:=wO s.below (s.below.getD k ([],[])).2
     refine zg ?_
     (refine zs2 (bEd s (s.below.getD k ([],[])).2) (zI (climb s.below (s.below.getD k ([],[])).2) (s.below.getD k ([],[])).1) ?_; repeat' first | exact trivial | refine zJ ?_ ?_ | refine zH fun hc=>?_)
     · refine aF ?_ (by rfl)
       rw [wV,fH (p:=oO s) (d:=([],[])) (j:=k) (by omega) (by simp only [oO,hc,Bool.not_true]),Bool.and_false]; rfl
     · exact ⟨k+1,_,⟨by omega,bD ha (by simp only [oO,hc,Bool.not_false])⟩,by omega,rfl,by simp⟩
     · refine aF ?_ (by rfl)
       have hup:s.below.all (oO s)=true:=kC (d:=([],[])) (fun j hj=>ha j (by omega))
       rw [wV,hall,hup,zt hnd]
       simp [aCh]
end Go.Proofs.YtifefbhllfdmlaaGreatDoor
namespace Go.Proofs.YtifefbhllfdmlaaGreatDoor
open Go Go.Vo
open Nat (reduceAdd reduceSub reduceMul reduceLeDiff reduceLT reduceEqDiff)
open Int (reduceNeg)

def opR (s:bZ) (o:LOp):Bool:=dN (tG o.name) && !iJ.contains o.name && aFu s o && s.sorts.contains o.sort && qG o && tX o
def aVf (s:bZ) (o:LOp):Bool:=dN o.name && !iJ.contains o.name && aFu s o && iL s o.sort && decide (o.pieces.length=0) && decide (o.prec=0) && decide (o.assoc=0) && decide (o.strict.length=0)
def lN (s:bZ):List Str:=s.ops.map LOp.name++s.funs.map LOp.name
def aXf (s:bZ):Bool:=s.ops.all (opR s) && s.funs.all (aVf s) && decide ((lN s).length≤200) && decide (lN s).Nodup
theorem bMe {s:bZ} {k:Nat} (hk:k < s.ops.length) (h:opR s (s.ops.getD k default)=false):aXf s=false:=by
 rw [aXf,fH hk h]; rfl
theorem bIb {s:bZ} {k:Nat} (hk:k < s.funs.length) (h:aVf s (s.funs.getD k default)=false):aXf s=false:=by
 rw [aXf,fH (p:=aVf s) hk h]; simp
theorem bWe (s:bZ) (hs:OkS s) (hn:s.ops.length+s.funs.length≤1000): CT 104 [.agg (aO s)] (.b (aXf s)):=by
 refine aL mixed Tryz.func104 g0 ?_
 · skip
   have h1:=hs.sorts
   refine bP (fun (t:Nat × AV × List AObj)=>[.k,.k,.j,.v (t.2.1),.k,.j,.k,.k,.k,.k,.k,.v (.i .i64 (t.1:Nat)),.j,.j,.j,.j,.j,.j,.j,.j,.j,.j,.j,.j,.j,.j,.j,.j,.j,.j,.j,.j,.j,.j,.j,.j,.j,.j,.j,.j,.j,.j,.j,.j,.j,.j,.j,.j,.j,.j,.j,.j,.j,.j,.k,.k,.k,.k,.k,.k,.k,.k,.k,.k,.k,.k,.k,.k,.k,.k,.k,.k,.k,.k,.k,.k,.k,.k,.k,.k,.k,.k,.k,.k,.k,.k,.k,.k,.k,.k,.k,.k,.k,.k,.k,.k,.k,.k,.k,.k,.k,.k,.k,.k,.k,.k,.k,.k,.k,.k,.k,.k,.k,.k,.k,.k,.k,.k]) (fun t=>.box false [.sl (s.sorts.map .s) s.sorts.length,.sl (s.below.flatMap cD) s.below.length,.sl (s.ops.flatMap bK) s.ops.length,.sl (s.funs.flatMap bK) s.funs.length,.sl (s.values.map .s) s.values.length]::t.2.2) (fun t=>t.1≤s.ops.length∧(∀ j,j < t.1→opR s (s.ops.getD j default)=true)∧dV 1 1 t.2.2 t.2.1 (((s.ops.take t.1).map LOp.name).map .s) t.1) (fun t=>s.ops.length - t.1) ((0,.e0,[])) ⟨aG _,fun j h=>by simp at h,jC⟩ rfl (by simp [eN]) ?_
   rintro ⟨k,out,g⟩ j ⟨hk,ha,ho⟩
   dsimp only at hk ha ho
   have o1:k < s.ops.length→OkO (s.ops.getD k default):=fun h=>hs.opsO _ (aU h)
   refine zg ?_
   (refine zs0 ?_; repeat' first | exact trivial | refine zJ ?_ ?_ | refine zH fun hc=>?_)
   · refine dU (pre:=[.box false [.sl (s.sorts.map .s) s.sorts.length,.sl (s.below.flatMap cD) s.below.length,.sl (s.ops.flatMap bK) s.ops.length,.sl (s.funs.flatMap bK) s.funs.length,.sl (s.values.map .s) s.values.length]]) (g:=g++[.box false (bK (s.ops.getD k default))]) (more:=[.arr false 1 ([.s (s.ops.getD k default).name])]) (news:=[.s (s.ops.getD k default).name]) (m:=1) ((ho).more _) rfl (by simp -implicitDefEqProofs (disch:=omega) only [go_sem,↓reduceIte,reduceAdd,reduceSub,reduceMul,reduceLeDiff,reduceLT,reduceEqDiff,reduceNeg,Nat.reduceBEq]) bIr zo9 sz9 by9 rfl (by decide) (by simp -implicitDefEqProofs (disch:=omega) only [go_sem,↓reduceIte,reduceAdd,reduceSub,reduceMul,reduceLeDiff,reduceLT,reduceEqDiff,reduceNeg,Nat.reduceBEq]) (by simp -implicitDefEqProofs (disch:=omega) only [go_sem,↓reduceIte,reduceAdd,reduceSub,reduceMul,reduceLeDiff,reduceLT,reduceEqDiff,reduceNeg,Nat.reduceBEq]) ⟨by omega,by omega⟩ ?_
     intro out' g' ho' hkeep
     have hbox:=hkeep g.length (.box false (bK (s.ops.getD k default))) (by rw [S4]; rfl) (fun c=>nofun)
     clear hkeep
     have ho1:=o1 (by omega)
     refine zh hbox ?_
     (repeat' (first | refine gT ?_ ?_ | refine gF ?_ ?_ | refine gC ?_ ?_ | ((first | (refine bF (aTe (s.ops.getD k default).name ho1.name) ?_ ?_; (focus (simp -implicitDefEqProofs (disch:=omega) only [hbox,zdA,go_sem,↓reduceIte,reduceAdd,reduceSub,reduceMul,reduceLeDiff,reduceLT,reduceEqDiff,reduceNeg,Nat.reduceBEq]; done))) | (refine bF (bIx (s.ops.getD k default).name) ?_ ?_; (focus (simp -implicitDefEqProofs (disch:=omega) only [hbox,zdA,go_sem,↓reduceIte,reduceAdd,reduceSub,reduceMul,reduceLeDiff,reduceLT,reduceEqDiff,reduceNeg,Nat.reduceBEq]; done))) | (refine bF (bEc s (s.ops.getD k default) h1 ho1.args) ?_ ?_; (focus (simp -implicitDefEqProofs (disch:=omega) only [hbox,zdA,go_sem,↓reduceIte,reduceAdd,reduceSub,reduceMul,reduceLeDiff,reduceLT,reduceEqDiff,reduceNeg,Nat.reduceBEq]; done))) | (refine bF (zI s.sorts (s.ops.getD k default).sort h1) ?_ ?_; (focus (simp -implicitDefEqProofs (disch:=omega) only [hbox,zdA,go_sem,↓reduceIte,reduceAdd,reduceSub,reduceMul,reduceLeDiff,reduceLT,reduceEqDiff,reduceNeg,Nat.reduceBEq]; done))) | (refine bF (bRd (s.ops.getD k default) ho1) ?_ ?_; (focus (simp -implicitDefEqProofs (disch:=omega) only [hbox,zdA,go_sem,↓reduceIte,reduceAdd,reduceSub,reduceMul,reduceLeDiff,reduceLT,reduceEqDiff,reduceNeg,Nat.reduceBEq]; done))) | (refine bF (bRc (s.ops.getD k default) ho1) ?_ ?_; (focus (simp -implicitDefEqProofs (disch:=omega) only [hbox,zdA,go_sem,↓reduceIte,reduceAdd,reduceSub,reduceMul,reduceLeDiff,reduceLT,reduceEqDiff,reduceNeg,Nat.reduceBEq]; done)))); simp -implicitDefEqProofs (disch:=omega) only [hbox,go_sem,↓reduceIte,reduceAdd,reduceSub,reduceMul,reduceLeDiff,reduceLT,reduceEqDiff,reduceNeg,Nat.reduceBEq]) | refine bB (by omega) ?_ | (intro hr; have hc:=hr; (try simp only [zdz] at hc); simp -implicitDefEqProofs (disch:=omega) only [hr,hbox,go_sem,↓reduceIte,reduceAdd,reduceSub,reduceMul,reduceLeDiff,reduceLT,reduceEqDiff,reduceNeg,Nat.reduceBEq]; (try clear hr))))
     all_goals first | (refine aF ?_ (by rfl); rw [bMe (k:=k) (by omega) (by simp only [opR, *,decide_true,decide_false,Bool.and_false,Bool.false_and,Bool.and_true,Bool.true_and,Bool.not_true,Bool.not_false])]; done) | skip
     refine ⟨(k+1,out',g'),⟨by dsimp only; omega,bD ha (by simp only [opR, *,decide_true,decide_false,Bool.and_false,Bool.false_and,Bool.and_true,Bool.true_and,Bool.not_true,Bool.not_false]),?_⟩,by dsimp only; omega,rfl,rfl,by simp⟩
     dsimp only
     rw [fY (d:=default) (by omega),aV,aV]
     exact ho'
   · have hk2:k=s.ops.length:=by omega
     have hall:s.ops.all (opR s)=true:=kC (d:=default) (fun j hj=>ha j (by omega))
     rw [hk2,jK] at ho
     clear ha hk o1
     refine bP (fun (t:Nat × AV × List AObj)=>[.k,.k,.j,.v (t.2.1),.k,.k,.k,.j,.k,.k,.k,.k,.k,.k,.k,.k,.k,.k,.k,.k,.k,.k,.k,.k,.k,.k,.k,.k,.k,.k,.k,.k,.k,.k,.k,.k,.k,.k,.k,.k,.k,.k,.k,.k,.k,.k,.k,.k,.k,.k,.k,.k,.k,.k,.k,.k,.k,.v (.i .i64 (t.1:Nat)),.j,.j,.j,.j,.j,.j,.j,.j,.j,.j,.j,.j,.j,.j,.j,.j,.j,.j,.j,.j,.j,.j,.j,.j,.j,.j,.j,.j,.j,.j,.j,.j,.j,.j,.j,.j,.j,.j,.j,.j,.j,.j,.j,.j,.j,.j,.j,.j,.j,.j,.j,.j,.j,.k,.k,.k,.k,.k,.k,.k]) (fun t=>.box false [.sl (s.sorts.map .s) s.sorts.length,.sl (s.below.flatMap cD) s.below.length,.sl (s.ops.flatMap bK) s.ops.length,.sl (s.funs.flatMap bK) s.funs.length,.sl (s.values.map .s) s.values.length]::t.2.2) (fun t=>t.1≤s.funs.length∧(∀ j,j < t.1→aVf s (s.funs.getD j default)=true)∧dV 1 1 t.2.2 t.2.1 ((s.ops.map LOp.name).map .s++((s.funs.take t.1).map LOp.name).map .s) (s.ops.length+t.1)) (fun t=>s.funs.length - t.1) ((0,out,g)) ⟨aG _,fun j h=>by simp at h,by simpa using ho⟩ rfl (by simp [eN]) ?_
     clear ho hk2
     rintro ⟨k,out,g⟩ j ⟨hk,ha,ho⟩
     dsimp only at hk ha ho
     have o1:k < s.funs.length→OkO (s.funs.getD k default):=fun h=>hs.funsO _ (aU h)
     refine zg ?_
     (refine zs0 ?_; repeat' first | exact trivial | refine zJ ?_ ?_ | refine zH fun hc=>?_)
     · refine dU (pre:=[.box false [.sl (s.sorts.map .s) s.sorts.length,.sl (s.below.flatMap cD) s.below.length,.sl (s.ops.flatMap bK) s.ops.length,.sl (s.funs.flatMap bK) s.funs.length,.sl (s.values.map .s) s.values.length]]) (g:=g++[.box false (bK (s.funs.getD k default))]) (more:=[.arr false 1 ([.s (s.funs.getD k default).name])]) (news:=[.s (s.funs.getD k default).name]) (m:=1) ((ho).more _) rfl (by simp -implicitDefEqProofs (disch:=omega) only [go_sem,↓reduceIte,reduceAdd,reduceSub,reduceMul,reduceLeDiff,reduceLT,reduceEqDiff,reduceNeg,Nat.reduceBEq]) bIr zo9 sz9 by9 rfl (by decide) (by simp -implicitDefEqProofs (disch:=omega) only [go_sem,↓reduceIte,reduceAdd,reduceSub,reduceMul,reduceLeDiff,reduceLT,reduceEqDiff,reduceNeg,Nat.reduceBEq]) (by simp -implicitDefEqProofs (disch:=omega) only [go_sem,↓reduceIte,reduceAdd,reduceSub,reduceMul,reduceLeDiff,reduceLT,reduceEqDiff,reduceNeg,Nat.reduceBEq]) ⟨by omega,by omega⟩ ?_
       intro out' g' ho' hkeep
       have hbox:=hkeep g.length (.box false (bK (s.funs.getD k default))) (by rw [S4]; rfl) (fun c=>nofun)
       clear hkeep
       have ho1:=o1 (by omega)
       refine zh hbox ?_
       (refine zx4 hbox (T7 (s.funs.getD k default).name ho1.name) (bIx (s.funs.getD k default).name) (bEc s (s.funs.getD k default) h1 ho1.args) (aMf s (s.funs.getD k default).sort h1) ?_; repeat' first | exact trivial | refine zJ ?_ ?_ | refine zH fun hc=>?_)
       all_goals try simp only [aTn,Nat.pos_iff_ne_zero,L6] at *
       all_goals first | (refine aF ?_ (by rfl); rw [bIb (k:=k) (by omega) (by simp only [aVf, *,decide_true,decide_false,Bool.and_false,Bool.false_and,Bool.and_true,Bool.true_and,Bool.not_true,Bool.not_false])]; done) | skip
       refine ⟨(k+1,out',g'),⟨by dsimp only; omega,bD ha (by simp only [aVf, *,decide_true,decide_false,Bool.and_false,Bool.false_and,Bool.and_true,Bool.true_and,Bool.not_true,Bool.not_false]),?_⟩,by dsimp only; omega,rfl,rfl,by simp⟩
       dsimp only
       rw [fY (d:=default) (by omega),aV,aV,← bL]
       exact ho'
     · have hk2:k=s.funs.length:=by omega
       have hf:s.funs.all (aVf s)=true:=kC (d:=default) (fun j hj=>ha j (by omega))
       rw [hk2,jK] at ho
       clear ha hk o1 hc hk2
       have hnl:(lN s).length=s.ops.length+s.funs.length:=by simp [lN]
       have hop:aXf s=(decide ((lN s).length≤200) && decide (lN s).Nodup):=by rw [aXf,hall,hf]; rfl
       have hcell:(s.ops.map LOp.name).map AV.s++(s.funs.map LOp.name).map AV.s=(lN s).map .s:=by simp [lN]
       rw [hcell,← hnl] at ho
       rcases ho with ⟨rfl,hnil,_⟩ | ⟨i0,rfl,hg,_⟩
       · have hnil:lN s=[]:=by simpa using hnil
         simp -implicitDefEqProofs (disch:=omega) only [go_sem,↓reduceIte,reduceAdd,reduceSub,reduceMul,reduceLeDiff,reduceLT,reduceEqDiff,reduceNeg,Nat.reduceBEq]
         (repeat' (first | refine gT ?_ ?_ | refine gF ?_ ?_ | refine gC ?_ ?_ | ((refine bF (aZi [] (by simp)) ?_ ?_; (focus (simp -implicitDefEqProofs (disch:=omega) only [zdA,go_sem,↓reduceIte,reduceAdd,reduceSub,reduceMul,reduceLeDiff,reduceLT,reduceEqDiff,reduceNeg,Nat.reduceBEq]; done))); simp -implicitDefEqProofs (disch:=omega) only [go_sem,↓reduceIte,reduceAdd,reduceSub,reduceMul,reduceLeDiff,reduceLT,reduceEqDiff,reduceNeg,Nat.reduceBEq]) | refine bB (by omega) ?_ | (intro hr; have hc:=hr; (try simp only [zdz] at hc); simp -implicitDefEqProofs (disch:=omega) only [hr,go_sem,↓reduceIte,reduceAdd,reduceSub,reduceMul,reduceLeDiff,reduceLT,reduceEqDiff,reduceNeg,Nat.reduceBEq]; (try clear hr))))
         all_goals refine aF ?_ (by rfl)
         all_goals first | (exfalso; omega) | (rw [hop,hnil]; rfl)
       · refine zh hg ?_
         (refine zx1 hg (aZi (lN s)) ?_; repeat' first | exact trivial | refine zJ ?_ ?_ | refine zH fun hc=>?_)
         all_goals refine aF ?_ (by rfl)
         all_goals simp only [aCh] at hc
         all_goals rw [hop]
         all_goals first | rw [zt hc,Bool.true_and] | rw [zf hc,Bool.false_and]
end Go.Proofs.YtifefbhllfdmlaaGreatDoor
namespace Go.Proofs.YtifefbhllfdmlaaGreatDoor
open Go Go.Vo
open Nat (reduceAdd reduceSub reduceMul reduceLeDiff reduceLT reduceEqDiff)
open Int (reduceNeg)

def Y4 (s:bZ):Bool:=decide (s.sorts.length≤40) && decide (s.below.length≤200) && decide (s.ops.length+s.funs.length≤200) && yI s && wV s && aXf s && s.values.all (iL s) && decide s.values.Nodup
theorem exists_eq (s:bZ) (x:Str):iL s x=existsA s x:=by
 have:=aCo x
 unfold iL existsA keysOf
 rw [cI]
 have h2:=cI.1 this
 simp only [fM] at h2
 simp [h2]
theorem aAk {t:Str}:nC t=tQ t:=by
 unfold nC tQ wB
 have hc:(fun c:UInt8=>mL c.toNat)=fun c=>lX c.toNat:=by
   funext c
   simp only [mL,lX,part,Bool.or_assoc]
 rw [hc]
 have hn:dN t=true→1≤t.length:=by
   intro h
   cases t with
   | nil=>revert h; decide
   | cons a l=>simp
 cases h:dN t
 · simp
 · have:=hn h
   simp [this]
   by_cases h2:t.length≤20 <;> simp [h2]
theorem aWz (p:Str × Str):pA p=okR p:=by
 unfold pA okR
 rw [aAk]
 have h0:tQ []=false:=by decide
 by_cases h2:p.2=[]
 · simp [h2]
 · by_cases h1:p.1=[]
   · simp [h2,h1,h0]
   · simp [h2,h1]
theorem bUd (s:bZ) (o:LOp):aRd s o=opR s o:=by
 have hp:(fun p=>pA p)=okR:=by funext p; exact aWz p
 have hx:s.sorts.contains o.sort=s.sorts.contains o.sort:=rfl
 have he:o.args.all (existsA s)=o.args.all (iL s):=by congr 1; funext x; exact (exists_eq s x).symm
 unfold aRd opR opHead aFu qG tX aDx aPm aFs pX
 rw [show pA=okR from hp,he]
 rw [cI]
 by_cases hz:o.pieces=[]
 · simp only [hz,List.all_nil,aX,eD,if_true,aA,decide_eq_true_eq,bJ,bV]
   constructor
   · rintro h; simp_all; omega
   · rintro h; simp_all
 · have:o.pieces.isEmpty=false:=by simpa using hz
   have hl:0 < o.pieces.length:=yC.2 hz
   simp only [hz,this,hl,if_false,aA,decide_eq_true_eq,bJ,bV,aM,false_or,true_or,and_true]
   constructor
   · rintro h; simp_all
   · rintro h; simp_all
theorem bNa (s:bZ) (o:LOp):S0 s o=aVf s o:=by
 have he:o.args.all (existsA s)=o.args.all (iL s):=by congr 1; funext x; exact (exists_eq s x).symm
 unfold S0 aVf aFu
 rw [he,exists_eq]
 rw [cI]
 simp only [aA,decide_eq_true_eq,bV]
 constructor
 · rintro h; simp_all
 · rintro h; simp_all
theorem aVz (s:bZ):yI s=(s.sorts.all yT && decide (s.sorts.length≤40) && decide s.sorts.Nodup):=by
 unfold yI
 have:yS=yT:=by funext x; simp only [yT,yS,aCo]
 rw [this]
theorem aUb (s:bZ) (b:Str × Str):(jO s b && oO s b)=qL s b:=by
 unfold jO oO qL aCt
 rw [exists_eq]
 by_cases h:s.sorts.contains b.2=true
 · have h2:existsA s b.2=true:=by
     rw [← exists_eq]; unfold iL; rw [h,dE]
   rw [h,h2,if_pos rfl]
   rw [cI]; simp only [aA,bV,decide_eq_true_eq,decide_eq_false_iff_not]; exact ⟨fun ⟨⟨⟨a,b⟩,c⟩,d⟩=>⟨⟨⟨b,a⟩,c⟩,d⟩,fun ⟨⟨⟨a,b⟩,c⟩,d⟩=>⟨⟨⟨b,a⟩,c⟩,d⟩⟩
 · have h:=gE.2 h
   rw [h]; simp
theorem bJz {α:Type} {p q:α→Bool} {l:List α}:(l.all p && l.all q)=l.all fun x=>p x && q x:=by
 induction l with
 | nil=>rfl
 | cons x l ih=>
   simp only [eC,← ih]
   cases p x <;> cases q x <;> cases l.all p <;> cases l.all q <;> rfl
theorem bAs (s:bZ):wV s=(s.below.all (qL s) && decide s.below.Nodup && decide (s.below.length≤200)):=by
 have h:s.below.all (qL s)=(s.below.all (jO s) && s.below.all (oO s)):=by
   rw [bJz]; congr 1; funext b; exact (aUb s b).symm
 rw [h,wV]
 cases s.below.all (jO s) <;> cases s.below.all (oO s) <;> simp
theorem aVm (s:bZ):Y4 s=dM s:=by
 have h1:s.ops.all (aRd s)=s.ops.all (opR s):=by congr 1; funext x; exact bUd s x
 have h2:s.funs.all (S0 s)=s.funs.all (aVf s):=by congr 1; funext x; exact bNa s x
 have h3:s.values.all (existsA s)=s.values.all (iL s):=by congr 1; funext x; exact (exists_eq s x).symm
 have h4:(lN s).length=s.ops.length+s.funs.length:=by simp [lN]
 have h5:oI s=lN s:=rfl
 unfold Y4 dM nA nT oS
 rw [aVz,bAs,aXf,h1,h2,h3,h4,h5]
 rw [cI]
 simp only [aA]
 constructor
 · rintro ⟨⟨⟨⟨⟨⟨⟨a,b⟩,c⟩,⟨d,e⟩,f⟩,⟨g,h⟩,i⟩,⟨⟨j,k⟩,l⟩,m⟩,n⟩,o⟩
   exact ⟨⟨⟨⟨⟨⟨a,b⟩,c⟩,h⟩,o⟩,⟨f,d⟩,m⟩,⟨⟨g,n⟩,j⟩,k⟩
 · rintro ⟨⟨⟨⟨⟨⟨a,b⟩,c⟩,h⟩,o⟩,⟨f,d⟩,m⟩,⟨⟨g,n⟩,j⟩,k⟩
   exact ⟨⟨⟨⟨⟨⟨⟨a,b⟩,c⟩,⟨d,a⟩,f⟩,⟨g,h⟩,b⟩,⟨⟨j,k⟩,c⟩,m⟩,n⟩,o⟩
theorem cBi {n:Nat}:(40 < (n:Int))↔¬ n≤40:=by omega
theorem bUy {n:Nat}:(200 < (n:Int))↔¬ n≤200:=by omega
theorem bMx {n m:Nat}:(200 < (n:Int)+m)↔¬ n+m≤200:=by omega
theorem aTd (s:bZ) (hm:Small s) (hs:OkS s): CT 52 [.agg (aO s)] (.b (dM s)):=by
 refine aL mixed Tryz.func52 g0 ?_
 · skip
   have h1:=hm.sorts
   have h2:=hm.below
   have h3:=hm.ops
   have h4:=hm.funs
   have h5:=hm.values
   rw [← aVm]
   (refine zs3 (bWg s hs) (bWf s hs h2) (bWe s hs) ?_; repeat' first | exact trivial | refine zJ ?_ ?_ | refine zH fun hc=>?_)
   all_goals try simp only [cBi,bUy,bMx,L6] at *
   all_goals first | (refine aF ?_ (by rfl); simp only [Y4, *,decide_true,decide_false,Bool.and_false,Bool.false_and,Bool.and_true,Bool.true_and,Bool.not_true,Bool.not_false]; done) | skip
   refine bP (fun (k:Nat)=>[.k,.k,.j,.k,.j,.k,.k,.k,.k,.k,.k,.k,.k,.k,.k,.k,.k,.k,.k,.k,.k,.k,.k,.k,.k,.k,.k,.k,.k,.k,.k,.k,.k,.k,.k,.k,.k,.k,.k,.k,.k,.k,.k,.v (.i .i64 k),.j,.j,.j,.j,.j,.j,.j,.j,.k,.k,.k]) (fun k=>[.box false [.sl (s.sorts.map .s) s.sorts.length,.sl (s.below.flatMap cD) s.below.length,.sl (s.ops.flatMap bK) s.ops.length,.sl (s.funs.flatMap bK) s.funs.length,.sl (s.values.map .s) s.values.length]]) (fun k=>k≤s.values.length∧∀ j,j < k→iL s (s.values.getD j [])=true) (fun k=>s.values.length - k) (0) ⟨aG _,fun j h=>by omega⟩ rfl (by simp [eN]) ?_
   rintro k j ⟨hk,ha⟩
   refine zg ?_
   (refine zs2 (aMf s (s.values.getD k [])) (aZi s.values) ?_; repeat' first | exact trivial | refine zJ ?_ ?_ | refine zH fun hc=>?_)
   · refine aF ?_ (by rfl)
     have hno:s.values.all (iL s)=false:=fH (d:=[]) (j:=k) (by omega) hc
     rw [Y4,hno]; simp
   · exact ⟨k+1,⟨by omega,bD ha hc⟩,by omega,by simp⟩
   · refine aF ?_ (by rfl)
     have hall:s.values.all (iL s)=true:=kC (d:=[]) (fun j hj=>ha j (by omega))
     simp only [Y4, *,decide_true,decide_false,Bool.and_false,Bool.false_and,Bool.and_true,Bool.true_and,Bool.not_true,Bool.not_false]
end Go.Proofs.YtifefbhllfdmlaaGreatDoor
namespace Go.Proofs.YtifefbhllfdmlaaGreatDoor
open Go Go.Vo
open Nat (reduceAdd reduceSub reduceMul reduceLeDiff reduceLT reduceEqDiff)
open Int (reduceNeg)

theorem aSf {s:bZ} (h:few s=true):Small s:=by
 simp only [few,aA,decide_eq_true_eq] at h
 exact ⟨by omega,by omega,by omega,by omega,by omega⟩
end Go.Proofs.YtifefbhllfdmlaaGreatDoor
namespace Go.Proofs.YtifefbhllfdmlaaGreatDoor
open Go Go.Vo
open Nat (reduceAdd reduceSub reduceMul reduceLeDiff reduceLT reduceEqDiff)
open Int (reduceNeg)

def pY (s:bZ) (xs:List Str):Int:=if dM s then (if xs.all (existsA s) then 0 else 13) else 2
theorem bLm {s:bZ} {xs:List Str} (h:dM s=false):pY s xs=2:=by simp [pY,h]
theorem bLl {s:bZ} {xs:List Str} (h:dM s=true) (h2:xs.all (existsA s)=false):pY s xs=13:=by simp only [pY,h,h2,if_true,aM,if_false]
theorem bCc {s:bZ} {xs:List Str} (h:dM s=true) (h2:xs.all (existsA s)=true):pY s xs=0:=by simp only [pY,h,h2,if_true]
theorem aUg {s:bZ} {xs:List Str} {b:Bool}:bJq s xs b=.tup [.b (decide (pY s xs=0) && b),.i .i64 (pY s xs)]:=by
 unfold bJq pY
 split
 · split <;> simp
 · simp
theorem bNs (s:bZ) (xs:List Str) (hm:Small s) (hs:OkS s) (hx:xs.length≤1000): CT 214 [.agg (aO s),avs xs] (.i .i64 (pY s xs)):=by
 refine bQ mixed Tryz.func214 g0 ?_
 · simp -implicitDefEqProofs (disch:=omega) only [Tryz.f214,go_sem,List.replicate,simprocAttr,avs]
   have h1:=hs.sorts
   (refine zs1 (aTd s hm hs) ?_; repeat' first | exact trivial | refine zJ ?_ ?_ | refine zH fun hc=>?_)
   · exact aF (by rw [bLm hc]) rfl
   · refine bP (fun (k:Nat)=>[.k,.k,.k,.k,.j,.k,.j,.k,.k,.k,.k,.k,.v (.i .i64 k),.j,.j,.j,.j,.j,.j,.j,.j]) (fun k=>[.box false [.sl (s.sorts.map .s) s.sorts.length,.sl (s.below.flatMap cD) s.below.length,.sl (s.ops.flatMap bK) s.ops.length,.sl (s.funs.flatMap bK) s.funs.length,.sl (s.values.map .s) s.values.length]]) (fun k=>k≤xs.length∧∀ j,j < k→existsA s (xs.getD j [])=true) (fun k=>xs.length - k) (0) ⟨aG _,fun j h=>by omega⟩ rfl (by simp [eN]) ?_
     rintro k j ⟨hk,ha⟩
     have hv:=hc
     clear hc
     refine zg ?_
     (refine zs1 (aMf s (xs.getD k []) h1) ?_; repeat' first | exact trivial | refine zJ ?_ ?_ | refine zH fun hc=>?_)
     · rw [exists_eq] at hc
       exact aF (by rw [bLl hv (fH (d:=[]) (j:=k) (by omega) hc)]) rfl
     · rw [exists_eq] at hc
       exact ⟨k+1,⟨by omega,bD ha hc⟩,by omega,by simp⟩
     · exact aF (by rw [bCc hv (kC (d:=[]) (fun j hj=>ha j (by omega)))]) rfl
def qZ (s:bZ) (x y:Str):Bool:=decide (y=pP) || (climb s.below x).contains y
theorem zO {s:bZ} {x y:Str} (h:existsA s x=true):qZ s x y=rE s x y:=by simp only [qZ,rE,aCt,h,if_true]
theorem aZg (s:bZ) (x y:Str) (hm:Small s): CT 216 [.agg (aO s),.s x,.s y] (.b (qZ s x y)):=by
 refine aL mixed Tryz.func216 g0 ?_
 · skip
   have hl:=wO s.below x
   have h2:=hm.below
   (refine zs2 (bEd s x) (zI (climb s.below x) y) ?_; repeat' first | exact trivial | refine zJ ?_ ?_ | refine zH fun hc=>?_)
   all_goals (refine aF ?_ (by rfl))
   all_goals simp_all [qZ,pP]
theorem bWb (s:bZ) (x y:Str) (hm:Small s): CT 229 [.agg (aO s),.s x,.s y] (.b (qZ s x y || qZ s y x)):=by
 refine aL mixed Tryz.func229 g0 ?_
 · skip
   (refine zs2 (aZg s x y hm) (aZg s y x hm) ?_; repeat' first | exact trivial | refine zJ ?_ ?_ | refine zH fun hc=>?_)
   all_goals (refine aF ?_ (by rfl))
   all_goals simp_all
theorem bFj {s:bZ} {xs:List Str} (h:pY s xs=0):dM s=true∧xs.all (existsA s)=true:=by
 unfold pY at h
 split at h
 · rename_i hv
   split at h
   · rename_i hx; exact ⟨hv,hx⟩
   · cases h
 · cases h
theorem bSj {s:bZ} {xs:List Str} {b:Bool} (h:¬ pY s xs=0):bJq s xs b=.tup [.b false,.i .i64 (pY s xs)]:=by rw [aUg,zf h]; rfl
theorem bSk {s:bZ} {xs:List Str} {b c:Bool} (h:pY s xs=0) (hb:dM s=true→xs.all (existsA s)=true→b=c):bJq s xs c=.tup [.b b,.i .i64 0]:=by
 obtain ⟨h1,h2⟩:=bFj h
 rw [aUg,h,hb h1 h2]; rfl
theorem bWn (s:bZ) (x:Str) (hm:Small s) (hs:OkS s): CT 172 [.agg (aO s),.s x] (bJq s [] (existsA s x)):=by
 refine aL mixed Tryz.func172 g0 ?_
 · skip
   have h1:=hs.sorts
   by_cases h0:pY s []=0
   · rw [bSk h0 (b:=iL s x) (fun _ h=>exists_eq s x)]
     (refine zx2 h0 (bNs s [] hm hs (by simp)) (aMf s x h1) ?_; repeat' first | exact trivial | refine zJ ?_ ?_ | refine zH fun hc=>?_)
     exact aF rfl rfl
   · rw [bSj h0]
     (refine zx1 h0 (bNs s [] hm hs (by simp)) ?_; repeat' first | exact trivial | refine zJ ?_ ?_ | refine zH fun hc=>?_)
     exact aF rfl rfl
theorem cBq (s:bZ) (x:Str) (hm:Small s) (hs:OkS s):CT 172 [.agg (aO s),.s x] (.tup [.b (decide (pY s []=0) && existsA s x),.i .i64 (pY s [])]):=aUg ▸ bWn s x hm hs
end Go.Proofs.YtifefbhllfdmlaaGreatDoor
namespace Go.Proofs.YtifefbhllfdmlaaGreatDoor
open Go Go.Vo
open Nat (reduceAdd reduceSub reduceMul reduceLeDiff reduceLT reduceEqDiff)
open Int (reduceNeg)

theorem bIh {α:Type} {l:List α} {p:α→Bool} {k:Nat} {d:α} (hk:k < l.length) (h:p (l.getD k d)=true) (hb:∀ j,j < k→(!p (l.getD j d))=true):l.find? p=some (l.getD k d):=by
 rw [List.find?_eq_some_iff_getElem]
 refine ⟨h,k,hk,by simp [List.getD,hk],fun j hj=>?_⟩
 have:=hb j hj
 simpa [List.getD,show j < l.length by omega] using this
theorem bIg {α:Type} {l:List α} {p:α→Bool} {d:α} (hb:∀ j,j < l.length→(!p (l.getD j d))=true):l.find? p=none:=by
 rw [List.find?_eq_none]
 intro x hx
 obtain ⟨j,hj,rfl⟩:=bU.1 hx
 have:=hb j hj
 simpa [List.getD,hj] using this
theorem aBt {h:List AObj} {b:Bool}:Fin h (.tup [.agg [.s [],.e0,.s [],.e0,.i .i64 0,.i .i64 0,.e0],.b b]) (.tup [elO default,.b b]):=
 .inr ⟨⟨⟨rfl,rfl,rfl,rfl,rfl,rfl,rfl,trivial⟩,rfl,trivial⟩,by simp [elO,bK,bW,finIdsL,avs,avb,avi],by simp [elO,bK,bW,finIdsL,avs,avb,avi]⟩
def gV (r:Option LOp):AV:=match r with
 | some o=>.tup [elO o,.b true]
 | none=>.tup [elO default,.b false]
theorem aJe (l:List LOp) (x:Str) (hl:l.length≤140737488355328): CT 191 [avo l,.s x] (gV (l.find? fun o=>decide (o.name=x))):=by
 refine bQ mixed Tryz.func191 g0 ?_
 · simp -implicitDefEqProofs (disch:=omega) only [Tryz.f191,go_sem,List.replicate,simprocAttr,avo]
   refine eE (fun (k:Nat)=>[.k,.k,.k,.k,.k,.j,.k,.j,.k,.k,.v (.i .i64 k),.j,.j,.j,.j,.j,.j,.j,.j,.j,.k]) (fun k=>[.box false [.s [],.e0,.s [],.e0,.i .i64 0,.i .i64 0,.e0]]) (fun k=>k≤l.length∧∀ j,j < k→(!decide ((l.getD j default).name=x))=true) (fun k=>l.length - k) (0) _ ⟨aG _,fun j h=>by omega⟩ rfl (by simp [eN]) ?_
   rintro k g j ⟨hk,ha⟩
   refine zg ?_
   (refine zs0 ?_; repeat' first | exact trivial | refine zJ ?_ ?_ | refine zH fun hc=>?_)
   · have e:(l.find? fun o=>decide (o.name=x))=some (l.getD k default):=bIh (by omega) (zt hc) ha
     rw [e]
     exact aF rfl (by simp only [gV,elO,pers,persL,aAn,bK,avs,avb,avi,jW,eP,iR,dY])
   · exact ⟨k+1,_,⟨by omega,bD ha (by rw [zf hc]; rfl)⟩,by omega,rfl,by simp⟩
   · have e:(l.find? fun o=>decide (o.name=x))=none:=bIg (d:=default) (fun j hj=>ha j (by omega))
     rw [e]
     exact aBt
end Go.Proofs.YtifefbhllfdmlaaGreatDoor

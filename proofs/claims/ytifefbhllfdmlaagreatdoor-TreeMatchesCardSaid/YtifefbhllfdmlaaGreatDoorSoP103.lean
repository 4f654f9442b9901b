/-
  Contracts of the library (sorting, fields, a byte in a string) at this program: laid by the kit's tool; no condition.
-/
import Derived.Shelf.Small.Strs
import Derived.Shelf.Strconv.Itoa3
import Derived.Shelf.Strings.Builder1
import Derived.Shelf.Strings.Fields
import Derived.Test.YtifefbhllfdmlaaGreatDoorProg
import Derived.Test.YtifefbhllfdmlaaGreatDoorSoP102
import Derived.Sort.Walk0
set_option linter.unusedVariables false
set_option maxRecDepth 100000
set_option linter.unusedSimpArgs false
set_option maxHeartbeats 4000000
namespace Go.Proofs
open Go.Shelf
def Tryz.lays169_ren:Go.Shelf.Ren:=⟨fun | 169=>220 | n=>n,fun | 70=>230 | 9=>9 | 0=>0 | 72=>233 | 37=>231 | 127=>264 | 3=>3 | 5=>5 | n=>n,fun | n=>n⟩
theorem Tryz.lays169:Go.Proofs.Lays.n169 Tryz.prog Tryz.lays169_ren:={
 mixed:=by kernel_rfl
 f169:=Tryz.func220.trans (congrArg some (by kernel_rfl))
 t0:=Tryz.underlying0
 a0:=Tryz.isAgg0
 z0:=Tryz.sizeOf0
 v0:=Tryz.zeroValue0
 t3:=Tryz.underlying3
 a3:=Tryz.isAgg3
 z3:=Tryz.sizeOf3
 v3:=Tryz.zeroValue3
 t9:=Tryz.underlying9
 a9:=Tryz.isAgg9
 z9:=Tryz.sizeOf9
 v9:=Tryz.zeroValue9
 t37:=Tryz.underlying231
 a37:=Tryz.isAgg231
 z37:=Tryz.sizeOf231
 v37:=Tryz.zeroValue231
 t70:=Tryz.underlying230
 a70:=Tryz.isAgg230
 z70:=Tryz.sizeOf230
 v70:=Tryz.zeroValue230
 t72:=Tryz.underlying233
 a72:=Tryz.isAgg233
 z72:=Tryz.sizeOf233
 v72:=Tryz.zeroValue233
 t127:=Tryz.underlying264
 a127:=Tryz.isAgg264
 z127:=Tryz.sizeOf264
 v127:=Tryz.zeroValue264 }
theorem Tryz.Builder_Extra_169:Builder.Extra Tryz.prog Tryz.lays169_ren:={
 sizeBuilder:=by kernel_rfl
 liesBuilder:=by kernel_rfl
 t5:=Tryz.underlying5
 a5:=Tryz.isAgg5
 z5:=Tryz.sizeOf5
 v5:=Tryz.zeroValue5
 infoByte:=by kernel_rfl
 cellsByte:=by kernel_rfl
 sizeByte:=by kernel_rfl
 neB5:=by decide }
def Tryz.lays137_ren:Go.Shelf.Ren:=⟨fun | 137=>232 | 217=>257 | 266=>270 | n=>n,fun | 9=>9 | 5=>5 | 3=>3 | n=>n,fun | n=>n⟩
theorem Tryz.lays137:Go.Proofs.Lays.n137 Tryz.prog Tryz.lays137_ren:={
 mixed:=by kernel_rfl
 f137:=Tryz.func232.trans (congrArg some (by kernel_rfl))
 f217:=Tryz.func257.trans (congrArg some (by kernel_rfl))
 f266:=Tryz.func270.trans (congrArg some (by kernel_rfl))
 t3:=Tryz.underlying3
 a3:=Tryz.isAgg3
 z3:=Tryz.sizeOf3
 v3:=Tryz.zeroValue3
 t5:=Tryz.underlying5
 a5:=Tryz.isAgg5
 z5:=Tryz.sizeOf5
 v5:=Tryz.zeroValue5
 t9:=Tryz.underlying9
 a9:=Tryz.isAgg9
 z9:=Tryz.sizeOf9
 v9:=Tryz.zeroValue9 }
open Go.RowKit in
theorem Tryz.strings_IndexByte (s:ByteArray) (c:Int) (w:World) :
   Calls Tryz.prog 232 #[.string s,.int .u8 c] w fun e w'=>e=.returned (.int .i64 (Lib.indexByte s.data.toList c.toNat.toUInt8))∧w'=w:=Any.strings_IndexByte Tryz.lays137 s c w
def Tryz.laysM171_ren:Go.Shelf.Ren:=⟨fun | 171=>178 | 243=>218 | 246=>244 | 283=>262 | 284=>263 | 285=>264 | 286=>265 | 129=>272 | 317=>271 | 318=>273 | 319=>274 | 320=>275 | 337=>277 | 338=>278 | n=>n,fun | 3=>3 | 9=>9 | 2=>2 | 4=>4 | 171=>277 | 0=>0 | 53=>278 | 37=>231 | 5=>5 | 173=>281 | 212=>296 | 51=>273 | 20=>20 | 213=>297 | 46=>298 | 232=>305 | 233=>306 | n=>n,fun | 17=>2 | 18=>4 | 19=>5 | n=>n⟩
theorem Tryz.laysM171:Go.Proofs.LaysM.n171 Tryz.prog Tryz.laysM171_ren:={
 mixed:=by kernel_rfl
 f129:=Tryz.func272.trans (congrArg some (by kernel_rfl))
 f171:=Tryz.func178.trans (congrArg some (by kernel_rfl))
 f243:=Tryz.func218.trans (congrArg some (by kernel_rfl))
 f246:=Tryz.func244.trans (congrArg some (by kernel_rfl))
 f283:=Tryz.func262.trans (congrArg some (by kernel_rfl))
 f284:=Tryz.func263.trans (congrArg some (by kernel_rfl))
 f285:=Tryz.func264.trans (congrArg some (by kernel_rfl))
 f286:=Tryz.func265.trans (congrArg some (by kernel_rfl))
 f317:=Tryz.func271.trans (congrArg some (by kernel_rfl))
 f318:=Tryz.func273.trans (congrArg some (by kernel_rfl))
 f319:=Tryz.func274.trans (congrArg some (by kernel_rfl))
 f320:=Tryz.func275.trans (congrArg some (by kernel_rfl))
 f337:=Tryz.func277.trans (congrArg some (by kernel_rfl))
 f338:=Tryz.func278.trans (congrArg some (by kernel_rfl))
 t0:=Tryz.underlying0
 a0:=Tryz.isAgg0
 z0:=Tryz.sizeOf0
 v0:=Tryz.zeroValue0
 t2:=Tryz.underlying2
 a2:=Tryz.isAgg2
 z2:=Tryz.sizeOf2
 v2:=Tryz.zeroValue2
 t3:=Tryz.underlying3
 a3:=Tryz.isAgg3
 z3:=Tryz.sizeOf3
 v3:=Tryz.zeroValue3
 t4:=Tryz.underlying4
 a4:=Tryz.isAgg4
 z4:=Tryz.sizeOf4
 v4:=Tryz.zeroValue4
 t5:=Tryz.underlying5
 a5:=Tryz.isAgg5
 z5:=Tryz.sizeOf5
 v5:=Tryz.zeroValue5
 t9:=Tryz.underlying9
 a9:=Tryz.isAgg9
 z9:=Tryz.sizeOf9
 v9:=Tryz.zeroValue9
 t20:=Tryz.underlying20
 a20:=Tryz.isAgg20
 z20:=Tryz.sizeOf20
 v20:=Tryz.zeroValue20
 t37:=Tryz.underlying231
 a37:=Tryz.isAgg231
 z37:=Tryz.sizeOf231
 v37:=Tryz.zeroValue231
 t46:=Tryz.underlying298
 a46:=Tryz.isAgg298
 z46:=Tryz.sizeOf298
 v46:=Tryz.zeroValue298
 t51:=Tryz.underlying273
 a51:=Tryz.isAgg273
 z51:=Tryz.sizeOf273
 v51:=Tryz.zeroValue273
 t53:=Tryz.underlying278
 a53:=Tryz.isAgg278
 z53:=Tryz.sizeOf278
 v53:=Tryz.zeroValue278
 t171:=Tryz.underlying277
 a171:=Tryz.isAgg277
 z171:=Tryz.sizeOf277
 v171:=Tryz.zeroValue277
 t173:=Tryz.underlying281
 a173:=Tryz.isAgg281
 z173:=Tryz.sizeOf281
 v173:=Tryz.zeroValue281
 t212:=Tryz.underlying296
 a212:=Tryz.isAgg296
 z212:=Tryz.sizeOf296
 v212:=Tryz.zeroValue296
 t213:=Tryz.underlying297
 a213:=Tryz.isAgg297
 z213:=Tryz.sizeOf297
 t232:=Tryz.underlying305
 a232:=Tryz.isAgg305
 z232:=Tryz.sizeOf305
 v232:=Tryz.zeroValue305
 t233:=Tryz.underlying306
 a233:=Tryz.isAgg306
 z233:=Tryz.sizeOf306
 v233:=Tryz.zeroValue306
 g17:=by kernel_rfl
 g18:=by kernel_rfl
 g19:=by kernel_rfl
 i0:=by kernel_rfl
 i2:=by kernel_rfl
 i3:=by kernel_rfl
 i4:=by kernel_rfl
 i5:=by kernel_rfl
 i9:=by kernel_rfl
 i20:=by kernel_rfl
 i37:=by kernel_rfl
 i46:=by kernel_rfl
 i51:=by kernel_rfl
 i53:=by kernel_rfl
 i171:=by kernel_rfl
 i173:=by kernel_rfl
 i212:=by kernel_rfl
 i232:=by kernel_rfl
 i233:=by kernel_rfl
 m17:=by kernel_rfl
 m18:=by kernel_rfl
 m19:=by kernel_rfl }
open Go.RowKit Go.Sort Go.Lib in
theorem Tryz.strconv_Itoa (n:Int) (h0 : -9223372036854775808≤n) (h1:n≤9223372036854775807) (w:World) (htab:Lib.TabIs Tryz.prog w "internal/strconv.uint64pow10" .u64 Lib.pow10Tab) :
   Calls Tryz.prog 178 #[.int .i64 n] w fun e w'=>e=.returned (.string ⟨(Lib.itoa n).toArray⟩)∧∃ k os,w'=grow (w.drewN k) os:=Any.strconv_Itoa Tryz.laysM171 n h0 h1 w htab
def Tryz.lays157_ren:Go.Shelf.Ren:=⟨fun | 157=>196 | 229=>230 | 199=>231 | 261=>256 | 311=>268 | 312=>269 | n=>n,fun | 9=>9 | 31=>22 | 3=>3 | 5=>5 | 4=>4 | 119=>249 | 0=>0 | 40=>251 | 152=>270 | 21=>21 | 154=>272 | 51=>273 | 141=>275 | 196=>286 | 193=>283 | 198=>289 | 49=>287 | 194=>284 | 201=>292 | 226=>302 | 46=>298 | 227=>303 | n=>n,fun | 0=>0 | 6=>1 | n=>n⟩
theorem Tryz.lays157:Go.Proofs.Lays.n157 Tryz.prog Tryz.lays157_ren:={
 mixed:=by kernel_rfl
 f157:=Tryz.func196.trans (congrArg some (by kernel_rfl))
 f199:=Tryz.func231.trans (congrArg some (by kernel_rfl))
 f229:=Tryz.func230.trans (congrArg some (by kernel_rfl))
 f261:=Tryz.func256.trans (congrArg some (by kernel_rfl))
 f311:=Tryz.func268.trans (congrArg some (by kernel_rfl))
 f312:=Tryz.func269.trans (congrArg some (by kernel_rfl))
 t0:=Tryz.underlying0
 a0:=Tryz.isAgg0
 z0:=Tryz.sizeOf0
 v0:=Tryz.zeroValue0
 t3:=Tryz.underlying3
 a3:=Tryz.isAgg3
 z3:=Tryz.sizeOf3
 v3:=Tryz.zeroValue3
 t4:=Tryz.underlying4
 a4:=Tryz.isAgg4
 z4:=Tryz.sizeOf4
 v4:=Tryz.zeroValue4
 t5:=Tryz.underlying5
 a5:=Tryz.isAgg5
 z5:=Tryz.sizeOf5
 v5:=Tryz.zeroValue5
 t9:=Tryz.underlying9
 a9:=Tryz.isAgg9
 z9:=Tryz.sizeOf9
 v9:=Tryz.zeroValue9
 t21:=Tryz.underlying21
 a21:=Tryz.isAgg21
 z21:=Tryz.sizeOf21
 v21:=Tryz.zeroValue21
 t31:=Tryz.underlying22
 a31:=Tryz.isAgg22
 z31:=Tryz.sizeOf22
 v31:=Tryz.zeroValue22
 t40:=Tryz.underlying251
 a40:=Tryz.isAgg251
 z40:=Tryz.sizeOf251
 v40:=Tryz.zeroValue251
 t46:=Tryz.underlying298
 a46:=Tryz.isAgg298
 z46:=Tryz.sizeOf298
 v46:=Tryz.zeroValue298
 t49:=Tryz.underlying287
 a49:=Tryz.isAgg287
 z49:=Tryz.sizeOf287
 v49:=Tryz.zeroValue287
 t51:=Tryz.underlying273
 a51:=Tryz.isAgg273
 z51:=Tryz.sizeOf273
 v51:=Tryz.zeroValue273
 t119:=Tryz.underlying249
 a119:=Tryz.isAgg249
 z119:=Tryz.sizeOf249
 t141:=Tryz.underlying275
 a141:=Tryz.isAgg275
 z141:=Tryz.sizeOf275
 v141:=Tryz.zeroValue275
 t152:=Tryz.underlying270
 a152:=Tryz.isAgg270
 z152:=Tryz.sizeOf270
 v152:=Tryz.zeroValue270
 t154:=Tryz.underlying272
 a154:=Tryz.isAgg272
 z154:=Tryz.sizeOf272
 v154:=Tryz.zeroValue272
 t193:=Tryz.underlying283
 a193:=Tryz.isAgg283
 z193:=Tryz.sizeOf283
 v193:=Tryz.zeroValue283
 t194:=Tryz.underlying284
 a194:=Tryz.isAgg284
 z194:=Tryz.sizeOf284
 v194:=Tryz.zeroValue284
 t196:=Tryz.underlying286
 a196:=Tryz.isAgg286
 z196:=Tryz.sizeOf286
 v196:=Tryz.zeroValue286
 t198:=Tryz.underlying289
 a198:=Tryz.isAgg289
 z198:=Tryz.sizeOf289
 v198:=Tryz.zeroValue289
 t201:=Tryz.underlying292
 a201:=Tryz.isAgg292
 z201:=Tryz.sizeOf292
 v201:=Tryz.zeroValue292
 t226:=Tryz.underlying302
 a226:=Tryz.isAgg302
 z226:=Tryz.sizeOf302
 v226:=Tryz.zeroValue302
 t227:=Tryz.underlying303
 a227:=Tryz.isAgg303
 z227:=Tryz.sizeOf303
 v227:=Tryz.zeroValue303
 g0:=by kernel_rfl
 g6:=by kernel_rfl }
end Go.Proofs
namespace Go.Proofs.YtifefbhllfdmlaaGreatDoor
open Go Go.Vo
open Nat (reduceAdd reduceSub reduceMul reduceLeDiff reduceLT reduceEqDiff)
open Int (reduceNeg)

theorem bKs (l:List LOp) (hl:l.length≤1172812402961): CT 87 [avo l] (.own 1 ((l.map LOp.name).map .s) l.length):=by
 refine aE mixed Tryz.func87 g0 ?_
 · skip
   refine bQ (fun (s:Nat × AV × List AObj)=>[.k,.k,.k,.v (s.2.1),.k,.j,.k,.k,.v (.i .i64 (s.1:Nat)),.j,.j,.j,.j,.j,.j,.j,.j,.j,.k]) (fun s=>s.2.2) (fun s=>s.1≤l.length∧eP 1 0 s.2.2 s.2.1 (((l.take s.1).map LOp.name).map .s) s.1) (fun s=>l.length - s.1) ((0,.e0,[])) ⟨aF _,eR⟩ rfl (by simp [fD]) ?_
   rintro ⟨k,out,g⟩ j ⟨hk,ho⟩
   dsimp only at hk ho
   refine zg ?_
   (refine zs0 ?_; repeat' first | exact trivial | refine zJ ?_ ?_ | refine zH fun hc=>?_)
   · refine eD (pre:=[]) (news:=[.s (l.getD k default).name]) (m:=1) ho rfl rfl aSq zo9 sz9 by9 rfl (by decide) (by simp -implicitDefEqProofs (disch:=omega) only [go_sem,simprocAttr]) (by simp -implicitDefEqProofs (disch:=omega) only [go_sem,simprocAttr]) ⟨by omega,by omega⟩ ?_
     intro out' g' ho' _
     refine zg ?_
     refine ⟨(k+1,out',g'),⟨by omega,?_⟩,by simp; omega,rfl,by simp⟩
     rw [eH (d:=default) (by omega),aV,aV]
     exact ho'
   · have h1:k=l.length:=by omega
     subst h1
     exact oQ (pre:=[]) (by simpa using ho) iA
end Go.Proofs.YtifefbhllfdmlaaGreatDoor
namespace Go.Proofs.YtifefbhllfdmlaaGreatDoor
open Go Go.Vo
open Nat (reduceAdd reduceSub reduceMul reduceLeDiff reduceLT reduceEqDiff)
open Int (reduceNeg)

def nX (x:Str) (L:List Str) (b:Str × Str):List Str:=if b.1=x∧L.contains b.2=false then L++[b.2] else L
def oL (l:List (Str × Str)) (x:Str) (L:List Str):List Str:=l.foldl (nX x) L
def climbG (l:List (Str × Str)):Nat→Nat→List Str→List Str
 | 0,_,L=>L
 | f+1,i,L=>if i < L.length then climbG l f (i+1) (oL l (L.getD i []) L) else L
def climb (l:List (Str × Str)) (a:Str):List Str:=climbG l (l.length+1) 0 [a]

theorem xM (x:Str) (L:List Str) (b:Str × Str):(nX x L b=L)∨(b.1=x∧L.contains b.2=false∧nX x L b=L++[b.2]):=by
 unfold nX
 split
 · rename_i h; exact .inr ⟨h.1,h.2,rfl⟩
 · exact .inl rfl
structure Climbs (l:List (Str × Str)) (a:Str) (L:List Str):Prop where
 nd:L.Nodup
 sub:∀ x ∈ L,x=a∨∃ b ∈ l,b.2=x
 me:a ∈ L
theorem Climbs.step {l:List (Str × Str)} {a x:Str} {L:List Str} {b:Str × Str} (h:Climbs l a L) (hb:b ∈ l):Climbs l a (nX x L b):=by
 rcases xM x L b with e | ⟨_,h2,e⟩
 · rw [e]; exact h
 · rw [e]
   refine ⟨?_,?_,by simp [h.me]⟩
   · rw [gU]
     refine ⟨h.nd,by simp,?_⟩
     intro y hy z hz hyz
     simp only [aU] at hz
     have:b.2 ∉ L:=by simpa using h2
     exact this (hz ▸ hyz ▸ hy)
   · intro y hy
     rcases bC.1 hy with hy | hy
     · exact h.sub y hy
     · simp only [aU] at hy; exact .inr ⟨b,hb,hy.symm⟩
theorem vD {α:Type} [DecidableEq α]:∀ {L M:List α},L.Nodup→(∀ x ∈ L,x ∈ M)→L.length≤M.length
 | [],M,_,_=>aF _
 | x :: L,M,hn,hs=>by
   rw [iV] at hn
   have hx:=hs x (by simp)
   have:=vD (L:=L) (M:=M.erase x) hn.2 (fun y hy=>by
     have hne:y ≠ x:=fun e=>hn.1 (e ▸ hy)
     exact (List.mem_erase_of_ne hne).2 (hs y (by simp [hy])))
   rw [List.length_erase_of_mem hx] at this
   have hpos:0 < M.length:=aAz hx
   simp only [aL]; omega
theorem Climbs.len {l:List (Str × Str)} {a:Str} {L:List Str} (h:Climbs l a L):L.length≤l.length+1:=by
 have:=vD (M:=a::l.map (·.2)) h.nd (fun x hx=>by
   rcases h.sub x hx with h1 | ⟨b,h1,h2⟩
   · simp [h1]
   · simp only [cD,dQ]; exact .inr ⟨b,h1,h2⟩)
 simpa using this
theorem uO {x:Str} {L:List Str} {b:Str × Str} {i:Nat} (hi:i < L.length):(nX x L b).getD i []=L.getD i []∧i < (nX x L b).length:=by
 rcases xM x L b with e | ⟨_,_,e⟩
 · rw [e]; exact ⟨rfl,hi⟩
 · rw [e]; simp [List.getD,aD hi]; omega
theorem D8 {l:List (Str × Str)} {i:Nat} {L:List Str} (h:L.length≤i):∀ f,climbG l f i L=L
 | 0=>rfl
 | f+1=>by simp only [climbG]; rw [if_neg (by omega)]

theorem kE {l:List (Str × Str)} {x:Str} {L:List Str} {k:Nat} (h:k < l.length):oL (l.take (k+1)) x L=nX x (oL (l.take k) x L) (l.getD k ([],[])):=by
 rw [eH (d:=([],[])) h]; simp [oL,mO]

structure wL (l:List (Str × Str)) (a:Str) (i:Nat) (L:List Str):Prop where
 le:i≤L.length
 c:Climbs l a L
 eq:climbG l (l.length+1 - i) i L=climb l a
theorem wL.start (l:List (Str × Str)) (a:Str):wL l a 0 [a]:=⟨by simp,⟨by simp,by simp,by simp⟩,rfl⟩
theorem wL.next {l:List (Str × Str)} {a:Str} {i:Nat} {L:List Str} (h:wL l a i L) (hi:i < L.length) (hc:Climbs l a (oL l (L.getD i []) L)) (hl:i < (oL l (L.getD i []) L).length):wL l a (i+1) (oL l (L.getD i []) L):=by
 refine ⟨hl,hc,?_⟩
 have:=h.c.len
 have e:l.length+1 - i=(l.length+1 - (i+1))+1:=by omega
 rw [← h.eq,e,climbG,if_pos hi]

theorem bNq (s:cI) (a:Str) (hb:s.below.length≤1000000): CT 95 [.agg (bB s),.s a] (.own 1 ((climb s.below a).map .s) (climb s.below a).length):=by
 refine aE mixed Tryz.func95 g0 ?_
 · skip
   refine bQ (fun (t:Nat × List Str × AV × List AObj)=>[.k,.k,.k,.k,.k,.v (t.2.2.1),.v (.i .i64 (t.1:Nat)),.k,.j,.k,.k,.j,.j,.j,.j,.j,.j,.j,.j,.j,.j,.j,.j,.j,.j,.j,.j,.j,.j,.j,.j,.j,.j,.j,.j,.j,.j,.j,.j,.j,.j,.j,.j,.j,.k]) (fun t=>.box false [.sl (s.sorts.map .s) s.sorts.length,.sl (s.below.flatMap aQ) s.below.length,.sl (s.ops.flatMap aI) s.ops.length,.sl (s.funs.flatMap aI) s.funs.length,.sl (s.values.map .s) s.values.length]::t.2.2.2) (fun t=>wL s.below a t.1 t.2.1∧eP 1 1 t.2.2.2 t.2.2.1 (t.2.1.map .s) t.2.1.length) (fun t=>s.below.length+1 - t.1) ((0,[a],.hs 1 0 1 false,[.arr false 1 [.s a]])) ⟨wL.start _ _,.inr ⟨0,rfl,rfl,rfl⟩⟩ rfl (by simp [fD]) ?_
   rintro ⟨i,L,out,g⟩ j ⟨hI,ho⟩
   dsimp only at hI ho
   have hlen:=hI.c.len
   have hle:=hI.le
   rcases ho with ⟨_,hnil,_⟩ | ⟨i0,rfl,hg,_⟩
   · exfalso
     have h1:L=[]:=by simpa using hnil
     have:=hI.c.me
     simp [h1] at this
   refine zh hg ?_
   (refine zx0 hg ?_; repeat' first | exact trivial | refine zJ ?_ ?_ | refine zH fun hc=>?_)
   · have hcl:i < L.length:=by simpa using hc
     refine bQ (fun (t:Nat × List Str × AV × List AObj)=>[.k,.k,.k,.k,.k,.v (t.2.2.1),.k,.k,.j,.k,.k,.k,.k,.k,.k,.k,.k,.k,.k,.k,.v (.i .i64 (t.1:Nat)),.j,.j,.j,.j,.j,.j,.j,.j,.j,.j,.j,.j,.j,.j,.j,.j,.j,.j,.j,.j,.j,.j,.j,.k]) (fun t=>.box false [.sl (s.sorts.map .s) s.sorts.length,.sl (s.below.flatMap aQ) s.below.length,.sl (s.ops.flatMap aI) s.ops.length,.sl (s.funs.flatMap aI) s.funs.length,.sl (s.values.map .s) s.values.length]::t.2.2.2) (fun t=>t.1≤s.below.length∧t.2.1=oL (s.below.take t.1) (L.getD i []) L∧Climbs s.below a t.2.1∧(t.2.1.getD i []=L.getD i []∧i < t.2.1.length)∧eP 1 1 t.2.2.2 t.2.2.1 (t.2.1.map .s) t.2.1.length) (fun t=>s.below.length - t.1) ((0,L,.hs (i0+1) 0 L.length false,g)) ⟨aF _,rfl,hI.c,⟨rfl,hcl⟩,.inr ⟨i0,rfl,hg,by simp⟩⟩ rfl (by simp [fD]) ?_
     rintro ⟨k,M,out,g⟩ j ⟨hk,hM,hc2,⟨hget,hlt⟩,ho⟩
     dsimp only at hk hM hc2 hget hlt ho
     have hlenM:=hc2.len
     have ho1:=ho
     rcases ho with ⟨_,hnil,_⟩ | ⟨i1,rfl,hg1,_⟩
     · exfalso
       have h1:M=[]:=by simpa using hnil
       simp [h1] at hlt
     have hi1:=aO hg1
     have hg2:∀ m,(g++m)[i1]? = some (.arr false 1 (M.map .s)):=fun m=>by rw [aD hi1]; exact hg1
     refine zh hg2 ?_
     (refine zx1 hg2 (G9 M (s.below.getD k ([],[])).2) ?_; repeat' first | exact trivial | refine zJ ?_ ?_ | refine zH fun hc=>?_)
     · have e:nX (L.getD i []) M (s.below.getD k ([],[]))=M++[(s.below.getD k ([],[])).2]:=if_pos ⟨by rw [← hget]; assumption,hc⟩
       have hp:=uO (x:=L.getD i []) (b:=s.below.getD k ([],[])) hlt
       have hst:=hc2.step (x:=L.getD i []) (bE (d:=([],[])) (show k < s.below.length by omega))
       rw [e] at hp hst
       refine ⟨(k+1,M++[(s.below.getD k ([],[])).2],.hs (g.length+2+1) 0 (M.length+1) false,_),⟨by omega,?_,hst,⟨hp.1.trans hget,hp.2⟩,.inr ⟨g.length+2,by simp,?_,by simp⟩⟩,by simp; omega,rfl,by simp⟩
       · rw [kE (by omega),← hM,e]
       · simp
     · have e:nX (L.getD i []) M (s.below.getD k ([],[]))=M:=if_neg (by rw [hc]; simp)
       refine ⟨(k+1,M,_,_),⟨by omega,?_,hc2,⟨hget,hlt⟩,ho1.more _⟩,by simp; omega,rfl,by simp⟩
       rw [kE (by omega),← hM,e]
     · have e:nX (L.getD i []) M (s.below.getD k ([],[]))=M:=if_neg (by rw [hget] at hc; exact fun h=>hc h.1)
       refine ⟨(k+1,M,_,_),⟨by omega,?_,hc2,⟨hget,hlt⟩,ho1.more _⟩,by simp; omega,rfl,by simp⟩
       rw [kE (by omega),← hM,e]
     · have h1:s.below.take k=s.below:=aJ (by omega)
       rw [h1] at hM
       subst hM
       exact ⟨(i+1,_,_,_),⟨hI.next hcl hc2 hlt,ho1⟩,by simp; omega,rfl,by simp⟩
   · have hd:=hI.eq
     rw [D8 (by omega)] at hd
     subst hd
     exact oQ (pre:=[_]) (.inr ⟨i0,rfl,hg,by simp⟩) iA
theorem bAv (s:cI) (a:Str) (hb:s.below.length≤1000000): CT 164 [.agg (bB s),.s a] (.own 1 ((climb s.below a).map .s) (climb s.below a).length):=by
 refine aE mixed Tryz.func164 g0 ?_
 · skip
   refine bQ (fun (t:Nat × List Str × AV × List AObj)=>[.k,.k,.k,.k,.k,.v (t.2.2.1),.v (.i .i64 (t.1:Nat)),.k,.j,.k,.k,.j,.j,.j,.j,.j,.j,.j,.j,.j,.j,.j,.j,.j,.j,.j,.j,.j,.j,.j,.j,.j,.j,.j,.j,.j,.j,.j,.j,.j,.j,.j,.j,.j,.k]) (fun t=>.box false [.sl (s.sorts.map .s) s.sorts.length,.sl (s.below.flatMap aQ) s.below.length,.sl (s.ops.flatMap aI) s.ops.length,.sl (s.funs.flatMap aI) s.funs.length,.sl (s.values.map .s) s.values.length]::t.2.2.2) (fun t=>wL s.below a t.1 t.2.1∧eP 1 1 t.2.2.2 t.2.2.1 (t.2.1.map .s) t.2.1.length) (fun t=>s.below.length+1 - t.1) ((0,[a],.hs 1 0 1 false,[.arr false 1 [.s a]])) ⟨wL.start _ _,.inr ⟨0,rfl,rfl,rfl⟩⟩ rfl (by simp [fD]) ?_
   rintro ⟨i,L,out,g⟩ j ⟨hI,ho⟩
   dsimp only at hI ho
   have hlen:=hI.c.len
   have hle:=hI.le
   rcases ho with ⟨_,hnil,_⟩ | ⟨i0,rfl,hg,_⟩
   · exfalso
     have h1:L=[]:=by simpa using hnil
     have:=hI.c.me
     simp [h1] at this
   refine zh hg ?_
   (refine zx0 hg ?_; repeat' first | exact trivial | refine zJ ?_ ?_ | refine zH fun hc=>?_)
   · have hcl:i < L.length:=by simpa using hc
     refine bQ (fun (t:Nat × List Str × AV × List AObj)=>[.k,.k,.k,.k,.k,.v (t.2.2.1),.k,.k,.j,.k,.k,.k,.k,.k,.k,.k,.k,.k,.k,.k,.v (.i .i64 (t.1:Nat)),.j,.j,.j,.j,.j,.j,.j,.j,.j,.j,.j,.j,.j,.j,.j,.j,.j,.j,.j,.j,.j,.j,.j,.k]) (fun t=>.box false [.sl (s.sorts.map .s) s.sorts.length,.sl (s.below.flatMap aQ) s.below.length,.sl (s.ops.flatMap aI) s.ops.length,.sl (s.funs.flatMap aI) s.funs.length,.sl (s.values.map .s) s.values.length]::t.2.2.2) (fun t=>t.1≤s.below.length∧t.2.1=oL (s.below.take t.1) (L.getD i []) L∧Climbs s.below a t.2.1∧(t.2.1.getD i []=L.getD i []∧i < t.2.1.length)∧eP 1 1 t.2.2.2 t.2.2.1 (t.2.1.map .s) t.2.1.length) (fun t=>s.below.length - t.1) ((0,L,.hs (i0+1) 0 L.length false,g)) ⟨aF _,rfl,hI.c,⟨rfl,hcl⟩,.inr ⟨i0,rfl,hg,by simp⟩⟩ rfl (by simp [fD]) ?_
     rintro ⟨k,M,out,g⟩ j ⟨hk,hM,hc2,⟨hget,hlt⟩,ho⟩
     dsimp only at hk hM hc2 hget hlt ho
     have hlenM:=hc2.len
     have ho1:=ho
     rcases ho with ⟨_,hnil,_⟩ | ⟨i1,rfl,hg1,_⟩
     · exfalso
       have h1:M=[]:=by simpa using hnil
       simp [h1] at hlt
     have hi1:=aO hg1
     have hg2:∀ m,(g++m)[i1]? = some (.arr false 1 (M.map .s)):=fun m=>by rw [aD hi1]; exact hg1
     refine zh hg2 ?_
     (refine zx1 hg2 (yK M (s.below.getD k ([],[])).2) ?_; repeat' first | exact trivial | refine zJ ?_ ?_ | refine zH fun hc=>?_)
     · have e:nX (L.getD i []) M (s.below.getD k ([],[]))=M++[(s.below.getD k ([],[])).2]:=if_pos ⟨by rw [← hget]; assumption,hc⟩
       have hp:=uO (x:=L.getD i []) (b:=s.below.getD k ([],[])) hlt
       have hst:=hc2.step (x:=L.getD i []) (bE (d:=([],[])) (show k < s.below.length by omega))
       rw [e] at hp hst
       refine ⟨(k+1,M++[(s.below.getD k ([],[])).2],.hs (g.length+2+1) 0 (M.length+1) false,_),⟨by omega,?_,hst,⟨hp.1.trans hget,hp.2⟩,.inr ⟨g.length+2,by simp,?_,by simp⟩⟩,by simp; omega,rfl,by simp⟩
       · rw [kE (by omega),← hM,e]
       · simp
     · have e:nX (L.getD i []) M (s.below.getD k ([],[]))=M:=if_neg (by rw [hc]; simp)
       refine ⟨(k+1,M,_,_),⟨by omega,?_,hc2,⟨hget,hlt⟩,ho1.more _⟩,by simp; omega,rfl,by simp⟩
       rw [kE (by omega),← hM,e]
     · have e:nX (L.getD i []) M (s.below.getD k ([],[]))=M:=if_neg (by rw [hget] at hc; exact fun h=>hc h.1)
       refine ⟨(k+1,M,_,_),⟨by omega,?_,hc2,⟨hget,hlt⟩,ho1.more _⟩,by simp; omega,rfl,by simp⟩
       rw [kE (by omega),← hM,e]
     · have h1:s.below.take k=s.below:=aJ (by omega)
       rw [h1] at hM
       subst hM
       exact ⟨(i+1,_,_,_),⟨hI.next hcl hc2 hlt,ho1⟩,by simp; omega,rfl,by simp⟩
   · have hd:=hI.eq
     rw [D8 (by omega)] at hd
     subst hd
     exact oQ (pre:=[_]) (.inr ⟨i0,rfl,hg,by simp⟩) iA
end Go.Proofs.YtifefbhllfdmlaaGreatDoor
namespace Go.Proofs.YtifefbhllfdmlaaGreatDoor
open Go Go.Vo
open Nat (reduceAdd reduceSub reduceMul reduceLeDiff reduceLT reduceEqDiff)
open Int (reduceNeg)

theorem bJd:(22:Nat) ≠ 3:=by decide
theorem bTj {h:List AObj}:jB Tryz.prog h .cap #[22] [.e0]=some (.i .i64 0,h):=aQz bWb
theorem bOt {dr:Option DR} {d:Option Nat} {os:List fR} {K:List AV→List AObj→Prop} {env:List AV} {h:List AObj} {s x:Operand}:dS Tryz.prog G0 dr (.call ⟨.builtin .append,#[s,x],#[22,3]⟩) d os K env h=S1 Tryz.prog G0 dr (Tryz.prog.underlying 3) (pT Tryz.prog h 22 (aev G0 env s) (aev G0 env x)) d os K env:=uV bJd
theorem bTi:((0:Nat):Int)=0:=rfl
theorem aEo {a:AV}:∀ {n:Nat},(List.replicate n [a]).flatten=List.replicate n a
 | 0=>rfl
 | n+1=>by rw [iU,bF,aEo]; rfl
attribute [go_sem] bTj bTi Int.sub_zero aEo List.length_replicate false_and aF
attribute [go_sem ↓] bOt
theorem bNe (n:Nat) (hn:n≤1000000): CT 152 [.e0,.i .i64 n] (.own 1 [] 0):=by
 refine aE mixed Tryz.func152 g0 ?_
 · skip
   (refine zs0 ?_; repeat' first | exact trivial | refine zJ ?_ ?_ | refine zH fun hc=>?_)
   · exfalso; omega
   · rw [if_pos (by omega),if_neg (by omega)]
     refine zg ?_
     exact .inr ⟨⟨rfl,rfl,_,rfl,by simp,by simp,rfl⟩,by simp [bY],by simp [bY,jA]⟩
   · exact .inr ⟨⟨rfl,rfl⟩,by simp [bY],by simp [bY]⟩
theorem aCi {l:List (List Str)} {k:Nat} (h:k < l.length):(l.map avs)[k]? = some (avs (l.getD k [])):=by simp [h]
attribute [go_sem] aCi
def R5 (l:List (List Str)):Nat:=l.flatten.length
@[simp] theorem bPj:R5 []=0:=rfl
theorem zR {l:List (List Str)} {k:Nat} (h:k < l.length):R5 (l.take (k+1))=R5 (l.take k)+(l.getD k []).length:=by
 rw [eH (d:=[]) h]; simp [R5]
theorem aLr {l:List (List Str)} {k:Nat}:R5 (l.take k)≤R5 l:=by
 have h:(l.take k++l.drop k).flatten.length=l.flatten.length:=by rw [eL]
 unfold R5
 rw [kP,List.length_append] at h
 omega
theorem aLs {l:List (List Str)} {k:Nat} (h:k < l.length):R5 (l.take k)+(l.getD k []).length≤R5 l:=by
 rw [← zR h]; exact aLr
theorem bNr (l:List (List Str)) (hl:l.length≤1000) (hs:R5 l≤1000000): CT 94 [.sl (l.map avs) l.length] (.own 1 (l.flatten.map .s) l.flatten.length):=by
 refine aE mixed Tryz.func94 g0 ?_
 · skip
   refine bQ (fun (k:Nat)=>[.k,.k,.k,.v (.i .i64 (R5 (l.take k):Nat)),.k,.j,.k,.k,.k,.k,.k,.v (.i .i64 k),.j,.j,.j,.j,.j,.j,.j,.j,.j,.j,.j,.k,.k,.k,.k,.k,.k,.k,.k,.k,.k,.k,.k,.k]) (fun k=>[]) (fun k=>k≤l.length) (fun k=>l.length - k) (0) (aF _) rfl (by simp [fD]) ?_
   rintro k j hk
   have hat:k < l.length→R5 (l.take k)+(l.getD k []).length≤R5 l:=aLs
   have hkk:=aLr (l:=l) (k:=k)
   refine zg ?_
   (refine zs0 ?_; repeat' first | exact trivial | refine zJ ?_ ?_ | refine zH fun hc=>?_)
   · exfalso; omega
   · refine ⟨k+1,by omega,by omega,?_,by simp⟩
     rw [zR (by omega)]; simp
   · have h1:k=l.length:=by omega
     subst h1
     refine aRb (bNe (R5 l) (by omega)) (by simp -implicitDefEqProofs (disch:=omega) only [aTj,go_sem,simprocAttr]) ?_
     refine zg ?_
     refine bQ (fun (t:Nat × AV × List AObj)=>[.k,.k,.k,.k,.k,.k,.v (t.2.1),.k,.j,.k,.k,.k,.k,.k,.k,.k,.k,.k,.k,.k,.k,.k,.k,.k,.k,.k,.k,.v (.i .i64 (t.1:Nat)),.j,.j,.j,.j,.j,.j,.j,.k]) (fun t=>t.2.2) (fun t=>t.1≤l.length∧eP 1 0 t.2.2 t.2.1 ((l.take t.1).flatten.map .s) (R5 (l.take t.1))) (fun t=>l.length - t.1) ((0,.hs 0 0 0 false,[.arr false 1 []])) ⟨aF _,.inr ⟨0,rfl,rfl,rfl⟩⟩ rfl (by simp [fD]) ?_
     rintro ⟨k,out,g⟩ j ⟨hk,ho⟩
     dsimp only at hk ho
     have hat:k < l.length→R5 (l.take k)+(l.getD k []).length≤R5 l:=aLs
     refine zg ?_
     (refine zs0 ?_; repeat' first | exact trivial | refine zJ ?_ ?_ | refine zH fun hc=>?_)
     · refine eD (more:=[]) (pre:=[]) (news:=(l.getD k []).map .s) (m:=(l.getD k []).length) ho rfl (by simp) aSq zo9 sz9 by9 rfl (by decide) (by simp -implicitDefEqProofs (disch:=omega) only [go_sem,simprocAttr]) (by simp -implicitDefEqProofs (disch:=omega) only [go_sem,simprocAttr]) ⟨by omega,by omega⟩ ?_
       intro out' g' ho' _
       refine zg ?_
       refine ⟨(k+1,out',g'),⟨by omega,?_⟩,by simp; omega,rfl,by simp⟩
       dsimp only
       rw [zR (by omega),eH (d:=[]) (by omega),kP,aV]
       simpa using ho'
     · have h1:k=l.length:=by omega
       subst h1
       rw [iJ] at ho
       exact oQ (pre:=[]) ho iA
end Go.Proofs.YtifefbhllfdmlaaGreatDoor
namespace Go.Proofs.YtifefbhllfdmlaaGreatDoor
open Go Go.Vo
open Nat (reduceAdd reduceSub reduceMul reduceLeDiff reduceLT reduceEqDiff)
open Int (reduceNeg)

structure Small (s:cI):Prop where
 sorts:s.sorts.length≤100
 below:s.below.length≤1000
 ops:s.ops.length≤1000
 funs:s.funs.length≤1000
 values:s.values.length≤1000
def keysOf (s:cI):List Str:=gA++s.sorts
def ups (s:cI) (a:Str):AV:=avs (climb s.below a)
def Q6 (s:cI):AV:=.mapv ((keysOf s).map .s) ((keysOf s).map (ups s))
def aUr (l:List LOp):AV:=.mapv ((l.map LOp.name).map .s) (l.map elO)
def lR (s:cI):List AV:=bB s++[Q6 s,aUr s.ops,aUr s.funs]
def dD (s:cI):AV:=.box (lR s) 0
structure R3 (s:cI):Prop where
 keys:(keysOf s).Nodup
 ops:(s.ops.map LOp.name).Nodup
 funs:(s.funs.map LOp.name).Nodup

theorem A8 {s:cI}:∀ {l:List Str},persL (l.map (ups s))=true
 | []=>rfl
 | x::l=>by simp only [aZ,persL,ups,uY,A8,dY]
theorem A9:∀ {l:List LOp},persL (l.map elO)=true
 | []=>rfl
 | x::l=>by simp [elO,persL,pers,aI,avs,avi,avb,iA,iT,gV,A9]
attribute [go_sem] A8 A9
theorem aJs (s:cI) (hs:Small s) (hd:R3 s): CT 48 [.agg (bB s)] (dD s):=by
 refine aE mixed Tryz.func48 g0 ?_
 · skip
   have h1:=hs.sorts
   have h2:=hs.below
   have h3:=hs.ops
   have h4:=hs.funs
   (repeat' (first | refine gT ?_ ?_ | refine gF ?_ ?_ | refine gC ?_ ?_ | (refine cE (bKx) ?_; simp -implicitDefEqProofs (disch:=omega) only [go_sem,simprocAttr]) | refine aK (by omega) ?_ | (intro hr; have hc:=hr; (try simp only [zdz] at hc); simp -implicitDefEqProofs (disch:=omega) only [hr,go_sem,simprocAttr]; (try clear hr))))
   refine aY (bNr [gA,s.sorts] (by simp) ?_) ?_ ?_
   · simp [R5,gA]; omega
   · simp -implicitDefEqProofs (disch:=omega) only [gA,go_sem,simprocAttr]
   · simp -implicitDefEqProofs (disch:=omega) only [go_sem,simprocAttr]
     have hK:[gA,s.sorts].flatten=keysOf s:=by simp [keysOf]
     have hKl:(keysOf s).length≤107:=by simp [keysOf,gA]; omega
     rw [hK]
     refine fJ (fun (k:Nat)=>[.k,.k,.k,.k,.k,.j,.k,.k,.k,.k,.k,.k,.k,.k,.k,.k,.k,.k,.k,.k,.k,.k,.v (.i .i64 k),.j,.j,.j,.j,.j,.j,.j,.j,.j,.j,.j,.j,.k,.k,.k,.k,.k,.k,.k,.k,.k,.k,.k,.k,.k,.k,.k,.k,.k,.k,.k,.k,.k,.k,.k,.k,.k,.k,.k,.k,.k,.k,.k]) (fun k=>[.box false [.sl (s.sorts.map .s) s.sorts.length,.sl (s.below.flatMap aQ) s.below.length,.sl (s.ops.flatMap aI) s.ops.length,.sl (s.funs.flatMap aI) s.funs.length,.sl (s.values.map .s) s.values.length],.map false (((keysOf s).take k).map .s) (((keysOf s).take k).map (ups s)),.map false [] [],.map false [] [],.box false [.sl (s.sorts.map .s) s.sorts.length,.sl (s.below.flatMap aQ) s.below.length,.sl (s.ops.flatMap aI) s.ops.length,.sl (s.funs.flatMap aI) s.funs.length,.sl (s.values.map .s) s.values.length,.mp 1,.mp 2,.mp 3],.arr false 1 (gA.map .s),.arr false 1 [.hs 5 0 gA.length false,.sl (s.sorts.map .s) s.sorts.length],.arr false 1 ((keysOf s).map .s)]) (fun k=>k≤(keysOf s).length) (fun k=>(keysOf s).length - k) (0) _ (aF _) rfl (by simp [fD]) ?_
     rintro k g j hk
     simp -implicitDefEqProofs (disch:=omega) only [go_sem,simprocAttr]
     (repeat' (first | refine gT ?_ ?_ | refine gF ?_ ?_ | refine gC ?_ ?_ | refine aK (by omega) ?_ | (intro hr; have hc:=hr; (try simp only [zdz] at hc); simp -implicitDefEqProofs (disch:=omega) only [hr,go_sem,simprocAttr]; (try clear hr))))
     · refine aY (bNq s ((keysOf s).getD k []) (by omega)) ?_ ?_
       · simp -implicitDefEqProofs (disch:=omega) only [go_sem,simprocAttr]
       · have hno:=nF (mZ (d:=[]) hd.keys (show k < (keysOf s).length by omega))
         simp -implicitDefEqProofs (disch:=omega) only [nD,aSn,hno,go_sem,simprocAttr]
         refine ⟨k+1,_,by omega,by omega,congr (congrArg List.cons rfl) (congr (congrArg List.cons ?_) rfl),by simp⟩
         rw [eH (d:=[]) (by omega),aV,aV]; rfl
     · have hk2:k=(keysOf s).length:=by omega
       subst hk2
       refine fJ (fun (k:Nat)=>[.k,.k,.k,.k,.k,.k,.k,.j,.k,.k,.k,.k,.k,.k,.k,.k,.k,.k,.k,.k,.k,.k,.k,.k,.k,.k,.k,.k,.k,.k,.k,.k,.k,.k,.k,.k,.k,.k,.v (.i .i64 k),.j,.j,.j,.j,.j,.j,.j,.j,.j,.j,.j,.k,.k,.k,.k,.k,.k,.k,.k,.k,.k,.k,.k,.k,.k,.k,.k]) (fun k=>[.box false [.sl (s.sorts.map .s) s.sorts.length,.sl (s.below.flatMap aQ) s.below.length,.sl (s.ops.flatMap aI) s.ops.length,.sl (s.funs.flatMap aI) s.funs.length,.sl (s.values.map .s) s.values.length],.map false ((keysOf s).map .s) ((keysOf s).map (ups s)),.map false (((s.ops.take k).map LOp.name).map .s) ((s.ops.take k).map elO),.map false [] [],.box false [.sl (s.sorts.map .s) s.sorts.length,.sl (s.below.flatMap aQ) s.below.length,.sl (s.ops.flatMap aI) s.ops.length,.sl (s.funs.flatMap aI) s.funs.length,.sl (s.values.map .s) s.values.length,.mp 1,.mp 2,.mp 3],.arr false 1 (gA.map .s),.arr false 1 [.hs 5 0 gA.length false,.sl (s.sorts.map .s) s.sorts.length],.arr false 1 ((keysOf s).map .s)]) (fun k=>k≤s.ops.length) (fun k=>s.ops.length - k) (0) _ (aF _) rfl (by simp [fD]) ?_
       rintro k g j hk
       simp -implicitDefEqProofs (disch:=omega) only [go_sem,simprocAttr]
       (repeat' (first | refine gT ?_ ?_ | refine gF ?_ ?_ | refine gC ?_ ?_ | refine aK (by omega) ?_ | (intro hr; have hc:=hr; (try simp only [zdz] at hc); simp -implicitDefEqProofs (disch:=omega) only [hr,go_sem,simprocAttr]; (try clear hr))))
       · have hkn:(s.ops.getD k default).name=(s.ops.map LOp.name).getD k []:=by simp [List.getD,show k < s.ops.length by omega]
         have hno:=nF (mZ (d:=[]) hd.ops (show k < (s.ops.map LOp.name).length by simp; omega))
         rw [← hkn,← List.map_take] at hno
         simp -implicitDefEqProofs (disch:=omega) only [nD,aSn,hno,go_sem,simprocAttr]
         refine ⟨k+1,_,by omega,by omega,congr (congrArg List.cons rfl) (congr (congrArg List.cons rfl) (congr (congrArg List.cons ?_) rfl)),by simp⟩
         rw [eH (d:=default) (by omega),aV,aV,aV]; rfl
       · have hk2:k=s.ops.length:=by omega
         subst hk2
         refine fJ (fun (k:Nat)=>[.k,.k,.k,.k,.k,.k,.k,.k,.k,.j,.k,.k,.k,.k,.k,.k,.k,.k,.k,.k,.k,.k,.k,.k,.k,.k,.k,.k,.k,.k,.k,.k,.k,.k,.k,.k,.k,.k,.k,.k,.k,.k,.k,.k,.k,.k,.k,.k,.k,.k,.k,.k,.k,.v (.i .i64 k),.j,.j,.j,.j,.j,.j,.j,.j,.j,.j,.j,.k]) (fun k=>[.box false [.sl (s.sorts.map .s) s.sorts.length,.sl (s.below.flatMap aQ) s.below.length,.sl (s.ops.flatMap aI) s.ops.length,.sl (s.funs.flatMap aI) s.funs.length,.sl (s.values.map .s) s.values.length],.map false ((keysOf s).map .s) ((keysOf s).map (ups s)),.map false ((s.ops.map LOp.name).map .s) (s.ops.map elO),.map false (((s.funs.take k).map LOp.name).map .s) ((s.funs.take k).map elO),.box false [.sl (s.sorts.map .s) s.sorts.length,.sl (s.below.flatMap aQ) s.below.length,.sl (s.ops.flatMap aI) s.ops.length,.sl (s.funs.flatMap aI) s.funs.length,.sl (s.values.map .s) s.values.length,.mp 1,.mp 2,.mp 3],.arr false 1 (gA.map .s),.arr false 1 [.hs 5 0 gA.length false,.sl (s.sorts.map .s) s.sorts.length],.arr false 1 ((keysOf s).map .s)]) (fun k=>k≤s.funs.length) (fun k=>s.funs.length - k) (0) _ (aF _) rfl (by simp [fD]) ?_
         rintro k g j hk
         simp -implicitDefEqProofs (disch:=omega) only [go_sem,simprocAttr]
         (repeat' (first | refine gT ?_ ?_ | refine gF ?_ ?_ | refine gC ?_ ?_ | refine aK (by omega) ?_ | (intro hr; have hc:=hr; (try simp only [zdz] at hc); simp -implicitDefEqProofs (disch:=omega) only [hr,go_sem,simprocAttr]; (try clear hr))))
         · have hkn:(s.funs.getD k default).name=(s.funs.map LOp.name).getD k []:=by simp [List.getD,show k < s.funs.length by omega]
           have hno:=nF (mZ (d:=[]) hd.funs (show k < (s.funs.map LOp.name).length by simp; omega))
           rw [← hkn,← List.map_take] at hno
           simp -implicitDefEqProofs (disch:=omega) only [nD,aSn,hno,go_sem,simprocAttr]
           refine ⟨k+1,_,by omega,by omega,congr (congrArg List.cons rfl) (congr (congrArg List.cons rfl) (congr (congrArg List.cons rfl) (congr (congrArg List.cons ?_) rfl))),by simp⟩
           rw [eH (d:=default) (by omega),aV,aV,aV]; rfl
         · refine .inr ⟨?_,by simp [bY,dD],by simp [bY,dD]⟩
           simp only [dD,nR]
           simp -implicitDefEqProofs (disch:=omega) only [lR,Q6,aUr,go_sem,simprocAttr]
end Go.Proofs.YtifefbhllfdmlaaGreatDoor
namespace Go.Proofs.YtifefbhllfdmlaaGreatDoor
open Go Go.Vo
open Nat (reduceAdd reduceSub reduceMul reduceLeDiff reduceLT reduceEqDiff)
open Int (reduceNeg)

theorem sZ {l:List (Str × Str)} {a x:Str}:∀ (m:List (Str × Str)) (L:List Str),(∀ b ∈ m,b ∈ l)→Climbs l a L→Climbs l a (oL m x L)
 | [],L,_,h=>h
 | b::m,L,hm,h=>sZ m _ (fun c hc=>hm c (by simp [hc])) (h.step (hm b (by simp)))
theorem wA {l:List (Str × Str)} {a:Str}:∀ (f i:Nat) (L:List Str),Climbs l a L→Climbs l a (climbG l f i L)
 | 0,i,L,h=>h
 | f+1,i,L,h=>by
   simp only [climbG]
   split
   · exact wA f _ _ (sZ l L (fun _ h=>h) h)
   · exact h
theorem xZ (l:List (Str × Str)) (a:Str):Climbs l a (climb l a):=wA _ _ _ ⟨by simp,by simp,by simp⟩
theorem vZ (l:List (Str × Str)) (a:Str):(climb l a).length≤l.length+1:=(xZ l a).len

theorem N5 {l:List Str} {x:Str} (h:l.contains x=true):∃ i,(l.findIdx? fun y=>decide (x=y))=some i∧∀ {β:Type} (f:Str→β),(l.map f)[i]? = some (f x):=by
 cases hf:l.findIdx? fun y=>decide (x=y) with
 | none=>
   rw [eV] at hf
   have hm:x ∈ l:=by simpa using h
   have:=hf x hm
   simp at this
 | some i=>
   rw [gH] at hf
   obtain ⟨hi,hx,_⟩:=hf
   have hx:x=l[i]:=by simpa using hx
   exact ⟨i,rfl,fun f=>by simp [hi,← hx]⟩
attribute [go_sem] nD aSn
theorem aRg {s:cI}:(lR s)[0]? = some (avs s.sorts):=rfl
theorem aRf {s:cI}:(lR s)[5]? = some (.mapv ((keysOf s).map .s) ((keysOf s).map (ups s))):=rfl
theorem aRe {s:cI}:(lR s)[6]? = some (.mapv ((s.ops.map LOp.name).map .s) (s.ops.map elO)):=rfl
theorem aRd {s:cI}:(lR s)[7]? = some (.mapv ((s.funs.map LOp.name).map .s) (s.funs.map elO)):=rfl
attribute [go_sem] dD aRg aRf aRe aRd
def existsA (s:cI) (a:Str):Bool:=(keysOf s).contains a
theorem A7 {s:cI}:pers (dD s)=true:=by
 simp only [dD,lR,pers,persL,bB,avs,avb,avo,cC,cH,iA,gV,uX,Q6,aUr,A8,A9,dY]
theorem aIu {s:cI}:persL (lR s)=true:=by
 have:=A7 (s:=s)
 simpa [dD,pers] using this
attribute [go_sem] aIu
theorem O8 (s:cI) (x:Str): CT 90 [dD s,.s x] (.b (existsA s x)):=by
 refine aE mixed Tryz.func90 g0 ?_
 · skip
   by_cases hx:(keysOf s).contains x=true
   · obtain ⟨i,hf,hv⟩:=N5 hx
     simp -implicitDefEqProofs (disch:=omega) only [hf,hv,go_sem,simprocAttr]
     exact aG (by rw [existsA,hx]) rfl
   · have hx:=dV.2 hx
     refine zh (sP hx) ?_
     exact aG (by rw [existsA,hx]) rfl
def oW:Str:=[65,110,121]
def Q7 (s:cI) (x:Str):List Str:=if existsA s x then climb s.below x else []
def jE (s:cI) (x y:Str):Bool:=decide (y=oW) || (Q7 s x).contains y
theorem aWj (s:cI) (x y:Str) (hs:Small s): CT 158 [dD s,.s x,.s y] (.b (jE s x y)):=by
 refine aE mixed Tryz.func158 g0 ?_
 · skip
   have hl:=vZ s.below x
   have h2:=hs.below
   by_cases hx:(keysOf s).contains x=true
   · obtain ⟨i,hf,hv⟩:=N5 hx
     (repeat' (first | refine gT ?_ ?_ | refine gF ?_ ?_ | refine gC ?_ ?_ | (refine cE (G9 (climb s.below x) y (by omega)) ?_; simp -implicitDefEqProofs (disch:=omega) only [hf,hv,ups,go_sem,simprocAttr]) | refine aK (by omega) ?_ | (intro hr; have hc:=hr; (try simp only [zdz] at hc); simp -implicitDefEqProofs (disch:=omega) only [hr,hf,hv,ups,go_sem,simprocAttr]; (try clear hr))))
     all_goals (refine aG ?_ (by rfl))
     all_goals simp_all [jE,Q7,existsA,oW]
   · have hx:=dV.2 hx
     (refine zx1 (sP hx) (G9 [] y (by simp)) ?_; repeat' first | exact trivial | refine zJ ?_ ?_ | refine zH fun hc=>?_)
     all_goals (refine aG ?_ (by rfl))
     all_goals simp_all [jE,Q7,existsA,oW]
def aOg (s:cI) (x y:Str):Bool:=jE s x y || jE s y x
theorem bSt (s:cI) (x y:Str) (hs:Small s): CT 186 [dD s,.s x,.s y] (.b (aOg s x y)):=by
 refine aE mixed Tryz.func186 g0 ?_
 · skip
   (refine zs2 (aWj s x y hs) (aWj s y x hs) ?_; repeat' first | exact trivial | refine zJ ?_ ?_ | refine zH fun hc=>?_)
   all_goals (refine aG ?_ (by rfl))
   all_goals simp_all [aOg]
end Go.Proofs.YtifefbhllfdmlaaGreatDoor
namespace Go.Proofs.YtifefbhllfdmlaaGreatDoor
open Go Go.Vo
open Nat (reduceAdd reduceSub reduceMul reduceLeDiff reduceLT reduceEqDiff)
open Int (reduceNeg)

def aCs (s:Str) (c:Int):Int:=Lib.indexByte s c.toNat.toUInt8
def aGz:Str:=[97,100,100,32,115,117,98,32,109,117,108,32,100,105,118,32,109,111,100,32,110,101,103,32,108,116,32,108,101,32,103,116,32,103,101,32,101,113,32,110,101,32,97,110,100,32,111,114,32,110,111,116,32,112,105,99,107,32,99,97,116,32,108,101,110,103,116,104,32,116,101,120,116,32,106,111,105,110,32,103,101,116,32,112,117,116,32,104,97,115,32,100,101,108,32,107,101,121,115,32,115,105,122,101,32,105,115,32,105,115,118,97,108,117,101]
def E6:List Str:=Lib.fields aGz

theorem bTz {X:Ctx} {w:World} {h:List AObj} {l:Str} {v:Value} (r:RV X w h (.s l) v):v=.string ⟨l.toArray⟩:=by
 cases r with
 | s=>rfl
 | dead hr _ _=>simp [AV.refs] at hr
theorem bHx {vs:Array Value} (h:2=vs.size):∃ a b,vs = #[a,b]:=by
 match vs,h with
 | ⟨[a,b]⟩,_=>exact ⟨a,b,rfl⟩
theorem aZh {vs:Array Value} (h:1=vs.size):∃ a,vs = #[a]:=by
 match vs,h with
 | ⟨[a]⟩,_=>exact ⟨a,rfl⟩

theorem bMv (s:Str) (c:Int):CT 232 [.s s,.i .u8 c] (.i .i64 (aCs s c)):=by
 refine ⟨by kernel_rfl,g0,?_⟩
 intro F w vs hF hgl hl hr
 obtain ⟨v0,v1,rfl⟩:=bHx hl
 have h0:=bTz (hr 0 _ v0 rfl rfl)
 have h1:=tG (hr 1 _ v1 rfl rfl)
 subst h0 h1
 refine (Tryz.strings_IndexByte ⟨s.toArray⟩ c w).mono ?_
 rintro e w' ⟨rfl,rfl⟩
 exact ⟨_,F,[],rfl,.refl _,fun _ h=>h,fun _ h=>.inl h,hF,RR.val (.i _ _),eS,by simp⟩

theorem aXs {F:Nat→Prop} {w:World} {g:Nat} {cells:List AV} (r:RV (.none F) w [] (.box cells 0) (.pointer (some ⟨g,0,Option.none⟩))) {j:Nat} {k:IntKind} {n:Int} (h:cells[j]? = some (.i k n)):w.cell? ⟨g,j,none⟩=some (.int k n):=by
 generalize hv:Value.pointer (some ⟨g,0,Option.none⟩)=v at r
 cases r with
 | @box _ _ b o cs T fr hF hb hl h1 hr=>
   simp only [Value.pointer.injEq,aB,Addr.mk.injEq,and_true] at hv
   obtain ⟨rfl,h0⟩:=hv
   have ho:o=0:=by omega
   subst ho
   have hj:=aO h
   have hc:cs[0+j]? = some cs[0+j]:=bU (by omega)
   have:=tG (hr j _ _ h hc)
   simp only [dM] at this hc
   simp [World.cell?,hb,hc,this]
 | dead hr hd _=>simp [AV.refs] at hr
theorem aKh {F:Nat→Prop} {w:World} (hgl:∀ k a,G0 k=some a→GRel (.none F) w [] k a) (c:Nat) (hc:c < 256):w.cell? ⟨0,c,none⟩=some (.int .u8 (if Lib.isSp (UInt8.ofNat c) then 1 else 0)):=by
 have r:=(hgl 0 (.box xF 0) rfl).1
 refine aXs r ?_
 have h:=Lib.asciiSpaceTab_at c hc
 have hl:=Lib.asciiSpaceTab_length
 rw [← h]
 exact X5 (by omega)
theorem bSr (s:Str) (hs:s.length≤4000000000) (ha:s.all (fun b=>decide (b.toNat < 128))=true):CT 196 [.s s] (.own 1 ((Lib.fields s).map .s) (Lib.fields s).length):=by
 refine ⟨by kernel_rfl,g0,?_⟩
 intro F w vs hF hgl hl hr
 obtain ⟨v0,rfl⟩:=aZh hl
 have h0:=bTz (hr 0 _ v0 rfl rfl)
 subst h0
 refine (Any.strings_Fields_core Tryz.lays157 (by kernel_rfl) ⟨s.toArray⟩ w (by simp [ByteArray.size]; omega) (fun j b hj=>?_) (fun c hc=>aKh hgl c hc)).mono ?_
 · have hm:=cL hj
   have:=aR.1 ha b hm
   simpa using this
 · rintro e w' ⟨rfl,rfl⟩
   refine ⟨_,F,[w.heap.size],rfl,(gI.alloc _ _).grew,fun _ h=>h,fun _ h=>.inl h,fun b hb=>eF (hF b hb) (gI.alloc w _).grew.size,?_,by simp,?_⟩
   · refine .inl ⟨w.heap.size,0,_,_,(Lib.fields s).length,rfl,rfl,(gI.alloc _ _).at,by simp,bA _,by simp,?_,?_⟩
     · intro j v hj hv
       simp at hv
       obtain ⟨x,_,rfl⟩:=hv
       rfl
     · intro j a v ha hv
       simp at ha hv
       obtain ⟨x,h1,rfl⟩:=ha
       obtain ⟨y,h2,rfl⟩:=hv
       rw [h1] at h2; cases h2
       exact .s _
   · intro b hb
     simp only [aU] at hb
     subst hb
     refine ⟨fun f=>?_,bA _⟩
     have:=hF _ f; omega

end Go.Proofs.YtifefbhllfdmlaaGreatDoor
namespace Go.Proofs.YtifefbhllfdmlaaGreatDoor
open Go Go.Vo
open Nat (reduceAdd reduceSub reduceMul reduceLeDiff reduceLT reduceEqDiff)
open Int (reduceNeg)

theorem aJz:E6.length=28:=by decide +kernel
theorem aXr (s:Str):E6.contains s=iF.contains s:=by
 have h1:E6.all (fun x=>iF.contains x)=true:=by decide +kernel
 have h2:iF.all (fun x=>E6.contains x)=true:=by decide +kernel
 rw [cT]
 simp only [aR] at h1 h2
 exact ⟨fun h=>h1 s (by simpa using h),fun h=>h2 s (by simpa using h)⟩
theorem bKn:CT 196 [.s [97,100,100,32,115,117,98,32,109,117,108,32,100,105,118,32,109,111,100,32,110,101,103,32,108,116,32,108,101,32,103,116,32,103,101,32,101,113,32,110,101,32,97,110,100,32,111,114,32,110,111,116,32,112,105,99,107,32,99,97,116,32,108,101,110,103,116,104,32,116,101,120,116,32,106,111,105,110,32,103,101,116,32,112,117,116,32,104,97,115,32,100,101,108,32,107,101,121,115,32,115,105,122,101,32,105,115,32,105,115,118,97,108,117,101]] (.own 1 (E6.map .s) E6.length):=bSr aGz (by decide) (by decide +kernel)
theorem bFs (s:Str): CT 147 [.s s] (.b (iF.contains s)):=by
 refine aE mixed Tryz.func147 g0 ?_
 · skip
   refine aY bKn (by rfl) ?_
   refine zg ?_
   (refine zs1 (G9 E6 s (by rw [aJz]; omega)) ?_; repeat' first | exact trivial | refine zJ ?_ ?_ | refine zH fun hc=>?_)
   refine aG ?_ (by rfl)
   rw [aXr]

def qL (s:cI) (x:Str × Str):Bool:=decide (x.1 ≠ oW) && existsA s x.1 && s.sorts.contains x.2 && !(Q7 s x.2).contains x.1
theorem bTa (s:cI) (x:Str × Str) (hs:Small s): CT 89 [dD s,elB x] (.b (qL s x)):=by
 refine aE mixed Tryz.func89 g0 ?_
 · skip
   have hl:=vZ s.below x.2
   have h2:=hs.below
   have h1:=hs.sorts
   by_cases hx:(keysOf s).contains x.2=true
   · obtain ⟨i,hf,hv⟩:=N5 hx
     (repeat' (first | refine gT ?_ ?_ | refine gF ?_ ?_ | refine gC ?_ ?_ | ((first | (refine aY (O8 s x.1) ?_ ?_; (focus (simp -implicitDefEqProofs (disch:=omega) only [hf,hv,ups,zdA,go_sem,simprocAttr]; done))) | (refine aY (G9 s.sorts x.2 (by omega)) ?_ ?_; (focus (simp -implicitDefEqProofs (disch:=omega) only [hf,hv,ups,zdA,go_sem,simprocAttr]; done))) | (refine aY (G9 (climb s.below x.2) x.1 (by omega)) ?_ ?_; (focus (simp -implicitDefEqProofs (disch:=omega) only [hf,hv,ups,zdA,go_sem,simprocAttr]; done)))); simp -implicitDefEqProofs (disch:=omega) only [hf,hv,ups,go_sem,simprocAttr]) | refine aK (by omega) ?_ | (intro hr; have hc:=hr; (try simp only [zdz] at hc); simp -implicitDefEqProofs (disch:=omega) only [hr,hf,hv,ups,go_sem,simprocAttr]; (try clear hr))))
     all_goals (refine aG ?_ (by rfl))
     all_goals (simp_all [qL,Q7,existsA,oW])
   · have hx:=dV.2 hx
     (refine zx3 (sP hx) (O8 s x.1) (G9 s.sorts x.2) (G9 [] x.1 (by simp)) ?_; repeat' first | exact trivial | refine zJ ?_ ?_ | refine zH fun hc=>?_)
     all_goals (refine aG ?_ (by rfl))
     all_goals (simp_all [qL,Q7,existsA,oW])
end Go.Proofs.YtifefbhllfdmlaaGreatDoor
namespace Go.Proofs.YtifefbhllfdmlaaGreatDoor
open Go Go.Vo
open Nat (reduceAdd reduceSub reduceMul reduceLeDiff reduceLT reduceEqDiff)
open Int (reduceNeg)

def mJ (n:Int):Bool := !(decide (n < 33) || decide (126 < n) || part n || (decide (n=34) || decide (n=39) || decide (n=92)))
def vN (s:Str):Bool:=decide (1≤s.length) && decide (s.length≤20) && s.all fun c=>mJ c.toNat
theorem aHd (s:Str) (k:Nat):0≤at_ s k∧at_ s k < 256:=by
 unfold at_
 have:=(s.getD k 0).toNat_lt
 omega
theorem bXz (s:Str) (k:Nat):decide (0≤aCs [34,39,92] (at_ s k))=(decide (at_ s k=34) || decide (at_ s k=39) || decide (at_ s k=92)):=by
 have h:∀ n:Nat,n < 256→decide (0≤aCs [34,39,92] (n:Int))=(decide ((n:Int)=34) || decide ((n:Int)=39) || decide ((n:Int)=92)):=by decide +kernel
 exact h _ (s.getD k 0).toNat_lt
theorem bMz (s:Str) (hs:s.length≤140737488355328): CT 198 [.s s] (.b (vN s)):=by
 refine aE mixed Tryz.func198 g0 ?_
 · skip
   (refine zs0 ?_; repeat' first | exact trivial | refine zJ ?_ ?_ | refine zH fun hc=>?_)
   any_goals (refine aG ?_ (by rfl); simp_all [vN] <;> omega)
   refine bQ (fun (k:Nat)=>[.k,.k,.j,.j,.j,.k,.k,.k,.k,.k,.k,.k,.k,.k,.v (.i .i64 k),.j,.j,.j,.j,.j,.j,.j,.j,.j,.j,.j,.j,.j,.j,.j,.j,.j,.j,.j,.j,.j]) (fun k=>[]) (fun k=>k≤s.length∧∀ j,j < k→mJ (at_ s j)=true) (fun k=>s.length - k) (0) ⟨aF _,fun j h=>by omega⟩ rfl (by simp [fD]) ?_
   rintro k j ⟨hk,ha⟩
   have hr:=aHd s k
   have h3:=bXz s k
   simp only [at_] at h3 hr
   refine zg ?_
   (refine zx2 h3 bKl (bMv [34,39,92] ((s.getD k 0).toNat:Int)) ?_; repeat' first | exact trivial | refine zJ ?_ ?_ | refine zH fun hc=>?_)
   · refine aG ?_ (by rfl)
     have h4:=h3.symm.trans (zt hc)
     rw [vN,kY (j:=k) (by omega) (by simp only [mJ,at_,h4,dG,Bool.not_true]),Bool.and_false]
   · have h4:=h3.symm.trans (zf hc)
     exact ⟨k+1,⟨by omega,bK ha (by simp only [mJ,at_,h4,cN]; simp_all)⟩,by omega,by simp⟩
   · refine aG ?_ (by rfl)
     rw [vN,kY (j:=k) (by omega) (by simp only [mJ,at_,hc,dG,dF,Bool.not_true]),Bool.and_false]
   · refine aG ?_ (by rfl)
     rw [vN,kY (j:=k) (by omega) (by simp only [mJ,at_,hc,decide_true,dG,dF,Bool.not_true]),Bool.and_false]
   · refine aG ?_ (by rfl)
     rw [vN,kY (j:=k) (by omega) (by simp only [mJ,at_,hc,decide_true,dG,dF,Bool.not_true]),Bool.and_false]
   · refine aG ?_ (by rfl)
     have h1:k=s.length:=by omega
     rw [vN,aHm (h1 ▸ ha)]
     simp; omega

def mW (t:Str):Bool:=vN t || dP t && decide (t.length≤20)
def pG (p:Str × Str):Bool:=decide (decide (p.2=[])=mW p.1) && !(!decide (p.2=[]) && !decide (p.1=[]))
def nJ (l:List (Str × Str)):List Str:=(l.filter fun p => !decide (p.2=[])).map (·.2)
def qE (o:LOp):Bool:=o.pieces.isEmpty || (o.pieces.all pG && decide (o.pieces.length≤20) && decide (nJ o.pieces=o.args))
theorem nI {l:List (Str × Str)} {k:Nat} (h:k < l.length):nJ (l.take (k+1))=nJ (l.take k)++(if (l.getD k ([],[])).2=[] then [] else [(l.getD k ([],[])).2]):=by
 rw [eH (d:=([],[])) h]
 simp only [nJ,zK,aV]
 congr 1
 by_cases h2:(l.getD k ([],[])).2=[]
 · rw [if_pos h2,List.filter_cons_of_neg (by simp only [h2]; decide)]; rfl
 · rw [if_neg h2,List.filter_cons_of_pos (by simp only [h2]; decide)]; rfl
theorem sS {l:List (Str × Str)}:(nJ l).length≤l.length:=by
 unfold nJ; rw [dW]; exact List.length_filter_le _ _
theorem mN {n:Nat}:((n:Int)≤20)↔n≤20:=by omega
theorem aIe {o:LOp} {k:Nat} (hk:k < o.pieces.length) (h:pG (o.pieces.getD k ([],[]))=false):qE o=false:=by
 have h1:o.pieces.all pG=false:=fM hk h
 have h2:o.pieces ≠ []:=fun e=>by simp [e] at hk
 simp [qE,h1,h2]
theorem bNi (o:LOp) (ho:OkO o): CT 151 [elO o] (.b (qE o)):=by
 refine aE mixed Tryz.func151 g0 ?_
 · skip
   have hp:=ho.piecesT
   have hx:=ho.args
   (refine zs0 ?_; repeat' first | exact trivial | refine zJ ?_ ?_ | refine zH fun hc=>?_)
   · refine aG ?_ (by rfl)
     have:o.pieces=[]:=List.eq_nil_of_length_eq_zero (by omega)
     simp [qE,this]
   · refine bQ (fun (s:Nat × AV × List AObj)=>[.k,.k,.j,.v (s.2.1),.k,.j,.j,.k,.k,.k,.k,.k,.k,.k,.v (.i .i64 (s.1:Nat)),.j,.j,.j,.j,.j,.j,.j,.j,.j,.j,.j,.j,.j,.j,.j,.j,.j,.j,.j,.j,.j,.j,.j,.j,.j,.j,.j,.j,.j,.j,.j,.j,.j,.j,.j,.j,.j,.j,.j,.j,.j,.k,.k,.k,.k,.k,.k,.k,.k,.k,.k]) (fun s=>.box false (aI o)::s.2.2) (fun s=>s.1≤o.pieces.length∧(∀ j,j < s.1→pG (o.pieces.getD j ([],[]))=true)∧eP 1 1 s.2.2 s.2.1 ((nJ (o.pieces.take s.1)).map .s) (nJ (o.pieces.take s.1)).length) (fun s=>o.pieces.length - s.1) ((0,.e0,[])) ⟨aF _,fun j h=>by simp at h,eR⟩ rfl (by simp [fD]) ?_
     rintro ⟨k,out,g⟩ j ⟨hk,ha,ho2⟩
     dsimp only at hk ha ho2
     have hpl:k < o.pieces.length→(o.pieces.getD k ([],[])).1.length≤140737488355328:=fun h=>(ho.piecesS _ (bE h)).1
     have hal:=sS (l:=o.pieces.take k)
     rw [bZ] at hal
     refine zg ?_
     (repeat' (first | refine gT ?_ ?_ | refine gF ?_ ?_ | refine gC ?_ ?_ | ((first | (refine aY (bMz (o.pieces.getD k ([],[])).1 (hpl (by omega))) ?_ ?_; (focus (simp -implicitDefEqProofs (disch:=omega) only [zdA,go_sem,simprocAttr]; done))) | (refine aY (P0 (o.pieces.getD k ([],[])).1 (hpl (by omega))) ?_ ?_; (focus (simp -implicitDefEqProofs (disch:=omega) only [zdA,go_sem,simprocAttr]; done)))); simp -implicitDefEqProofs (disch:=omega) only [go_sem,simprocAttr]) | refine aK (by omega) ?_ | (intro hr; have hc:=hr; (try simp only [zdz] at hc); simp -implicitDefEqProofs (disch:=omega) only [hr,go_sem,simprocAttr]; (try clear hr))))
     all_goals first | (exfalso; omega) | skip
     all_goals first | (refine aG ?_ (by rfl); rw [aIe (k:=k) (by omega) (by simp_all [pG,mW,List.length_eq_zero_iff,mN])]; done) | skip
     all_goals first | (refine ⟨(k+1,out,_),⟨by omega,bK ha (by simp_all [pG,mW,List.length_eq_zero_iff,mN]),?_⟩,by simp; omega,rfl,rfl,by simp⟩; dsimp only; rw [nI (by omega),if_pos (List.eq_nil_of_length_eq_zero (by assumption)),List.append_nil]; exact ho2.more _) | skip
     · refine eD (pre:=[_]) (news:=[.s (o.pieces.getD k ([],[])).2]) (m:=1) ho2 rfl rfl aSq zo9 sz9 by9 rfl (by decide) (by simp -implicitDefEqProofs (disch:=omega) only [go_sem,simprocAttr]) (by simp -implicitDefEqProofs (disch:=omega) only [go_sem,simprocAttr]) ⟨by omega,by omega⟩ ?_
       intro out' g' ho' _
       refine zg ?_
       refine ⟨(k+1,out',g'),⟨by omega,bK ha (by simp_all [pG,mW,List.length_eq_zero_iff,mN]),?_⟩,by simp; omega,rfl,by simp⟩
       dsimp only
       rw [nI (by omega),if_neg (by rw [← List.length_eq_zero_iff]; assumption),aV,List.length_append]
       exact ho'
     · refine eD (pre:=[_]) (news:=[.s (o.pieces.getD k ([],[])).2]) (m:=1) ho2 rfl rfl aSq zo9 sz9 by9 rfl (by decide) (by simp -implicitDefEqProofs (disch:=omega) only [go_sem,simprocAttr]) (by simp -implicitDefEqProofs (disch:=omega) only [go_sem,simprocAttr]) ⟨by omega,by omega⟩ ?_
       intro out' g' ho' _
       refine zg ?_
       refine ⟨(k+1,out',g'),⟨by omega,bK ha (by simp_all [pG,mW,List.length_eq_zero_iff,mN]),?_⟩,by simp; omega,rfl,by simp⟩
       dsimp only
       rw [nI (by omega),if_neg (by rw [← List.length_eq_zero_iff]; assumption),aV,List.length_append]
       exact ho'
     · have hk2:k=o.pieces.length:=by omega
       have hne:o.pieces ≠ []:=fun e=>by simp_all
       have hemp:o.pieces.isEmpty=false:=by simpa using hne
       have hall:o.pieces.all pG=true:=kK (d:=([],[])) (fun j hj=>ha j (by omega))
       rw [aJ (by omega)] at ho2
       have hal:=sS (l:=o.pieces)
       rcases ho2 with ⟨rfl,hnil,_⟩ | ⟨i0,rfl,hg,_⟩
       · have hnil:nJ o.pieces=[]:=by simpa using hnil
         (refine zs1 (bKo [] o.args (by simp) hx) ?_; repeat' first | exact trivial | refine zJ ?_ ?_ | refine zH fun hc=>?_)
         refine aG ?_ (by rfl)
         rw [qE,hemp,hall,hnil,zt (mN.1 hc)]; simp
       · (refine zx1 hg (bKo (nJ o.pieces) o.args (by omega) hx) ?_; repeat' first | exact trivial | refine zJ ?_ ?_ | refine zH fun hc=>?_)
         refine aG ?_ (by rfl)
         rw [qE,hemp,hall,zt (mN.1 hc)]; simp
     · refine aG ?_ (by rfl)
       have hne:o.pieces ≠ []:=fun e=>by simp_all
       simp_all [qE,mN]
       omega
end Go.Proofs.YtifefbhllfdmlaaGreatDoor
namespace Go.Proofs.YtifefbhllfdmlaaGreatDoor
open Go Go.Vo
open Nat (reduceAdd reduceSub reduceMul reduceLeDiff reduceLT reduceEqDiff)
open Int (reduceNeg)

theorem sJ {s:cI}:persL [dD s]=true:=by
 show (pers (dD s) && true)=true
 rw [A7]; rfl
def B8 (o:LOp) (i:Int):Bool:=decide (1≤i) && decide (i≤o.args.length)
theorem V9 (o:LOp):persL (aI o)=true:=by simp only [aI,persL,pers,uY,W0,avb,gV,dY]
theorem bNl (i:Int) (o:LOp): CT 148 [.i .i64 i,.box (aI o) 0] (.b (B8 o i)):=by
 refine aE mixed Tryz.func148 g0 ?_
 · skip
   (refine zs0 ?_; repeat' first | exact trivial | refine zJ ?_ ?_ | refine zH fun hc=>?_)
   all_goals (refine aG ?_ (by rfl))
   all_goals first | (simp_all [B8]; done) | (simp_all [B8]; omega)
def aMy (o:LOp):Bool:=decide (0≤o.prec) && decide (o.prec≤20) && (decide (0 < o.pieces.length) || decide (o.prec=0))
def aDk (o:LOp):Bool:=decide (0≤o.assoc) && decide (o.assoc≤2) && (decide (0 < o.prec) || decide (o.assoc=0))
def opHead (s:cI) (o:LOp):Bool:=dP (tZ o.name) && !iF.contains o.name && decide (o.args.length≤8) && o.args.all (existsA s) && s.sorts.contains o.sort
def aOx (s:cI) (o:LOp):Bool:=opHead s o && aMy o && aDk o && o.strict.all (B8 o) && decide o.strict.Nodup && qE o
def N7 (s:cI) (o:LOp):Bool:=dP o.name && !iF.contains o.name && decide (o.args.length≤8) && o.args.all (existsA s) && existsA s o.sort && (decide (o.pieces.length=0) && decide (o.prec=0) && decide (o.assoc=0) && decide (o.strict.length=0))
theorem bGe {n:Nat}:(8 < (n:Int))↔¬ n≤8:=by omega
theorem aXn {n:Nat}:((n:Int)≤8)↔n≤8:=by omega
theorem aQy {n:Nat}:(0 < (n:Int))↔0 < n:=by omega
theorem bTh {n:Nat}:((n:Int)=0)↔n=0:=by omega
theorem bSy (s:cI) (o:LOp) (hs:Small s) (ho:OkO o): CT 93 [dD s,elO o] (.b (N7 s o)):=by
 refine aE mixed Tryz.func93 g0 ?_
 · skip
   (refine zs4 (P0 o.name ho.name) (bFs o.name) (aWm o.args 90 [dD s] [] (existsA s) ho.args sJ rfl (fun k hk=>O8 s (o.args.getD k []))) (O8 s o.sort) ?_; repeat' first | exact trivial | refine zJ ?_ ?_ | refine zH fun hc=>?_)
   all_goals (refine aG ?_ (by rfl))
   all_goals simp only [aXn,bTh] at *
   all_goals simp only [N7, *,decide_true,decide_false,Bool.and_true,Bool.true_and,Bool.and_false,Bool.false_and,Bool.not_true,Bool.not_false,dG,dF,cN,cO]
end Go.Proofs.YtifefbhllfdmlaaGreatDoor
namespace Go.Proofs.YtifefbhllfdmlaaGreatDoor
open Go Go.Vo
open Nat (reduceAdd reduceSub reduceMul reduceLeDiff reduceLT reduceEqDiff)
open Int (reduceNeg)

theorem bSz (s:cI) (o:LOp) (hs:Small s) (ho:OkO o): CT 92 [dD s,elO o] (.b (aOx s o)):=by
 refine aE mixed Tryz.func92 g0 ?_
 · skip
   have hb:=eK (P5 o.name) ho.name
   have h1:=hs.sorts
   (repeat' (first | refine gT ?_ ?_ | refine gF ?_ ?_ | refine gC ?_ ?_ | ((first | (refine aY (bAw o.name ho.name) ?_ ?_; (focus (simp -implicitDefEqProofs (disch:=omega) only [zdA,go_sem,simprocAttr]; done))) | (refine aY (P0 (tZ o.name) hb) ?_ ?_; (focus (simp -implicitDefEqProofs (disch:=omega) only [zdA,go_sem,simprocAttr]; done))) | (refine aY (bFs o.name) ?_ ?_; (focus (simp -implicitDefEqProofs (disch:=omega) only [zdA,go_sem,simprocAttr]; done))) | (refine aY (aWm o.args 90 [dD s] [] (existsA s) ho.args sJ rfl (fun k hk=>O8 s (o.args.getD k []))) ?_ ?_; (focus (simp -implicitDefEqProofs (disch:=omega) only [zdA,go_sem,simprocAttr]; done))) | (refine aY (G9 s.sorts o.sort (by omega)) ?_ ?_; (focus (simp -implicitDefEqProofs (disch:=omega) only [zdA,go_sem,simprocAttr]; done))) | (refine aY (bNk o.strict 148 [] [.box (aI o) 0] (B8 o) ho.strict rfl (by simp only [persL,pers,V9,dY]) (fun k hk=>bNl (o.strict.getD k 0) o)) ?_ ?_; (focus (simp -implicitDefEqProofs (disch:=omega) only [zdA,go_sem,simprocAttr]; done))) | (refine aY (bNj o.strict ho.strict) ?_ ?_; (focus (simp -implicitDefEqProofs (disch:=omega) only [zdA,go_sem,simprocAttr]; done))) | (refine aY (bNi o ho) ?_ ?_; (focus (simp -implicitDefEqProofs (disch:=omega) only [zdA,go_sem,simprocAttr]; done)))); simp -implicitDefEqProofs (disch:=omega) only [go_sem,simprocAttr]) | refine aK (by omega) ?_ | (intro hr; have hc:=hr; (try simp only [zdz] at hc); simp -implicitDefEqProofs (disch:=omega) only [hr,go_sem,simprocAttr]; (try clear hr))))
   all_goals (refine aG ?_ (by rfl))
   all_goals try simp only [bGe,aQy,H8] at *
   all_goals first | (exfalso; omega) | skip
   all_goals simp only [aOx,opHead,aMy,aDk, *,decide_true,decide_false,Bool.and_true,Bool.true_and,Bool.and_false,Bool.false_and,Bool.not_true,Bool.not_false,dG,dF,cN,cO]
   all_goals first | (simp; done) | (simp_all; done) | (simp_all; omega)
end Go.Proofs.YtifefbhllfdmlaaGreatDoor
namespace Go.Proofs.YtifefbhllfdmlaaGreatDoor
open Go Go.Vo
open Nat (reduceAdd reduceSub reduceMul reduceLeDiff reduceLT reduceEqDiff)
open Int (reduceNeg)

attribute [go_sem] List.replicate_zero bP
end Go.Proofs.YtifefbhllfdmlaaGreatDoor
namespace Go.Proofs.YtifefbhllfdmlaaGreatDoor
open Go Go.Vo
open Nat (reduceAdd reduceSub reduceMul reduceLeDiff reduceLT reduceEqDiff)
open Int (reduceNeg)

def xX (x:Str):Bool:=dP x && !gA.contains x
def oM (s:cI):List Str:=s.ops.map LOp.name++s.funs.map LOp.name
def mU (s:cI):Bool:=decide (s.sorts.length≤40) && decide (s.below.length≤200) && decide (s.ops.length+s.funs.length≤200) && decide s.below.Nodup && decide s.values.Nodup
def nV (s:cI):Bool:=decide s.sorts.Nodup && s.sorts.all xX && decide (oM s).Nodup
def pA (s:cI):Bool:=s.below.all (qL s) && s.values.all (existsA s) && s.ops.all (aOx s) && s.funs.all (N7 s)
def eN (s:cI):Bool:=mU s && nV s && pA s
theorem D4 {s:cI} (h1:s.sorts.Nodup) (h2:s.sorts.all xX=true) (h3:(oM s).Nodup):R3 s:=by
 refine ⟨?_,?_,?_⟩
 · unfold keysOf
   rw [gU]
   refine ⟨by decide,h1,?_⟩
   intro a ha b hb hab
   subst hab
   have:=aR.1 h2 a hb
   simp only [xX,aC,cG] at this
   have h4:gA.contains a=true:=by simpa using ha
   rw [h4] at this
   cases this.2
 · unfold oM at h3
   exact (gU.1 h3).1
 · unfold oM at h3
   exact (gU.1 h3).2.1
theorem jP {s:cI} (h:eN s=true):R3 s:=by
 simp only [eN,nV,aC,decide_eq_true_eq] at h
 exact D4 h.1.2.1.1 h.1.2.1.2 h.1.2.2

theorem aPi (s:cI) (ho:OkS s):∀ k,k < s.sorts.length→CT 82 ([]++[.s (s.sorts.getD k [])]++[]) (.b (xX (s.sorts.getD k []))):=fun k hk=>bTc _ (ho.sortsS _ (bE hk))
theorem aNf {a b:List AV}:persL (a++b)=(persL a && persL b):=by
 induction a with
 | nil=>simp [persL]
 | cons x l ih=>simp [persL,ih,kW]
theorem bLd (s:cI) (h:(oM s).length≤140737488355328):CT 81 [.sl ((s.ops.map LOp.name).map .s++(s.funs.map LOp.name).map .s) (s.ops.length+s.funs.length)] (.b (decide (oM s).Nodup)):=by
 have:=bFp (oM s) h
 simpa only [avs,oM,aV,List.length_append,dW] using this
theorem bBv {α β γ:Type} {f:β→γ} {g:α→β} {a b:List α}:((a.map g).map f++(b.map g).map f).take (a.length+b.length)=(a.map g).map f++(b.map g).map f:=aJ (by simp)
attribute [go_sem] aNf bBv
theorem aQr (s:cI) (hs:Small s) (ho:OkS s): CT 47 [.agg (bB s)] (.b (eN s)):=by
 refine aE mixed Tryz.func47 g0 ?_
 · skip
   have h1:=hs.sorts
   have h2:=hs.below
   have h3:=hs.ops
   have h4:=hs.funs
   have h5:=hs.values
   (refine zs2 (bTd s.below ho.below) (bFp s.values ho.values) ?_; repeat' first | exact trivial | refine zJ ?_ ?_ | refine zH fun hc=>?_)
   all_goals first | (refine aG ?_ (by rfl); simp only [eN,mU]; simp_all; done) | (refine aG ?_ (by rfl); simp only [eN,mU]; simp_all; omega) | skip
   (repeat' (first | refine gT ?_ ?_ | refine gF ?_ ?_ | refine gC ?_ ?_ | ((first | (refine aY (bFp s.sorts ho.sorts) ?_ ?_; (focus (simp -implicitDefEqProofs (disch:=omega) only [zdA,go_sem,simprocAttr]; done))) | (refine aY (aWm s.sorts 82 [] [] xX ho.sorts rfl rfl (aPi s ho)) ?_ ?_; (focus (simp -implicitDefEqProofs (disch:=omega) only [zdA,go_sem,simprocAttr]; done))) | (refine aY (bKs s.ops ho.opsT) ?_ ?_; (focus (simp -implicitDefEqProofs (disch:=omega) only [zdA,go_sem,simprocAttr]; done))) | (refine aY (bKs s.funs ho.funsT) ?_ ?_; (focus (simp -implicitDefEqProofs (disch:=omega) only [zdA,go_sem,simprocAttr]; done))) | (refine aY (bLd s (by simp only [oM,List.length_append,dW]; omega)) ?_ ?_; (focus (simp -implicitDefEqProofs (disch:=omega) only [zdA,go_sem,simprocAttr]; done)))); simp -implicitDefEqProofs (disch:=omega) only [go_sem,simprocAttr]) | refine aK (by omega) ?_ | (intro hr; have hc:=hr; (try simp only [zdz] at hc); simp -implicitDefEqProofs (disch:=omega) only [hr,go_sem,simprocAttr]; (try clear hr))))
   all_goals first | (refine aG ?_ (by rfl); simp only [eN,nV, *,decide_true,decide_false,Bool.and_false,Bool.false_and]; done) | skip
   (repeat' (first | refine gT ?_ ?_ | refine gF ?_ ?_ | refine gC ?_ ?_ | ((first | (refine aY (aJs s hs (D4 (by assumption) (by assumption) (by assumption))) ?_ ?_; (focus (simp -implicitDefEqProofs (disch:=omega) only [zdA,go_sem,simprocAttr]; done))) | (refine aY (bTb s.below 89 [dD s] [] (qL s) ho.below sJ rfl (fun k hk=>bTa s (s.below.getD k ([],[])) hs)) ?_ ?_; (focus (simp -implicitDefEqProofs (disch:=omega) only [zdA,go_sem,simprocAttr]; done))) | (refine aY (aWm s.values 90 [dD s] [] (existsA s) ho.values sJ rfl (fun k hk=>O8 s (s.values.getD k []))) ?_ ?_; (focus (simp -implicitDefEqProofs (disch:=omega) only [zdA,go_sem,simprocAttr]; done))) | (refine aY (bKr s.ops 92 [dD s] [] (aOx s) ho.ops sJ rfl (fun k hk=>bSz s (s.ops.getD k default) hs (ho.opsO (s.ops.getD k default) (bE hk)))) ?_ ?_; (focus (simp -implicitDefEqProofs (disch:=omega) only [zdA,go_sem,simprocAttr]; done))) | (refine aY (bKr s.funs 93 [dD s] [] (N7 s) ho.funs sJ rfl (fun k hk=>bSy s (s.funs.getD k default) hs (ho.funsO (s.funs.getD k default) (bE hk)))) ?_ ?_; (focus (simp -implicitDefEqProofs (disch:=omega) only [zdA,go_sem,simprocAttr]; done)))); simp -implicitDefEqProofs (disch:=omega) only [go_sem,simprocAttr]) | refine aK (by omega) ?_ | (intro hr; have hc:=hr; (try simp only [zdz] at hc); simp -implicitDefEqProofs (disch:=omega) only [hr,go_sem,simprocAttr]; (try clear hr))))
   all_goals first | (refine aG ?_ (by rfl); simp only [eN,nV,pA, *,decide_true,decide_false,Bool.and_false,Bool.false_and]; done) | skip
   all_goals refine aG ?_ (by rfl)
   all_goals simp only [eN,mU,nV,pA, *,decide_true,Bool.and_true,Bool.true_and]
   all_goals (simp; omega)
end Go.Proofs.YtifefbhllfdmlaaGreatDoor
namespace Go.Proofs.YtifefbhllfdmlaaGreatDoor
open Go Go.Vo
open Nat (reduceAdd reduceSub reduceMul reduceLeDiff reduceLT reduceEqDiff)
open Int (reduceNeg)

end Go.Proofs.YtifefbhllfdmlaaGreatDoor
namespace Go.Proofs.YtifefbhllfdmlaaGreatDoor
open Go Go.Vo
open Nat (reduceAdd reduceSub reduceMul reduceLeDiff reduceLT reduceEqDiff)
open Int (reduceNeg)

def bVh (o:LOp):Nat:=o.args.length+o.pieces.length+o.strict.length
def qU (l:List LOp):Nat:=(l.map bVh).sum
def few (s:cI):Bool:=decide (s.sorts.length≤60) && decide (s.below.length≤250) && decide (s.ops.length+s.funs.length≤250) && decide (s.values.length≤100) && decide (qU (s.ops++s.funs)≤3000)
@[simp] theorem bOj:qU []=0:=rfl
theorem aZx {s:cI} (h:60 < s.sorts.length∨250 < s.below.length∨250 < s.ops.length+s.funs.length∨100 < s.values.length∨3000 < qU (s.ops++s.funs)):few s=false:=by
 unfold few
 simp only [mC,decide_eq_false_iff_not]
 omega
theorem bFh {s:cI} (h:s.sorts.length≤60∧s.below.length≤250∧s.ops.length+s.funs.length≤250∧s.values.length≤100∧qU (s.ops++s.funs)≤3000):few s=true:=by
 unfold few
 simp only [aC,decide_eq_true_eq]
 omega
theorem aJx {l:List LOp} {k:Nat} (h:k < l.length):qU (l.take (k+1))=qU (l.take k)+bVh (l.getD k default):=by
 rw [eH (d:=default) h]; simp [qU]
theorem aXq {l:List LOp} {k:Nat}:qU (l.take k)≤qU l:=by
 have h:qU (l.take k++l.drop k)=qU l:=by rw [eL]
 unfold qU at *
 rw [aV,List.sum_append] at h
 omega
theorem bTf (s:cI) (hs:OkS s): CT 36 [.agg (bB s)] (.b (few s)):=by
 refine fK (rx:=true) (th:=fun _=>none) mixed Tryz.func36 g0 ?_
 · simp -implicitDefEqProofs (disch:=omega) only [Tryz.f36,go_sem,List.replicate,simprocAttr]
   have h1:=hs.sorts
   have h2:=hs.below
   have h3:=hs.ops
   have h4:=hs.funs
   have h5:=hs.values
   (refine zs0 ?_; repeat' first | exact trivial | refine zJ ?_ ?_ | refine zH fun hc=>?_)
   all_goals first | (refine aG ?_ (by rfl); rw [aZx (by omega)]; done) | skip
   rw [← dN,← List.length_append]
   have hL:(s.ops++s.funs).length=s.ops.length+s.funs.length:=List.length_append
   have hO:∀ x ∈ s.ops++s.funs,OkO x:=fun x hx=>(bC.1 hx).elim (hs.opsO x) (hs.funsO x)
   have hfin:qU (s.ops++s.funs)≤3000→few s=true:=fun h=>bFh ⟨by omega,by omega,by omega,by omega,h⟩
   have hfin2:3000 < qU (s.ops++s.funs)→few s=false:=fun h=>aZx (by omega)
   generalize s.ops++s.funs=L at hL hO hfin hfin2
   refine fJ (fun (k:Nat)=>[.k,.k,.j,.v (.i .i64 (qU (L.take k):Nat)),.k,.j,.k,.k,.k,.k,.k,.k,.k,.k,.k,.k,.k,.k,.k,.k,.k,.k,.k,.k,.k,.k,.k,.k,.k,.k,.k,.k,.k,.k,.k,.k,.k,.k,.k,.k,.v (.i .i64 k),.j,.j,.j,.j,.j,.j,.j,.j,.j,.j,.j,.j,.j,.j,.j,.j,.j,.j,.j]) (fun k=>[.box false [.sl (s.sorts.map .s) s.sorts.length,.sl (s.below.flatMap aQ) s.below.length,.sl (s.ops.flatMap aI) s.ops.length,.sl (s.funs.flatMap aI) s.funs.length,.sl (s.values.map .s) s.values.length],.dead,.arr false 7 (L.flatMap aI)]) (fun k=>k≤L.length∧qU (L.take k)≤3000) (fun k=>L.length - k) (0) _ ⟨aF _,by simp [qU]⟩ rfl (by simp [fD]) ?_
   rintro k g j ⟨hk,hb⟩
   have ho:k < L.length→(L.getD k default).args.length≤140737488355328∧(L.getD k default).pieces.length≤140737488355328∧(L.getD k default).strict.length≤140737488355328:=fun h=>⟨(hO _ (bE h)).args,(hO _ (bE h)).pieces,(hO _ (bE h)).strict⟩
   have hs1:k < L.length→qU (L.take (k+1))=qU (L.take k)+((L.getD k default).args.length+(L.getD k default).pieces.length+(L.getD k default).strict.length):=fun h=>aJx h
   have hle:=aXq (l:=L) (k:=k+1)
   refine zg ?_
   (refine zs0 ?_; repeat' first | exact trivial | refine zJ ?_ ?_ | refine zH fun hc=>?_)
   · refine aG ?_ (by rfl)
     have:=hs1 (by omega)
     rw [hfin2 (by omega)]
   · have h1:=hs1 (by omega)
     refine ⟨k+1,_,⟨by omega,by omega⟩,by omega,rfl,?_⟩
     rw [h1]; simp
   · refine aG ?_ (by rfl)
     have hk2:k=L.length:=by omega
     subst hk2
     rw [iJ] at hb
     rw [hfin hb]
end Go.Proofs.YtifefbhllfdmlaaGreatDoor
namespace Go.Proofs.YtifefbhllfdmlaaGreatDoor
open Go Go.Vo
open Nat (reduceAdd reduceSub reduceMul reduceLeDiff reduceLT reduceEqDiff)
open Int (reduceNeg)

def xW (x:Str):Bool:=dP x && !oT.contains x
theorem aAt (x:Str):gA.contains x=oT.contains x:=by
 have h1:gA.all (fun x=>oT.contains x)=true:=by decide +kernel
 have h2:oT.all (fun x=>gA.contains x)=true:=by decide +kernel
 rw [cT]
 simp only [aR] at h1 h2
 exact ⟨fun h=>h1 x (by simpa using h),fun h=>h2 x (by simpa using h)⟩
def xO (s:cI):Bool:=s.sorts.all xW && decide (s.sorts.length≤40) && decide s.sorts.Nodup
theorem aGu {n:Nat}:((n:Int)≤40)↔n≤40:=by omega
theorem bSx (s:cI) (hs:OkS s): CT 102 [.agg (bB s)] (.b (xO s)):=by
 refine aE mixed Tryz.func102 g0 ?_
 · skip
   have h1:=hs.sorts
   refine fJ (fun (k:Nat)=>[.k,.k,.j,.k,.j,.k,.k,.k,.v (.i .i64 k),.j,.j,.j,.j,.j,.j,.j,.j,.j,.j,.j,.j,.k,.k,.k,.k,.k,.k,.k,.k,.k]) (fun k=>[.box false [.sl (s.sorts.map .s) s.sorts.length,.sl (s.below.flatMap aQ) s.below.length,.sl (s.ops.flatMap aI) s.ops.length,.sl (s.funs.flatMap aI) s.funs.length,.sl (s.values.map .s) s.values.length]]) (fun k=>k≤s.sorts.length∧∀ j,j < k→xW (s.sorts.getD j [])=true) (fun k=>s.sorts.length - k) (0) _ ⟨aF _,fun j h=>by omega⟩ rfl (by simp [fD]) ?_
   rintro k g j ⟨hk,ha⟩
   have hpl:k < s.sorts.length→(s.sorts.getD k []).length≤140737488355328:=fun h=>hs.sortsS _ (bE h)
   refine zg ?_
   (repeat' (first | refine gT ?_ ?_ | refine gF ?_ ?_ | refine gC ?_ ?_ | ((first | refine cE (O9 (s.sorts.getD k []) (hpl (by omega))) ?_ | refine cE (bFm) ?_ | refine cE (yK oT (s.sorts.getD k []) (by decide)) ?_ | refine cE (aWk s.sorts h1) ?_); simp -implicitDefEqProofs (disch:=omega) only [go_sem,simprocAttr]) | refine aK (by omega) ?_ | (intro hr; have hc:=hr; (try simp only [zdz] at hc); simp -implicitDefEqProofs (disch:=omega) only [hr,go_sem,simprocAttr]; (try clear hr))))
   · refine aG ?_ (by rfl)
     rw [xO,fM (d:=[]) (j:=k) (by omega) (by simp only [xW, *,Bool.not_true,Bool.and_false])]; rfl
   · exact ⟨k+1,_,⟨by omega,bK ha (by simp only [xW, *,Bool.not_false,Bool.and_true])⟩,by omega,rfl,by simp⟩
   · refine aG ?_ (by rfl)
     rw [xO,fM (d:=[]) (j:=k) (by omega) (by simp only [xW, *,Bool.false_and])]; rfl
   · refine aG ?_ (by rfl)
     have hall:s.sorts.all xW=true:=kK (d:=[]) (fun j hj=>ha j (by omega))
     rw [xO,hall,zt (aGu.1 hc)]; rfl
   · refine aG ?_ (by rfl)
     rw [aGu] at hc
     rw [xO,zf hc]; simp
def aDm (s:cI) (o:LOp):Bool:=o.args.all (iN s) && decide (o.args.length≤8)
theorem bAt (s:cI) (o:LOp) (hs:s.sorts.length≤140737488355328) (ho:o.args.length≤140737488355328): CT 167 [.agg (bB s),elO o] (.b (aDm s o)):=by
 refine aE mixed Tryz.func167 g0 ?_
 · skip
   refine fJ (fun (k:Nat)=>[.k,.k,.k,.k,.j,.k,.j,.k,.k,.k,.v (.i .i64 k),.j,.j,.j,.j,.j,.j,.j,.j,.k,.k,.k,.k]) (fun k=>[.box false [.sl (s.sorts.map .s) s.sorts.length,.sl (s.below.flatMap aQ) s.below.length,.sl (s.ops.flatMap aI) s.ops.length,.sl (s.funs.flatMap aI) s.funs.length,.sl (s.values.map .s) s.values.length],.box false (aI o)]) (fun k=>k≤o.args.length∧∀ j,j < k→iN s (o.args.getD j [])=true) (fun k=>o.args.length - k) (0) _ ⟨aF _,fun j h=>by omega⟩ rfl (by simp [fD]) ?_
   rintro k g j ⟨hk,ha⟩
   refine zg ?_
   (refine zs1 (aWl s (o.args.getD k []) hs) ?_; repeat' first | exact trivial | refine zJ ?_ ?_ | refine zH fun hc=>?_)
   · refine aG ?_ (by rfl)
     rw [aDm,fM (d:=[]) (j:=k) (by omega) hc]; rfl
   · exact ⟨k+1,_,⟨by omega,bK ha hc⟩,by omega,rfl,by simp⟩
   · refine aG ?_ (by rfl)
     have hall:o.args.all (iN s)=true:=kK (d:=[]) (fun j hj=>ha j (by omega))
     rw [aDm,hall]; simp; omega
theorem aPe {α:Type} {l:List α} {i:Nat} {d:α} (h:i < l.length):l.getD i d=l[i]:=by simp [List.getD,h]
def tL (o:LOp):Bool:=o.strict.all (B8 o) && decide o.strict.Nodup
theorem bNg (o:LOp) (ho:OkO o): CT 169 [elO o] (.b (tL o)):=by
 refine aE mixed Tryz.func169 g0 ?_
 · skip
   have h1:=ho.strict
   have h2:=ho.args
   refine bQ (fun (k:Nat)=>[.k,.k,.j,.j,.j,.k,.j,.k,.k,.k,.v (.i .i64 k),.j,.j,.j,.j,.j,.j,.j,.j,.j,.j,.j,.j,.j,.j,.j,.j,.j,.j,.j,.j,.j,.j,.j,.j,.j,.j,.j]) (fun k=>[.box false (aI o)]) (fun k=>k≤o.strict.length∧∀ j,j < k→(B8 o (o.strict.getD j 0)=true∧(o.strict.take j).contains (o.strict.getD j 0)=false)) (fun k=>o.strict.length - k) (0) ⟨aF _,fun j h=>by omega⟩ rfl (by simp [fD]) ?_
   rintro k j ⟨hk,ha⟩
   refine zg ?_
   (refine zs0 ?_; repeat' first | exact trivial | refine zJ ?_ ?_ | refine zH fun hc=>?_)
   · refine aG ?_ (by rfl)
     rw [tL,fM (d:=0) (j:=k) (by omega) (by unfold B8; rw [zf (p:=o.strict.getD k 0≤_) (by omega),Bool.and_false])]; rfl
   · refine bQ (fun (m:Nat)=>[.k,.k,.j,.k,.k,.k,.j,.k,.k,.k,.k,.k,.k,.k,.k,.k,.k,.k,.k,.k,.k,.k,.k,.k,.k,.k,.k,.k,.k,.v (.i .i64 m),.j,.j,.j,.j,.j,.j,.j,.k]) (fun m=>[.box false (aI o)]) (fun m=>m≤k∧∀ j,j < m→(o.strict.take k).getD j 0 ≠ o.strict.getD k 0) (fun m=>k - m) (0) ⟨aF _,fun j h=>by omega⟩ rfl (by simp [fD]) ?_
     rintro m j ⟨hm,hb⟩
     have hlt:(o.strict.take k).length=k:=by simp; omega
     refine zh hlt ?_
     (refine zx0 hlt ?_; repeat' first | exact trivial | refine zJ ?_ ?_ | refine zH fun hc=>?_)
     · refine aG ?_ (by rfl)
       have hcon:(o.strict.take k).contains (o.strict.getD k 0)=true:=by
         have hm2:=bE (l:=o.strict.take k) (d:=0) (k:=m) (by omega)
         rw [hc] at hm2
         simpa using hm2
       rw [tL,zf (fun hn=>by rw [mZ hn (by omega)] at hcon; cases hcon),Bool.and_false]
     · exact ⟨m+1,⟨by omega,bK hb hc⟩,by omega,by simp⟩
     · have hmk:m=k:=by omega
       subst hmk
       have hno:(o.strict.take m).contains (o.strict.getD m 0)=false:=by
         rw [← R9]
         intro hcon
         have hm2:o.strict.getD m 0 ∈ o.strict.take m:=by simpa using hcon
         obtain ⟨i,hi,he⟩:=bV.1 hm2
         exact hb i (by omega) (by rw [aPe hi]; exact he)
       exact ⟨m+1,⟨by omega,bK ha ⟨by unfold B8; rw [zt (by omega),zt (by omega)]; rfl,hno⟩⟩,by omega,by simp⟩
   · refine aG ?_ (by rfl)
     rw [tL,fM (d:=0) (j:=k) (by omega) (by unfold B8; rw [zf (p:=1≤_) (by omega),Bool.false_and])]; rfl
   · refine aG ?_ (by rfl)
     have h3:k=o.strict.length:=by omega
     have hall:o.strict.all (B8 o)=true:=kK (d:=0) (fun j hj=>(ha j (by omega)).1)
     rw [tL,hall,zt (vG (d:=0) (fun j hj=>(ha j (by omega)).2))]; rfl
def lN (n:Int):Bool := !(decide (n < 33) || decide (126 < n) || vK n || aQf n || decide (n=95) || decide (n=34) || decide (n=39) || decide (n=92))
def tB (s:Str):Bool:=decide (1≤s.length) && decide (s.length≤20) && (dP s || s.all fun c=>lN c.toNat)
theorem bMx (s:Str) (hs:s.length≤140737488355328): CT 211 [.s s] (.b (tB s)):=by
 refine aE mixed Tryz.func211 g0 ?_
 · skip
   (refine zs1 (O9 s hs) ?_; repeat' first | exact trivial | refine zJ ?_ ?_ | refine zH fun hc=>?_)
   · refine aG ?_ (by rfl)
     rw [tB,zf (p:=s.length≤20) (by omega)]; simp
   · refine aG ?_ (by rfl)
     rw [tB,zt (p:=s.length≤20) (by omega),zt (p:=1≤s.length) (by omega),hc]; rfl
   · refine bQ (fun (k:Nat)=>[.k,.k,.j,.j,.j,.k,.k,.k,.k,.k,.k,.k,.k,.k,.k,.k,.k,.v (.i .i64 k),.j,.j,.j,.j,.j,.j,.j,.j,.j,.j,.j,.j,.j,.j,.j,.j,.j,.j,.j,.j,.j,.j,.j,.j,.j,.j,.j,.j,.j,.j,.j,.j,.j,.j,.j,.j]) (fun k=>[]) (fun k=>k≤s.length∧∀ j,j < k→lN (at_ s j)=true) (fun k=>s.length - k) (0) ⟨aF _,fun j h=>by omega⟩ rfl (by simp [fD]) ?_
     rintro k j ⟨hk,ha⟩
     have hb:dP s=false:=hc
     have hr:=aHd s k
     simp only [at_] at hr
     refine zg ?_
     (refine zs2 bKk bKj ?_; repeat' first | exact trivial | refine zJ ?_ ?_ | refine zH fun hc=>?_)
     all_goals first | (refine aG ?_ (by rfl); rw [tB,hb,kY (q:=lN) (j:=k) (by omega) (by simp only [lN,at_, *,decide_true,dG,dF,Bool.not_true]),cN,Bool.and_false]; done) | skip
     · exact ⟨k+1,⟨by omega,bK ha (by simp only [lN,at_, *,decide_false,cN,Bool.not_false])⟩,by omega,by simp⟩
     · refine aG ?_ (by rfl)
       have h1:k=s.length:=by omega
       rw [tB,aHm (q:=lN) (h1 ▸ ha),zt (p:=s.length≤20) (by omega),zt (p:=1≤s.length) (by omega),dG]; rfl
   · refine aG ?_ (by rfl)
     rw [tB,zf (p:=1≤s.length) (by omega)]; simp
end Go.Proofs.YtifefbhllfdmlaaGreatDoor
namespace Go.Proofs.YtifefbhllfdmlaaGreatDoor
open Go Go.Vo
open Nat (reduceAdd reduceSub reduceMul reduceLeDiff reduceLT reduceEqDiff)
open Int (reduceNeg)

attribute [go_sem] ite_self fI decide_true decide_false not_true_eq_false not_false_eq_true Bool.not_true Bool.not_false
def rF (r:Option LOp):AV:=match r with
 | some o=>.tup [elO o,.b true]
 | none=>.tup [elO default,.b false]
def N2 (s:cI) (x:Str):Option LOp:=s.ops.find? fun o=>decide (o.name=x)
def C8 (s:cI) (x:Str):Option LOp:=s.funs.find? fun o=>decide (o.name=x)
theorem qP {l:List LOp} {x:Str}:((l.map LOp.name).findIdx? fun y=>decide (x=y))=l.findIdx? fun o=>decide (o.name=x):=by
 rw [List.findIdx?_map]; congr 1; funext o; simp [eq_comm]
theorem aGa {l:List LOp} {x:Str}:(∃ i o,(l.findIdx? fun o=>decide (o.name=x))=some i∧l.find? (fun o=>decide (o.name=x))=some o∧(l.map elO)[i]? = some (elO o))∨((l.findIdx? fun o=>decide (o.name=x))=none∧l.find? (fun o=>decide (o.name=x))=none):=by
 induction l with
 | nil=>right; simp
 | cons a l ih=>
   by_cases h:a.name=x
   · left; exact ⟨0,a,by simp [jK,h],by simp [h],by simp⟩
   · rcases ih with ⟨i,o,h1,h2,h3⟩ | ⟨h1,h2⟩
     · left; exact ⟨i+1,o,by simp [jK,h,h1],by simp [h,h2],by simpa using h3⟩
     · right; exact ⟨by simp [jK,h,h1],by simp [h,h2]⟩
theorem bKq (s:cI) (x:Str): CT 157 [dD s,.s x] (rF (N2 s x)):=by
 refine aE mixed Tryz.func157 g0 ?_
 · skip
   rcases aGa (l:=s.ops) (x:=x) with ⟨i,o,h1,h2,h3⟩ | ⟨h1,h2⟩
   · refine zh (zA2 @qP (zA2 h1 h3)) ?_
     exact aG (by simp only [rF,N2,h2]; rfl) (by simp only [pers,persL,iA,gV,iT,dY])
   · refine zh (zA2 @qP h1) ?_
     have:rF (N2 s x)=.tup [elO default,.b false]:=by simp only [rF,N2,h2]
     rw [this]
     exact .inr ⟨⟨⟨rfl,rfl,rfl,rfl,rfl,rfl,rfl,trivial⟩,rfl,trivial⟩,by decide,fun i hi=>by cases hi⟩
theorem bSu (s:cI) (x:Str): CT 225 [dD s,.s x] (rF (C8 s x)):=by
 refine aE mixed Tryz.func225 g0 ?_
 · skip
   rcases aGa (l:=s.funs) (x:=x) with ⟨i,o,h1,h2,h3⟩ | ⟨h1,h2⟩
   · refine zh (zA2 @qP (zA2 h1 h3)) ?_
     exact aG (by simp only [rF,C8,h2]; rfl) (by simp only [pers,persL,iA,gV,iT,dY])
   · refine zh (zA2 @qP h1) ?_
     have:rF (C8 s x)=.tup [elO default,.b false]:=by simp only [rF,C8,h2]
     rw [this]
     exact .inr ⟨⟨⟨rfl,rfl,rfl,rfl,rfl,rfl,rfl,trivial⟩,rfl,trivial⟩,by decide,fun i hi=>by cases hi⟩
end Go.Proofs.YtifefbhllfdmlaaGreatDoor
namespace Go.Proofs.YtifefbhllfdmlaaGreatDoor
open Go Go.Vo
open Nat (reduceAdd reduceSub reduceMul reduceLeDiff reduceLT reduceEqDiff)
open Int (reduceNeg)


end Go.Proofs.YtifefbhllfdmlaaGreatDoor
namespace Go.Proofs.YtifefbhllfdmlaaGreatDoor
open Go Go.Vo
open Nat (reduceAdd reduceSub reduceMul reduceLeDiff reduceLT reduceEqDiff)
open Int (reduceNeg)

end Go.Proofs.YtifefbhllfdmlaaGreatDoor
namespace Go.Proofs.YtifefbhllfdmlaaGreatDoor
open Go Go.Vo
open Nat (reduceAdd reduceSub reduceMul reduceLeDiff reduceLT reduceEqDiff)
open Int (reduceNeg)

end Go.Proofs.YtifefbhllfdmlaaGreatDoor
namespace Go.Proofs.YtifefbhllfdmlaaGreatDoor
open Go Go.Vo
open Nat (reduceAdd reduceSub reduceMul reduceLeDiff reduceLT reduceEqDiff)
open Int (reduceNeg)

end Go.Proofs.YtifefbhllfdmlaaGreatDoor
namespace Go.Proofs.YtifefbhllfdmlaaGreatDoor
open Go Go.Vo
open Nat (reduceAdd reduceSub reduceMul reduceLeDiff reduceLT reduceEqDiff)
open Int (reduceNeg)

end Go.Proofs.YtifefbhllfdmlaaGreatDoor
namespace Go.Proofs.YtifefbhllfdmlaaGreatDoor
open Go Go.Vo
open Nat (reduceAdd reduceSub reduceMul reduceLeDiff reduceLT reduceEqDiff)
open Int (reduceNeg)

end Go.Proofs.YtifefbhllfdmlaaGreatDoor
namespace Go.Proofs.YtifefbhllfdmlaaGreatDoor
open Go Go.Vo
open Nat (reduceAdd reduceSub reduceMul reduceLeDiff reduceLT reduceEqDiff)
open Int (reduceNeg)

theorem aNe {s:cI}:persL (bB s)=true:=by
 simp only [bB,persL,uY,avb,avo,pers,gV,uX,dY]
end Go.Proofs.YtifefbhllfdmlaaGreatDoor
namespace Go.Proofs.YtifefbhllfdmlaaGreatDoor
open Go Go.Vo
open Nat (reduceAdd reduceSub reduceMul reduceLeDiff reduceLT reduceEqDiff)
open Int (reduceNeg)

end Go.Proofs.YtifefbhllfdmlaaGreatDoor
namespace Go.Proofs.YtifefbhllfdmlaaGreatDoor
open Go Go.Vo
open Nat (reduceAdd reduceSub reduceMul reduceLeDiff reduceLT reduceEqDiff)
open Int (reduceNeg)

end Go.Proofs.YtifefbhllfdmlaaGreatDoor
namespace Go.Proofs.YtifefbhllfdmlaaGreatDoor
open Go Go.Vo
open Nat (reduceAdd reduceSub reduceMul reduceLeDiff reduceLT reduceEqDiff)
open Int (reduceNeg)

def okR (p:Str × Str):Bool:=if p.2=[] then tB p.1 else decide (p.1=[])
def aBv (o:LOp):Bool:=if o.pieces=[] then decide (o.prec=0) && decide (o.assoc=0) else decide (o.pieces.length≤20) && decide (nJ o.pieces=o.args) && decide (0≤o.prec) && decide (o.prec≤20) && decide (0≤o.assoc) && decide (o.assoc≤2) && (decide (0 < o.prec) || decide (o.assoc=0))
def qI (o:LOp):Bool:=o.pieces.all okR && aBv o
theorem bNh (o:LOp) (ho:OkO o): CT 168 [elO o] (.b (qI o)):=by
 refine aE mixed Tryz.func168 g0 ?_
 · skip
   have hp:=ho.piecesT
   have hx:=ho.args
   refine bQ (fun (s:Nat × AV × List AObj)=>[.k,.k,.j,.v (s.2.1),.k,.j,.k,.k,.k,.v (.i .i64 (s.1:Nat)),.j,.j,.j,.j,.j,.j,.j,.j,.j,.j,.j,.j,.j,.j,.j,.j,.j,.j,.j,.j,.j,.j,.j,.j,.j,.j,.j,.k,.k,.k,.k,.k,.k,.k,.k,.k,.k,.k,.k,.k,.k,.k,.k,.k,.k,.k,.k,.k,.k,.k,.k,.k,.k,.k,.k,.k,.k,.k,.k,.k,.k,.k,.k,.k,.k,.k,.k,.k,.k,.k,.k,.k,.k,.k,.k,.k,.k,.k,.k]) (fun s=>.box false (aI o)::s.2.2) (fun s=>s.1≤o.pieces.length∧(∀ j,j < s.1→okR (o.pieces.getD j ([],[]))=true)∧eP 1 1 s.2.2 s.2.1 ((nJ (o.pieces.take s.1)).map .s) (nJ (o.pieces.take s.1)).length) (fun s=>o.pieces.length - s.1) ((0,.e0,[])) ⟨aF _,fun j h=>by simp at h,eR⟩ rfl (by simp [fD]) ?_
   rintro ⟨k,out,g⟩ j ⟨hk,ha,ho2⟩
   dsimp only at hk ha ho2
   have hpl:k < o.pieces.length→(o.pieces.getD k ([],[])).1.length≤140737488355328:=fun h=>(ho.piecesS _ (bE h)).1
   have hal:=sS (l:=o.pieces.take k)
   rw [bZ] at hal
   refine zg ?_
   (repeat' (first | refine gT ?_ ?_ | refine gF ?_ ?_ | refine gC ?_ ?_ | ((refine aY (bMx (o.pieces.getD k ([],[])).1 (hpl (by omega))) ?_ ?_; (focus (simp -implicitDefEqProofs (disch:=omega) only [zdA,go_sem,↓reduceIte,reduceAdd,reduceSub,reduceMul,reduceLeDiff,reduceLT,reduceEqDiff,reduceNeg,Nat.reduceBEq]; done))); simp -implicitDefEqProofs (disch:=omega) only [go_sem,↓reduceIte,reduceAdd,reduceSub,reduceMul,reduceLeDiff,reduceLT,reduceEqDiff,reduceNeg,Nat.reduceBEq]) | refine aK (by omega) ?_ | (intro hr; have hc:=hr; (try simp only [zdz] at hc); simp -implicitDefEqProofs (disch:=omega) only [hr,go_sem,↓reduceIte,reduceAdd,reduceSub,reduceMul,reduceLeDiff,reduceLT,reduceEqDiff,reduceNeg,Nat.reduceBEq]; (try clear hr))))
   all_goals first | (exfalso; omega) | skip
   all_goals first | (refine aG ?_ (by rfl); rw [qI,fM (d:=([],[])) (j:=k) (by omega) (by simp_all [okR,← List.length_eq_zero_iff])]; rfl) | skip
   all_goals first | (refine ⟨(k+1,out,_),⟨by omega,bK ha (by simp_all [okR,← List.length_eq_zero_iff]),?_⟩,by simp; omega,rfl,rfl,by simp⟩; dsimp only; rw [nI (by omega),if_pos (List.eq_nil_of_length_eq_zero (by assumption)),List.append_nil]; exact ho2.more _) | skip
   · refine eD (pre:=[_]) (news:=[.s (o.pieces.getD k ([],[])).2]) (m:=1) ho2 rfl rfl aSq zo9 sz9 by9 rfl (by decide) (by simp -implicitDefEqProofs (disch:=omega) only [go_sem,↓reduceIte,reduceAdd,reduceSub,reduceMul,reduceLeDiff,reduceLT,reduceEqDiff,reduceNeg,Nat.reduceBEq]) (by simp -implicitDefEqProofs (disch:=omega) only [go_sem,↓reduceIte,reduceAdd,reduceSub,reduceMul,reduceLeDiff,reduceLT,reduceEqDiff,reduceNeg,Nat.reduceBEq]) ⟨by omega,by omega⟩ ?_
     intro out' g' ho' _
     refine zg ?_
     refine ⟨(k+1,out',g'),⟨by omega,bK ha (by simp_all [okR,← List.length_eq_zero_iff]),?_⟩,by simp; omega,rfl,by simp⟩
     dsimp only
     rw [nI (by omega),if_neg (by rw [← List.length_eq_zero_iff]; assumption),aV,List.length_append]
     exact ho'
   · have he:o.pieces=[]:=List.eq_nil_of_length_eq_zero (by omega)
     refine aG ?_ (by rfl)
     simp_all [qI,aBv]
   · have he:o.pieces=[]:=List.eq_nil_of_length_eq_zero (by omega)
     refine aG ?_ (by rfl)
     simp_all [qI,aBv]
   · have hk2:k=o.pieces.length:=by omega
     have hne:o.pieces ≠ []:=fun e=>by simp_all
     have hall:o.pieces.all okR=true:=kK (d:=([],[])) (fun j hj=>ha j (by omega))
     rw [aJ (by omega)] at ho2
     have hal:=sS (l:=o.pieces)
     have h20:=mN.1 hc
     clear ha hpl
     rcases ho2 with ⟨rfl,hnil,_⟩ | ⟨i0,rfl,hg,_⟩
     · have hnil:nJ o.pieces=[]:=by simpa using hnil
       (refine zs1 (bKp [] o.args (by simp) hx) ?_; repeat' first | exact trivial | refine zJ ?_ ?_ | refine zH fun hc=>?_)
       all_goals refine aG ?_ (by rfl)
       all_goals simp only [qI,hall,aBv,if_neg hne,hnil,Bool.true_and]
       all_goals first | (simp_all; done) | (simp_all; omega)
     · (refine zx1 hg (bKp (nJ o.pieces) o.args (by omega) hx) ?_; repeat' first | exact trivial | refine zJ ?_ ?_ | refine zH fun hc=>?_)
       all_goals refine aG ?_ (by rfl)
       all_goals simp only [qI,hall,aBv,if_neg hne,Bool.true_and]
       all_goals first | (simp_all; done) | (simp_all; omega)
   · refine aG ?_ (by rfl)
     have hne:o.pieces ≠ []:=fun e=>by simp_all
     have h20:¬ o.pieces.length≤20:=fun h=>hc (mN.2 h)
     simp only [qI,aBv,if_neg hne,zf h20,Bool.false_and,Bool.and_false]
end Go.Proofs.YtifefbhllfdmlaaGreatDoor
namespace Go.Proofs.YtifefbhllfdmlaaGreatDoor
open Go Go.Vo
open Nat (reduceAdd reduceSub reduceMul reduceLeDiff reduceLT reduceEqDiff)
open Int (reduceNeg)

def jH (s:cI) (b:Str × Str):Bool:=iN s b.1 && !decide (b.1=oW) && s.sorts.contains b.2
def oS (s:cI) (b:Str × Str):Bool := !(climb s.below b.2).contains b.1
def wD (s:cI):Bool:=s.below.all (jH s) && decide s.below.Nodup && s.below.all (oS s) && decide (s.below.length≤200)
theorem aAm {n:Nat}:((n:Int)≤200)↔n≤200:=by omega
theorem tY {s:cI} {k:Nat} (hk:k < s.below.length) (h:jH s (s.below.getD k ([],[]))=false):wD s=false:=by
 rw [wD,fM hk h]; rfl
theorem bIv {a b:Str × Str}:(decide (a.1=b.1) && (decide (a.2=b.2) && true))=decide (a=b):=by
 rw [cT]; simp [Prod.ext_iff]
theorem bSw (s:cI) (hs:OkS s) (hb:s.below.length≤1000): CT 103 [.agg (bB s)] (.b (wD s)):=by
 refine aE mixed Tryz.func103 g0 ?_
 · skip
   have h1:=hs.sorts
   have h2:=hs.below
   refine fJ (fun (k:Nat)=>[.k,.k,.j,.j,.j,.k,.j,.k,.k,.k,.k,.k,.v (.i .i64 k),.j,.j,.j,.j,.j,.j,.j,.j,.j,.j,.j,.j,.j,.j,.j,.j,.j,.j,.j,.j,.j,.j,.j,.j,.j,.j,.j,.j,.j,.j,.j,.j,.j,.j,.j,.j,.k,.k,.k,.k,.k,.k,.k,.k,.k,.k,.k,.k,.k,.k,.k,.k,.k,.k,.k]) (fun k=>[.box false [.sl (s.sorts.map .s) s.sorts.length,.sl (s.below.flatMap aQ) s.below.length,.sl (s.ops.flatMap aI) s.ops.length,.sl (s.funs.flatMap aI) s.funs.length,.sl (s.values.map .s) s.values.length]]) (fun k=>k≤s.below.length∧∀ j,j < k→(jH s (s.below.getD j ([],[]))=true∧(s.below.take j).contains (s.below.getD j ([],[]))=false)) (fun k=>s.below.length - k) (0) _ ⟨aF _,fun j h=>by omega⟩ rfl (by simp [fD]) ?_
   rintro k g j ⟨hk,ha⟩
   refine zg ?_
   (refine zs2 (aWl s (s.below.getD k ([],[])).1 h1) (yK s.sorts (s.below.getD k ([],[])).2 h1) ?_; repeat' first | exact trivial | refine zJ ?_ ?_ | refine zH fun hc=>?_)
   · refine aG ?_ (by rfl)
     rw [tY (k:=k) (by omega) (by simp only [jH, *,Bool.and_false])]
   · have hone:jH s (s.below.getD k ([],[]))=true:=by simp only [jH,oW, *,decide_false,Bool.not_false,dY]
     refine bQ (fun (t:Nat × List AObj)=>[.k,.k,.j,.k,.k,.k,.j,.k,.k,.k,.k,.k,.k,.k,.k,.k,.k,.k,.k,.k,.k,.k,.k,.k,.k,.k,.k,.k,.k,.k,.k,.k,.k,.k,.k,.k,.k,.k,.k,.k,.v (.i .i64 (t.1:Nat)),.j,.j,.j,.j,.j,.j,.j,.k,.k,.k,.k,.k,.k,.k,.k,.k,.k,.k,.k,.k,.k,.k,.k,.k,.k,.k,.k]) (fun t=>.box false [.sl (s.sorts.map .s) s.sorts.length,.sl (s.below.flatMap aQ) s.below.length,.sl (s.ops.flatMap aI) s.ops.length,.sl (s.funs.flatMap aI) s.funs.length,.sl (s.values.map .s) s.values.length]::(g++(.box false [.s (s.below.getD k ([],[])).1,.s (s.below.getD k ([],[])).2]::t.2))) (fun t=>t.1≤k∧∀ j,j < t.1→(s.below.take k).getD j ([],[]) ≠ s.below.getD k ([],[])) (fun t=>k - t.1) ((0,[])) ⟨aF _,fun j h=>by simp at h⟩ rfl (by simp [fD]) ?_
     rintro ⟨m,g2⟩ j ⟨hm,hb2⟩
     dsimp only at hm hb2
     have hlt:(s.below.take k).length=k:=by simp; omega
     refine zh hlt ?_
     (repeat' (first | refine gT ?_ ?_ | refine gF ?_ ?_ | refine gC ?_ ?_ | refine aK (by omega) ?_ | (intro hr; have hc:=hr; (try simp only [zdz] at hc); simp -implicitDefEqProofs (disch:=omega) only [hr,hlt,go_sem,simprocAttr]; (try clear hr))))
     · refine aG ?_ (by rfl)
       rw [bIv] at hc
       have he:=of_decide_eq_true hc
       have hm2:=bE (l:=s.below.take k) (d:=([],[])) (k:=m) (by omega)
       rw [← he] at hm2
       have hcon:(s.below.take k).contains (s.below.getD k ([],[]))=true:=by simpa using hm2
       rw [wD,zf (fun hn=>by rw [mZ hn (by omega)] at hcon; cases hcon),Bool.and_false]; rfl
     · rw [bIv] at hc
       have he:=of_decide_eq_false hc
       exact ⟨(m+1,_),⟨by dsimp only; omega,bK hb2 (fun e=>he e.symm)⟩,by dsimp only; omega,rfl,by simp⟩
     · have hmk:m=k:=by omega
       subst hmk
       have hno:(s.below.take m).contains (s.below.getD m ([],[]))=false:=by
         rw [← R9]
         intro hcon
         have hm2:s.below.getD m ([],[]) ∈ s.below.take m:=by simpa using hcon
         obtain ⟨i,hi,he⟩:=bV.1 hm2
         exact hb2 i (by omega) (by rw [aPe hi]; exact he)
       exact ⟨m+1,_,⟨by omega,bK ha ⟨hone,hno⟩⟩,by omega,rfl,by simp⟩
   · refine aG ?_ (by rfl)
     rw [tY (k:=k) (by omega) (by simp only [jH,oW, *,decide_true,Bool.not_true,Bool.and_false,Bool.false_and])]
   · refine aG ?_ (by rfl)
     rw [tY (k:=k) (by omega) (by simp only [jH, *,Bool.false_and])]
   · have hall:s.below.all (jH s)=true:=kK (d:=([],[])) (fun j hj=>(ha j (by omega)).1)
     have hnd:s.below.Nodup:=vG (d:=([],[])) (fun j hj=>(ha j (by omega)).2)
     clear ha
     refine fJ (fun (k:Nat)=>[.k,.k,.j,.k,.k,.k,.k,.k,.j,.k,.k,.k,.k,.k,.k,.k,.k,.k,.k,.k,.k,.k,.k,.k,.k,.k,.k,.k,.k,.k,.k,.k,.k,.k,.k,.k,.k,.k,.k,.k,.k,.k,.k,.k,.k,.k,.k,.k,.k,.k,.k,.k,.v (.i .i64 k),.j,.j,.j,.j,.j,.j,.j,.j,.j,.j,.j,.k,.k,.k,.k]) (fun k=>[.box false [.sl (s.sorts.map .s) s.sorts.length,.sl (s.below.flatMap aQ) s.below.length,.sl (s.ops.flatMap aI) s.ops.length,.sl (s.funs.flatMap aI) s.funs.length,.sl (s.values.map .s) s.values.length]]) (fun k=>k≤s.below.length∧∀ j,j < k→oS s (s.below.getD j ([],[]))=true) (fun k=>s.below.length - k) (0) _ ⟨aF _,fun j h=>by omega⟩ rfl (by simp [fD]) ?_
     rintro k g j ⟨hk,ha⟩
     have hcl:=vZ s.below (s.below.getD k ([],[])).2
     refine zg ?_
     (refine zs2 (bAv s (s.below.getD k ([],[])).2) (yK (climb s.below (s.below.getD k ([],[])).2) (s.below.getD k ([],[])).1) ?_; repeat' first | exact trivial | refine zJ ?_ ?_ | refine zH fun hc=>?_)
     · refine aG ?_ (by rfl)
       rw [wD,fM (p:=oS s) (d:=([],[])) (j:=k) (by omega) (by simp only [oS,hc,Bool.not_true]),Bool.and_false]; rfl
     · exact ⟨k+1,_,⟨by omega,bK ha (by simp only [oS,hc,Bool.not_false])⟩,by omega,rfl,by simp⟩
     · refine aG ?_ (by rfl)
       have hup:s.below.all (oS s)=true:=kK (d:=([],[])) (fun j hj=>ha j (by omega))
       rw [wD,hall,hup,zt hnd]
       simp [aAm]
end Go.Proofs.YtifefbhllfdmlaaGreatDoor
namespace Go.Proofs.YtifefbhllfdmlaaGreatDoor
open Go Go.Vo
open Nat (reduceAdd reduceSub reduceMul reduceLeDiff reduceLT reduceEqDiff)
open Int (reduceNeg)

def opR (s:cI) (o:LOp):Bool:=dP (tZ o.name) && !iF.contains o.name && aDm s o && s.sorts.contains o.sort && qI o && tL o
def aSo (s:cI) (o:LOp):Bool:=dP o.name && !iF.contains o.name && aDm s o && iN s o.sort && decide (o.pieces.length=0) && decide (o.prec=0) && decide (o.assoc=0) && decide (o.strict.length=0)
def kZ (s:cI):List Str:=s.ops.map LOp.name++s.funs.map LOp.name
def aUq (s:cI):Bool:=s.ops.all (opR s) && s.funs.all (aSo s) && decide ((kZ s).length≤200) && decide (kZ s).Nodup
theorem bIz {s:cI} {k:Nat} (hk:k < s.ops.length) (h:opR s (s.ops.getD k default)=false):aUq s=false:=by
 rw [aUq,fM hk h]; rfl
theorem bEt {s:cI} {k:Nat} (hk:k < s.funs.length) (h:aSo s (s.funs.getD k default)=false):aUq s=false:=by
 rw [aUq,fM (p:=aSo s) hk h]; simp
theorem bSv (s:cI) (hs:OkS s) (hn:s.ops.length+s.funs.length≤1000): CT 104 [.agg (bB s)] (.b (aUq s)):=by
 refine aE mixed Tryz.func104 g0 ?_
 · skip
   have h1:=hs.sorts
   refine bQ (fun (t:Nat × AV × List AObj)=>[.k,.k,.j,.v (t.2.1),.k,.j,.k,.k,.k,.k,.k,.v (.i .i64 (t.1:Nat)),.j,.j,.j,.j,.j,.j,.j,.j,.j,.j,.j,.j,.j,.j,.j,.j,.j,.j,.j,.j,.j,.j,.j,.j,.j,.j,.j,.j,.j,.j,.j,.j,.j,.j,.j,.j,.j,.j,.j,.j,.j,.j,.k,.k,.k,.k,.k,.k,.k,.k,.k,.k,.k,.k,.k,.k,.k,.k,.k,.k,.k,.k,.k,.k,.k,.k,.k,.k,.k,.k,.k,.k,.k,.k,.k,.k,.k,.k,.k,.k,.k,.k,.k,.k,.k,.k,.k,.k,.k,.k,.k,.k,.k,.k,.k,.k,.k,.k,.k,.k,.k,.k,.k,.k,.k,.k]) (fun t=>.box false [.sl (s.sorts.map .s) s.sorts.length,.sl (s.below.flatMap aQ) s.below.length,.sl (s.ops.flatMap aI) s.ops.length,.sl (s.funs.flatMap aI) s.funs.length,.sl (s.values.map .s) s.values.length]::t.2.2) (fun t=>t.1≤s.ops.length∧(∀ j,j < t.1→opR s (s.ops.getD j default)=true)∧eP 1 1 t.2.2 t.2.1 (((s.ops.take t.1).map LOp.name).map .s) t.1) (fun t=>s.ops.length - t.1) ((0,.e0,[])) ⟨aF _,fun j h=>by simp at h,eR⟩ rfl (by simp [fD]) ?_
   rintro ⟨k,out,g⟩ j ⟨hk,ha,ho⟩
   dsimp only at hk ha ho
   have o1:k < s.ops.length→OkO (s.ops.getD k default):=fun h=>hs.opsO _ (bE h)
   refine zg ?_
   (refine zs0 ?_; repeat' first | exact trivial | refine zJ ?_ ?_ | refine zH fun hc=>?_)
   · refine eD (pre:=[.box false [.sl (s.sorts.map .s) s.sorts.length,.sl (s.below.flatMap aQ) s.below.length,.sl (s.ops.flatMap aI) s.ops.length,.sl (s.funs.flatMap aI) s.funs.length,.sl (s.values.map .s) s.values.length]]) (g:=g++[.box false (aI (s.ops.getD k default))]) (more:=[.arr false 1 ([.s (s.ops.getD k default).name])]) (news:=[.s (s.ops.getD k default).name]) (m:=1) ((ho).more _) rfl (by simp -implicitDefEqProofs (disch:=omega) only [go_sem,↓reduceIte,reduceAdd,reduceSub,reduceMul,reduceLeDiff,reduceLT,reduceEqDiff,reduceNeg,Nat.reduceBEq]) aSq zo9 sz9 by9 rfl (by decide) (by simp -implicitDefEqProofs (disch:=omega) only [go_sem,↓reduceIte,reduceAdd,reduceSub,reduceMul,reduceLeDiff,reduceLT,reduceEqDiff,reduceNeg,Nat.reduceBEq]) (by simp -implicitDefEqProofs (disch:=omega) only [go_sem,↓reduceIte,reduceAdd,reduceSub,reduceMul,reduceLeDiff,reduceLT,reduceEqDiff,reduceNeg,Nat.reduceBEq]) ⟨by omega,by omega⟩ ?_
     intro out' g' ho' hkeep
     have hbox:=hkeep g.length (.box false (aI (s.ops.getD k default))) (by rw [O0]; rfl) (fun c=>nofun)
     clear hkeep
     have ho1:=o1 (by omega)
     refine zh hbox ?_
     (repeat' (first | refine gT ?_ ?_ | refine gF ?_ ?_ | refine gC ?_ ?_ | ((first | (refine aY (bAu (s.ops.getD k default).name ho1.name) ?_ ?_; (focus (simp -implicitDefEqProofs (disch:=omega) only [hbox,zdA,go_sem,↓reduceIte,reduceAdd,reduceSub,reduceMul,reduceLeDiff,reduceLT,reduceEqDiff,reduceNeg,Nat.reduceBEq]; done))) | (refine aY (bFr (s.ops.getD k default).name) ?_ ?_; (focus (simp -implicitDefEqProofs (disch:=omega) only [hbox,zdA,go_sem,↓reduceIte,reduceAdd,reduceSub,reduceMul,reduceLeDiff,reduceLT,reduceEqDiff,reduceNeg,Nat.reduceBEq]; done))) | (refine aY (bAt s (s.ops.getD k default) h1 ho1.args) ?_ ?_; (focus (simp -implicitDefEqProofs (disch:=omega) only [hbox,zdA,go_sem,↓reduceIte,reduceAdd,reduceSub,reduceMul,reduceLeDiff,reduceLT,reduceEqDiff,reduceNeg,Nat.reduceBEq]; done))) | (refine aY (yK s.sorts (s.ops.getD k default).sort h1) ?_ ?_; (focus (simp -implicitDefEqProofs (disch:=omega) only [hbox,zdA,go_sem,↓reduceIte,reduceAdd,reduceSub,reduceMul,reduceLeDiff,reduceLT,reduceEqDiff,reduceNeg,Nat.reduceBEq]; done))) | (refine aY (bNh (s.ops.getD k default) ho1) ?_ ?_; (focus (simp -implicitDefEqProofs (disch:=omega) only [hbox,zdA,go_sem,↓reduceIte,reduceAdd,reduceSub,reduceMul,reduceLeDiff,reduceLT,reduceEqDiff,reduceNeg,Nat.reduceBEq]; done))) | (refine aY (bNg (s.ops.getD k default) ho1) ?_ ?_; (focus (simp -implicitDefEqProofs (disch:=omega) only [hbox,zdA,go_sem,↓reduceIte,reduceAdd,reduceSub,reduceMul,reduceLeDiff,reduceLT,reduceEqDiff,reduceNeg,Nat.reduceBEq]; done)))); simp -implicitDefEqProofs (disch:=omega) only [hbox,go_sem,↓reduceIte,reduceAdd,reduceSub,reduceMul,reduceLeDiff,reduceLT,reduceEqDiff,reduceNeg,Nat.reduceBEq]) | refine aK (by omega) ?_ | (intro hr; have hc:=hr; (try simp only [zdz] at hc); simp -implicitDefEqProofs (disch:=omega) only [hr,hbox,go_sem,↓reduceIte,reduceAdd,reduceSub,reduceMul,reduceLeDiff,reduceLT,reduceEqDiff,reduceNeg,Nat.reduceBEq]; (try clear hr))))
     all_goals first | (refine aG ?_ (by rfl); rw [bIz (k:=k) (by omega) (by simp only [opR, *,decide_true,decide_false,Bool.and_false,Bool.false_and,Bool.and_true,Bool.true_and,Bool.not_true,Bool.not_false])]; done) | skip
     refine ⟨(k+1,out',g'),⟨by dsimp only; omega,bK ha (by simp only [opR, *,decide_true,decide_false,Bool.and_false,Bool.false_and,Bool.and_true,Bool.true_and,Bool.not_true,Bool.not_false]),?_⟩,by dsimp only; omega,rfl,rfl,by simp⟩
     dsimp only
     rw [eH (d:=default) (by omega),aV,aV]
     exact ho'
   · have hk2:k=s.ops.length:=by omega
     have hall:s.ops.all (opR s)=true:=kK (d:=default) (fun j hj=>ha j (by omega))
     rw [hk2,iJ] at ho
     clear ha hk o1
     refine bQ (fun (t:Nat × AV × List AObj)=>[.k,.k,.j,.v (t.2.1),.k,.k,.k,.j,.k,.k,.k,.k,.k,.k,.k,.k,.k,.k,.k,.k,.k,.k,.k,.k,.k,.k,.k,.k,.k,.k,.k,.k,.k,.k,.k,.k,.k,.k,.k,.k,.k,.k,.k,.k,.k,.k,.k,.k,.k,.k,.k,.k,.k,.k,.k,.k,.k,.v (.i .i64 (t.1:Nat)),.j,.j,.j,.j,.j,.j,.j,.j,.j,.j,.j,.j,.j,.j,.j,.j,.j,.j,.j,.j,.j,.j,.j,.j,.j,.j,.j,.j,.j,.j,.j,.j,.j,.j,.j,.j,.j,.j,.j,.j,.j,.j,.j,.j,.j,.j,.j,.j,.j,.j,.j,.j,.j,.k,.k,.k,.k,.k,.k,.k]) (fun t=>.box false [.sl (s.sorts.map .s) s.sorts.length,.sl (s.below.flatMap aQ) s.below.length,.sl (s.ops.flatMap aI) s.ops.length,.sl (s.funs.flatMap aI) s.funs.length,.sl (s.values.map .s) s.values.length]::t.2.2) (fun t=>t.1≤s.funs.length∧(∀ j,j < t.1→aSo s (s.funs.getD j default)=true)∧eP 1 1 t.2.2 t.2.1 ((s.ops.map LOp.name).map .s++((s.funs.take t.1).map LOp.name).map .s) (s.ops.length+t.1)) (fun t=>s.funs.length - t.1) ((0,out,g)) ⟨aF _,fun j h=>by simp at h,by simpa using ho⟩ rfl (by simp [fD]) ?_
     clear ho hk2
     rintro ⟨k,out,g⟩ j ⟨hk,ha,ho⟩
     dsimp only at hk ha ho
     have o1:k < s.funs.length→OkO (s.funs.getD k default):=fun h=>hs.funsO _ (bE h)
     refine zg ?_
     (refine zs0 ?_; repeat' first | exact trivial | refine zJ ?_ ?_ | refine zH fun hc=>?_)
     · refine eD (pre:=[.box false [.sl (s.sorts.map .s) s.sorts.length,.sl (s.below.flatMap aQ) s.below.length,.sl (s.ops.flatMap aI) s.ops.length,.sl (s.funs.flatMap aI) s.funs.length,.sl (s.values.map .s) s.values.length]]) (g:=g++[.box false (aI (s.funs.getD k default))]) (more:=[.arr false 1 ([.s (s.funs.getD k default).name])]) (news:=[.s (s.funs.getD k default).name]) (m:=1) ((ho).more _) rfl (by simp -implicitDefEqProofs (disch:=omega) only [go_sem,↓reduceIte,reduceAdd,reduceSub,reduceMul,reduceLeDiff,reduceLT,reduceEqDiff,reduceNeg,Nat.reduceBEq]) aSq zo9 sz9 by9 rfl (by decide) (by simp -implicitDefEqProofs (disch:=omega) only [go_sem,↓reduceIte,reduceAdd,reduceSub,reduceMul,reduceLeDiff,reduceLT,reduceEqDiff,reduceNeg,Nat.reduceBEq]) (by simp -implicitDefEqProofs (disch:=omega) only [go_sem,↓reduceIte,reduceAdd,reduceSub,reduceMul,reduceLeDiff,reduceLT,reduceEqDiff,reduceNeg,Nat.reduceBEq]) ⟨by omega,by omega⟩ ?_
       intro out' g' ho' hkeep
       have hbox:=hkeep g.length (.box false (aI (s.funs.getD k default))) (by rw [O0]; rfl) (fun c=>nofun)
       clear hkeep
       have ho1:=o1 (by omega)
       refine zh hbox ?_
       (refine zx4 hbox (O9 (s.funs.getD k default).name ho1.name) (bFr (s.funs.getD k default).name) (bAt s (s.funs.getD k default) h1 ho1.args) (aWl s (s.funs.getD k default).sort h1) ?_; repeat' first | exact trivial | refine zJ ?_ ?_ | refine zH fun hc=>?_)
       all_goals try simp only [aQy,Nat.pos_iff_ne_zero,H8] at *
       all_goals first | (refine aG ?_ (by rfl); rw [bEt (k:=k) (by omega) (by simp only [aSo, *,decide_true,decide_false,Bool.and_false,Bool.false_and,Bool.and_true,Bool.true_and,Bool.not_true,Bool.not_false])]; done) | skip
       refine ⟨(k+1,out',g'),⟨by dsimp only; omega,bK ha (by simp only [aSo, *,decide_true,decide_false,Bool.and_false,Bool.false_and,Bool.and_true,Bool.true_and,Bool.not_true,Bool.not_false]),?_⟩,by dsimp only; omega,rfl,rfl,by simp⟩
       dsimp only
       rw [eH (d:=default) (by omega),aV,aV,← bS]
       exact ho'
     · have hk2:k=s.funs.length:=by omega
       have hf:s.funs.all (aSo s)=true:=kK (d:=default) (fun j hj=>ha j (by omega))
       rw [hk2,iJ] at ho
       clear ha hk o1 hc hk2
       have hnl:(kZ s).length=s.ops.length+s.funs.length:=by simp [kZ]
       have hop:aUq s=(decide ((kZ s).length≤200) && decide (kZ s).Nodup):=by rw [aUq,hall,hf]; rfl
       have hcell:(s.ops.map LOp.name).map AV.s++(s.funs.map LOp.name).map AV.s=(kZ s).map .s:=by simp [kZ]
       rw [hcell,← hnl] at ho
       rcases ho with ⟨rfl,hnil,_⟩ | ⟨i0,rfl,hg,_⟩
       · have hnil:kZ s=[]:=by simpa using hnil
         simp -implicitDefEqProofs (disch:=omega) only [go_sem,↓reduceIte,reduceAdd,reduceSub,reduceMul,reduceLeDiff,reduceLT,reduceEqDiff,reduceNeg,Nat.reduceBEq]
         (repeat' (first | refine gT ?_ ?_ | refine gF ?_ ?_ | refine gC ?_ ?_ | ((refine aY (aWk [] (by simp)) ?_ ?_; (focus (simp -implicitDefEqProofs (disch:=omega) only [zdA,go_sem,↓reduceIte,reduceAdd,reduceSub,reduceMul,reduceLeDiff,reduceLT,reduceEqDiff,reduceNeg,Nat.reduceBEq]; done))); simp -implicitDefEqProofs (disch:=omega) only [go_sem,↓reduceIte,reduceAdd,reduceSub,reduceMul,reduceLeDiff,reduceLT,reduceEqDiff,reduceNeg,Nat.reduceBEq]) | refine aK (by omega) ?_ | (intro hr; have hc:=hr; (try simp only [zdz] at hc); simp -implicitDefEqProofs (disch:=omega) only [hr,go_sem,↓reduceIte,reduceAdd,reduceSub,reduceMul,reduceLeDiff,reduceLT,reduceEqDiff,reduceNeg,Nat.reduceBEq]; (try clear hr))))
         all_goals refine aG ?_ (by rfl)
         all_goals first | (exfalso; omega) | (rw [hop,hnil]; rfl)
       · refine zh hg ?_
         (refine zx1 hg (aWk (kZ s)) ?_; repeat' first | exact trivial | refine zJ ?_ ?_ | refine zH fun hc=>?_)
         all_goals refine aG ?_ (by rfl)
         all_goals simp only [aAm] at hc
         all_goals rw [hop]
         all_goals first | rw [zt hc,Bool.true_and] | rw [zf hc,Bool.false_and]
end Go.Proofs.YtifefbhllfdmlaaGreatDoor
namespace Go.Proofs.YtifefbhllfdmlaaGreatDoor
open Go Go.Vo
open Nat (reduceAdd reduceSub reduceMul reduceLeDiff reduceLT reduceEqDiff)
open Int (reduceNeg)

def S8 (s:cI):Bool:=decide (s.sorts.length≤40) && decide (s.below.length≤200) && decide (s.ops.length+s.funs.length≤200) && xO s && wD s && aUq s && s.values.all (iN s) && decide s.values.Nodup
theorem exists_eq (s:cI) (x:Str):iN s x=existsA s x:=by
 have:=aAt x
 unfold iN existsA keysOf
 rw [cT]
 have h2:=cT.1 this
 simp only [eM] at h2
 simp [h2]
theorem V8 {t:Str}:mW t=tB t:=by
 unfold mW tB vN
 have hc:(fun c:UInt8=>mJ c.toNat)=fun c=>lN c.toNat:=by
   funext c
   simp only [mJ,lN,part,Bool.or_assoc]
 rw [hc]
 have hn:dP t=true→1≤t.length:=by
   intro h
   cases t with
   | nil=>revert h; decide
   | cons a l=>simp
 cases h:dP t
 · simp
 · have:=hn h
   simp [this]
   by_cases h2:t.length≤20 <;> simp [h2]
theorem aUh (p:Str × Str):pG p=okR p:=by
 unfold pG okR
 rw [V8]
 have h0:tB []=false:=by decide
 by_cases h2:p.2=[]
 · simp [h2]
 · by_cases h1:p.1=[]
   · simp [h2,h1,h0]
   · simp [h2,h1]
theorem bQu (s:cI) (o:LOp):aOx s o=opR s o:=by
 have hp:(fun p=>pG p)=okR:=by funext p; exact aUh p
 have hx:s.sorts.contains o.sort=s.sorts.contains o.sort:=rfl
 have he:o.args.all (existsA s)=o.args.all (iN s):=by congr 1; funext x; exact (exists_eq s x).symm
 unfold aOx opR opHead aDm qI tL aBv aMy aDk qE
 rw [show pG=okR from hp,he]
 rw [cT]
 by_cases hz:o.pieces=[]
 · simp only [hz,aDx,bG,fI,if_true,aC,decide_eq_true_eq,bH,cG]
   constructor
   · rintro h; simp_all; omega
   · rintro h; simp_all
 · have:o.pieces.isEmpty=false:=by simpa using hz
   have hl:0 < o.pieces.length:=List.length_pos_iff.2 hz
   simp only [hz,this,hl,if_false,aC,decide_eq_true_eq,bH,cG,aP,false_or,true_or,and_true]
   constructor
   · rintro h; simp_all
   · rintro h; simp_all
theorem bJu (s:cI) (o:LOp):N7 s o=aSo s o:=by
 have he:o.args.all (existsA s)=o.args.all (iN s):=by congr 1; funext x; exact (exists_eq s x).symm
 unfold N7 aSo aDm
 rw [he,exists_eq]
 rw [cT]
 simp only [aC,decide_eq_true_eq,cG]
 constructor
 · rintro h; simp_all
 · rintro h; simp_all
theorem aTh (s:cI):xO s=(s.sorts.all xX && decide (s.sorts.length≤40) && decide s.sorts.Nodup):=by
 unfold xO
 have:xW=xX:=by funext x; simp only [xX,xW,aAt]
 rw [this]
theorem aRk (s:cI) (b:Str × Str):(jH s b && oS s b)=qL s b:=by
 unfold jH oS qL Q7
 rw [exists_eq]
 by_cases h:s.sorts.contains b.2=true
 · have h2:existsA s b.2=true:=by
     rw [← exists_eq]; unfold iN; rw [h,dG]
   rw [h,h2,if_pos rfl]
   rw [cT]; simp only [aC,cG,decide_eq_true_eq,decide_eq_false_iff_not]; exact ⟨fun ⟨⟨⟨a,b⟩,c⟩,d⟩=>⟨⟨⟨b,a⟩,c⟩,d⟩,fun ⟨⟨⟨a,b⟩,c⟩,d⟩=>⟨⟨⟨b,a⟩,c⟩,d⟩⟩
 · have h:=dV.2 h
   rw [h]; simp
theorem bGt {α:Type} {p q:α→Bool} {l:List α}:(l.all p && l.all q)=l.all fun x=>p x && q x:=by
 induction l with
 | nil=>rfl
 | cons x l ih=>
   simp only [dH,← ih]
   cases p x <;> cases q x <;> cases l.all p <;> cases l.all q <;> rfl
theorem aXv (s:cI):wD s=(s.below.all (qL s) && decide s.below.Nodup && decide (s.below.length≤200)):=by
 have h:s.below.all (qL s)=(s.below.all (jH s) && s.below.all (oS s)):=by
   rw [bGt]; congr 1; funext b; exact (aRk s b).symm
 rw [h,wD]
 cases s.below.all (jH s) <;> cases s.below.all (oS s) <;> simp
theorem aSu (s:cI):S8 s=eN s:=by
 have h1:s.ops.all (aOx s)=s.ops.all (opR s):=by congr 1; funext x; exact bQu s x
 have h2:s.funs.all (N7 s)=s.funs.all (aSo s):=by congr 1; funext x; exact bJu s x
 have h3:s.values.all (existsA s)=s.values.all (iN s):=by congr 1; funext x; exact (exists_eq s x).symm
 have h4:(kZ s).length=s.ops.length+s.funs.length:=by simp [kZ]
 have h5:oM s=kZ s:=rfl
 unfold S8 eN mU nV pA
 rw [aTh,aXv,aUq,h1,h2,h3,h4,h5]
 rw [cT]
 simp only [aC]
 constructor
 · rintro ⟨⟨⟨⟨⟨⟨⟨a,b⟩,c⟩,⟨d,e⟩,f⟩,⟨g,h⟩,i⟩,⟨⟨j,k⟩,l⟩,m⟩,n⟩,o⟩
   exact ⟨⟨⟨⟨⟨⟨a,b⟩,c⟩,h⟩,o⟩,⟨f,d⟩,m⟩,⟨⟨g,n⟩,j⟩,k⟩
 · rintro ⟨⟨⟨⟨⟨⟨a,b⟩,c⟩,h⟩,o⟩,⟨f,d⟩,m⟩,⟨⟨g,n⟩,j⟩,k⟩
   exact ⟨⟨⟨⟨⟨⟨⟨a,b⟩,c⟩,⟨d,a⟩,f⟩,⟨g,h⟩,b⟩,⟨⟨j,k⟩,c⟩,m⟩,n⟩,o⟩
theorem bYb {n:Nat}:(40 < (n:Int))↔¬ n≤40:=by omega
theorem bRm {n:Nat}:(200 < (n:Int))↔¬ n≤200:=by omega
theorem bJs {n m:Nat}:(200 < (n:Int)+m)↔¬ n+m≤200:=by omega
theorem bTe (s:cI) (hm:Small s) (hs:OkS s): CT 52 [.agg (bB s)] (.b (eN s)):=by
 refine aE mixed Tryz.func52 g0 ?_
 · skip
   have h1:=hm.sorts
   have h2:=hm.below
   have h3:=hm.ops
   have h4:=hm.funs
   have h5:=hm.values
   rw [← aSu]
   (refine zs3 (bSx s hs) (bSw s hs h2) (bSv s hs) ?_; repeat' first | exact trivial | refine zJ ?_ ?_ | refine zH fun hc=>?_)
   all_goals try simp only [bYb,bRm,bJs,H8] at *
   all_goals first | (refine aG ?_ (by rfl); simp only [S8, *,decide_true,decide_false,Bool.and_false,Bool.false_and,Bool.and_true,Bool.true_and,Bool.not_true,Bool.not_false]; done) | skip
   refine bQ (fun (k:Nat)=>[.k,.k,.j,.k,.j,.k,.k,.k,.k,.k,.k,.k,.k,.k,.k,.k,.k,.k,.k,.k,.k,.k,.k,.k,.k,.k,.k,.k,.k,.k,.k,.k,.k,.k,.k,.k,.k,.k,.k,.k,.k,.k,.k,.v (.i .i64 k),.j,.j,.j,.j,.j,.j,.j,.j,.k,.k,.k]) (fun k=>[.box false [.sl (s.sorts.map .s) s.sorts.length,.sl (s.below.flatMap aQ) s.below.length,.sl (s.ops.flatMap aI) s.ops.length,.sl (s.funs.flatMap aI) s.funs.length,.sl (s.values.map .s) s.values.length]]) (fun k=>k≤s.values.length∧∀ j,j < k→iN s (s.values.getD j [])=true) (fun k=>s.values.length - k) (0) ⟨aF _,fun j h=>by omega⟩ rfl (by simp [fD]) ?_
   rintro k j ⟨hk,ha⟩
   refine zg ?_
   (refine zs2 (aWl s (s.values.getD k [])) (aWk s.values) ?_; repeat' first | exact trivial | refine zJ ?_ ?_ | refine zH fun hc=>?_)
   · refine aG ?_ (by rfl)
     have hno:s.values.all (iN s)=false:=fM (d:=[]) (j:=k) (by omega) hc
     rw [S8,hno]; simp
   · exact ⟨k+1,⟨by omega,bK ha hc⟩,by omega,by simp⟩
   · refine aG ?_ (by rfl)
     have hall:s.values.all (iN s)=true:=kK (d:=[]) (fun j hj=>ha j (by omega))
     simp only [S8, *,decide_true,decide_false,Bool.and_false,Bool.false_and,Bool.and_true,Bool.true_and,Bool.not_true,Bool.not_false]
end Go.Proofs.YtifefbhllfdmlaaGreatDoor
namespace Go.Proofs.YtifefbhllfdmlaaGreatDoor
open Go Go.Vo
open Nat (reduceAdd reduceSub reduceMul reduceLeDiff reduceLT reduceEqDiff)
open Int (reduceNeg)

theorem aPv {s:cI} (h:few s=true):Small s:=by
 simp only [few,aC,decide_eq_true_eq] at h
 exact ⟨by omega,by omega,by omega,by omega,by omega⟩
end Go.Proofs.YtifefbhllfdmlaaGreatDoor
namespace Go.Proofs.YtifefbhllfdmlaaGreatDoor
open Go Go.Vo
open Nat (reduceAdd reduceSub reduceMul reduceLeDiff reduceLT reduceEqDiff)
open Int (reduceNeg)

def qZ (s:cI) (x y:Str):Bool:=decide (y=oW) || (climb s.below x).contains y
theorem yQ {s:cI} {x y:Str} (h:existsA s x=true):qZ s x y=jE s x y:=by simp only [qZ,jE,Q7,h,if_true]
theorem aWi (s:cI) (x y:Str) (hm:Small s): CT 216 [.agg (bB s),.s x,.s y] (.b (qZ s x y)):=by
 refine aE mixed Tryz.func216 g0 ?_
 · skip
   have hl:=vZ s.below x
   have h2:=hm.below
   (refine zs2 (bAv s x) (yK (climb s.below x) y) ?_; repeat' first | exact trivial | refine zJ ?_ ?_ | refine zH fun hc=>?_)
   all_goals (refine aG ?_ (by rfl))
   all_goals simp_all [qZ,oW]
theorem bSs (s:cI) (x y:Str) (hm:Small s): CT 229 [.agg (bB s),.s x,.s y] (.b (qZ s x y || qZ s y x)):=by
 refine aE mixed Tryz.func229 g0 ?_
 · skip
   (refine zs2 (aWi s x y hm) (aWi s y x hm) ?_; repeat' first | exact trivial | refine zJ ?_ ?_ | refine zH fun hc=>?_)
   all_goals (refine aG ?_ (by rfl))
   all_goals simp_all
end Go.Proofs.YtifefbhllfdmlaaGreatDoor
namespace Go.Proofs.YtifefbhllfdmlaaGreatDoor
open Go Go.Vo
open Nat (reduceAdd reduceSub reduceMul reduceLeDiff reduceLT reduceEqDiff)
open Int (reduceNeg)

theorem bFa {α:Type} {l:List α} {p:α→Bool} {k:Nat} {d:α} (hk:k < l.length) (h:p (l.getD k d)=true) (hb:∀ j,j < k→(!p (l.getD j d))=true):l.find? p=some (l.getD k d):=by
 rw [List.find?_eq_some_iff_getElem]
 refine ⟨h,k,hk,by simp [List.getD,hk],fun j hj=>?_⟩
 have:=hb j hj
 simpa [List.getD,show j < l.length by omega] using this
theorem bEz {α:Type} {l:List α} {p:α→Bool} {d:α} (hb:∀ j,j < l.length→(!p (l.getD j d))=true):l.find? p=none:=by
 rw [List.find?_eq_none]
 intro x hx
 obtain ⟨j,hj,rfl⟩:=bV.1 hx
 have:=hb j hj
 simpa [List.getD,hj] using this
theorem Z2 {h:List AObj} {b:Bool}:Fin h (.tup [.agg [.s [],.e0,.s [],.e0,.i .i64 0,.i .i64 0,.e0],.b b]) (.tup [elO default,.b b]):=
 .inr ⟨⟨⟨rfl,rfl,rfl,rfl,rfl,rfl,rfl,trivial⟩,rfl,trivial⟩,by simp [elO,aI,bY,finIdsL,avs,avb,avi],by simp [elO,aI,bY,finIdsL,avs,avb,avi]⟩
def gR (r:Option LOp):AV:=match r with
 | some o=>.tup [elO o,.b true]
 | none=>.tup [elO default,.b false]
theorem aGt (l:List LOp) (x:Str) (hl:l.length≤140737488355328): CT 191 [avo l,.s x] (gR (l.find? fun o=>decide (o.name=x))):=by
 refine cQ mixed Tryz.func191 g0 ?_
 · simp -implicitDefEqProofs (disch:=omega) only [Tryz.f191,go_sem,List.replicate,simprocAttr,avo]
   refine fJ (fun (k:Nat)=>[.k,.k,.k,.k,.k,.j,.k,.j,.k,.k,.v (.i .i64 k),.j,.j,.j,.j,.j,.j,.j,.j,.j,.k]) (fun k=>[.box false [.s [],.e0,.s [],.e0,.i .i64 0,.i .i64 0,.e0]]) (fun k=>k≤l.length∧∀ j,j < k→(!decide ((l.getD j default).name=x))=true) (fun k=>l.length - k) (0) _ ⟨aF _,fun j h=>by omega⟩ rfl (by simp [fD]) ?_
   rintro k g j ⟨hk,ha⟩
   refine zg ?_
   (refine zs0 ?_; repeat' first | exact trivial | refine zJ ?_ ?_ | refine zH fun hc=>?_)
   · have e:(l.find? fun o=>decide (o.name=x))=some (l.getD k default):=bFa (by omega) (zt hc) ha
     rw [e]
     exact aG rfl (by simp only [gR,elO,pers,persL,V9,aI,avs,avb,avi,iA,iT,gV,dY])
   · exact ⟨k+1,_,⟨by omega,bK ha (by rw [zf hc]; rfl)⟩,by omega,rfl,by simp⟩
   · have e:(l.find? fun o=>decide (o.name=x))=none:=bEz (d:=default) (fun j hj=>ha j (by omega))
     rw [e]
     exact Z2
end Go.Proofs.YtifefbhllfdmlaaGreatDoor

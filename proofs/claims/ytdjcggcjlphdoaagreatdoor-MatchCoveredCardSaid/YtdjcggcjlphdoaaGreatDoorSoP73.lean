/-
  Contracts of the library (sorting, fields, a byte in a string) at this program: laid by the kit's tool; no condition.
-/
import Derived.Shelf.Small.Strs
import Derived.Shelf.Strconv.Itoa3
import Derived.Shelf.Strings.Fields
import Derived.Test.YtdjcggcjlphdoaaGreatDoorProg
import Derived.Test.YtdjcggcjlphdoaaGreatDoorSoP72
import Derived.Sort.Walk0
set_option linter.unusedVariables false
set_option maxRecDepth 100000
set_option linter.unusedSimpArgs false
set_option maxHeartbeats 4000000
namespace Go.Proofs
open Go.Shelf
def Tryz.lays137_ren:Go.Shelf.Ren:=⟨fun|137=>255|217=>271|266=>280|n=>n,fun|9=>9|5=>5|3=>3|n=>n,fun|n=>n⟩
theorem Tryz.lays137:Go.Proofs.Lays.n137 Tryz.prog Tryz.lays137_ren:={
 mixed:=by kernel_rfl
 f137:=Tryz.func255.trans (congrArg some (by kernel_rfl))
 f217:=Tryz.func271.trans (congrArg some (by kernel_rfl))
 f266:=Tryz.func280.trans (congrArg some (by kernel_rfl))
 t3:=Tryz.underlying3
 a3:=Tryz.isAgg3
 z3:=Tryz.sizeOf3
 v3:=Tryz.zeroValue3
 t5:=Tryz.underlying5
 a5:=Tryz.isAgg5
 z5:=Tryz.sizeOf5
 v5:=Tryz.zeroValue5
 t9:=Tryz.underlying9
 a9:=Tryz.isAgg9
 z9:=Tryz.sizeOf9
 v9:=Tryz.zeroValue9}
open Go.RowKit in
theorem Tryz.strings_IndexByte(s:ByteArray)(c:Int)(w:World) :
 Calls Tryz.prog 255 #[.string s,.int .u8 c] w fun e w'=>e=.returned (.int .i64 (Lib.indexByte s.data.toList c.toNat.toUInt8))∧w'=w:=Any.strings_IndexByte Tryz.lays137 s c w
def Tryz.laysM171_ren:Go.Shelf.Ren:=⟨fun|171=>139|243=>208|246=>251|283=>266|284=>267|285=>268|286=>269|129=>274|317=>273|318=>275|319=>276|320=>277|337=>282|338=>283|n=>n,fun|3=>3|9=>9|2=>2|4=>4|171=>257|0=>0|53=>258|37=>261|5=>5|173=>262|212=>272|51=>267|20=>20|213=>273|46=>237|232=>289|233=>290|n=>n,fun|17=>2|18=>4|19=>5|n=>n⟩
theorem Tryz.laysM171:Go.Proofs.LaysM.n171 Tryz.prog Tryz.laysM171_ren:={
 mixed:=by kernel_rfl
 f129:=Tryz.func274.trans (congrArg some (by kernel_rfl))
 f171:=Tryz.func139.trans (congrArg some (by kernel_rfl))
 f243:=Tryz.func208.trans (congrArg some (by kernel_rfl))
 f246:=Tryz.func251.trans (congrArg some (by kernel_rfl))
 f283:=Tryz.func266.trans (congrArg some (by kernel_rfl))
 f284:=Tryz.func267.trans (congrArg some (by kernel_rfl))
 f285:=Tryz.func268.trans (congrArg some (by kernel_rfl))
 f286:=Tryz.func269.trans (congrArg some (by kernel_rfl))
 f317:=Tryz.func273.trans (congrArg some (by kernel_rfl))
 f318:=Tryz.func275.trans (congrArg some (by kernel_rfl))
 f319:=Tryz.func276.trans (congrArg some (by kernel_rfl))
 f320:=Tryz.func277.trans (congrArg some (by kernel_rfl))
 f337:=Tryz.func282.trans (congrArg some (by kernel_rfl))
 f338:=Tryz.func283.trans (congrArg some (by kernel_rfl))
 t0:=Tryz.underlying0
 a0:=Tryz.isAgg0
 z0:=Tryz.sizeOf0
 v0:=Tryz.zeroValue0
 t2:=Tryz.underlying2
 a2:=Tryz.isAgg2
 z2:=Tryz.sizeOf2
 v2:=Tryz.zeroValue2
 t3:=Tryz.underlying3
 a3:=Tryz.isAgg3
 z3:=Tryz.sizeOf3
 v3:=Tryz.zeroValue3
 t4:=Tryz.underlying4
 a4:=Tryz.isAgg4
 z4:=Tryz.sizeOf4
 v4:=Tryz.zeroValue4
 t5:=Tryz.underlying5
 a5:=Tryz.isAgg5
 z5:=Tryz.sizeOf5
 v5:=Tryz.zeroValue5
 t9:=Tryz.underlying9
 a9:=Tryz.isAgg9
 z9:=Tryz.sizeOf9
 v9:=Tryz.zeroValue9
 t20:=Tryz.underlying20
 a20:=Tryz.isAgg20
 z20:=Tryz.sizeOf20
 v20:=Tryz.zeroValue20
 t37:=Tryz.underlying261
 a37:=Tryz.isAgg261
 z37:=Tryz.sizeOf261
 v37:=Tryz.zeroValue261
 t46:=Tryz.underlying237
 a46:=Tryz.isAgg237
 z46:=Tryz.sizeOf237
 v46:=Tryz.zeroValue237
 t51:=Tryz.underlying267
 a51:=Tryz.isAgg267
 z51:=Tryz.sizeOf267
 v51:=Tryz.zeroValue267
 t53:=Tryz.underlying258
 a53:=Tryz.isAgg258
 z53:=Tryz.sizeOf258
 v53:=Tryz.zeroValue258
 t171:=Tryz.underlying257
 a171:=Tryz.isAgg257
 z171:=Tryz.sizeOf257
 v171:=Tryz.zeroValue257
 t173:=Tryz.underlying262
 a173:=Tryz.isAgg262
 z173:=Tryz.sizeOf262
 v173:=Tryz.zeroValue262
 t212:=Tryz.underlying272
 a212:=Tryz.isAgg272
 z212:=Tryz.sizeOf272
 v212:=Tryz.zeroValue272
 t213:=Tryz.underlying273
 a213:=Tryz.isAgg273
 z213:=Tryz.sizeOf273
 t232:=Tryz.underlying289
 a232:=Tryz.isAgg289
 z232:=Tryz.sizeOf289
 v232:=Tryz.zeroValue289
 t233:=Tryz.underlying290
 a233:=Tryz.isAgg290
 z233:=Tryz.sizeOf290
 v233:=Tryz.zeroValue290
 g17:=by kernel_rfl
 g18:=by kernel_rfl
 g19:=by kernel_rfl
 i0:=by kernel_rfl
 i2:=by kernel_rfl
 i3:=by kernel_rfl
 i4:=by kernel_rfl
 i5:=by kernel_rfl
 i9:=by kernel_rfl
 i20:=by kernel_rfl
 i37:=by kernel_rfl
 i46:=by kernel_rfl
 i51:=by kernel_rfl
 i53:=by kernel_rfl
 i171:=by kernel_rfl
 i173:=by kernel_rfl
 i212:=by kernel_rfl
 i232:=by kernel_rfl
 i233:=by kernel_rfl
 m17:=by kernel_rfl
 m18:=by kernel_rfl
 m19:=by kernel_rfl}
open Go.RowKit Go.Sort Go.Lib in
theorem Tryz.strconv_Itoa(n:Int)(h0 : -9223372036854775808≤n)(h1:n≤9223372036854775807)(w:World)(htab:Lib.TabIs Tryz.prog w "internal/strconv.uint64pow10" .u64 Lib.pow10Tab) :
 Calls Tryz.prog 139 #[.int .i64 n] w fun e w'=>e=.returned (.string ⟨(Lib.itoa n).toArray⟩)∧∃k os,w'=grow (w.drewN k) os:=Any.strconv_Itoa Tryz.laysM171 n h0 h1 w htab
def Tryz.lays157_ren:Go.Shelf.Ren:=⟨fun|157=>213|229=>252|199=>253|261=>270|311=>278|312=>279|n=>n,fun|9=>9|31=>22|3=>3|5=>5|4=>4|119=>240|0=>0|40=>242|152=>264|21=>21|154=>266|51=>267|141=>269|196=>278|193=>275|198=>281|49=>279|194=>276|201=>284|226=>287|46=>237|227=>288|n=>n,fun|0=>0|6=>1|n=>n⟩
theorem Tryz.lays157:Go.Proofs.Lays.n157 Tryz.prog Tryz.lays157_ren:={
 mixed:=by kernel_rfl
 f157:=Tryz.func213.trans (congrArg some (by kernel_rfl))
 f199:=Tryz.func253.trans (congrArg some (by kernel_rfl))
 f229:=Tryz.func252.trans (congrArg some (by kernel_rfl))
 f261:=Tryz.func270.trans (congrArg some (by kernel_rfl))
 f311:=Tryz.func278.trans (congrArg some (by kernel_rfl))
 f312:=Tryz.func279.trans (congrArg some (by kernel_rfl))
 t0:=Tryz.underlying0
 a0:=Tryz.isAgg0
 z0:=Tryz.sizeOf0
 v0:=Tryz.zeroValue0
 t3:=Tryz.underlying3
 a3:=Tryz.isAgg3
 z3:=Tryz.sizeOf3
 v3:=Tryz.zeroValue3
 t4:=Tryz.underlying4
 a4:=Tryz.isAgg4
 z4:=Tryz.sizeOf4
 v4:=Tryz.zeroValue4
 t5:=Tryz.underlying5
 a5:=Tryz.isAgg5
 z5:=Tryz.sizeOf5
 v5:=Tryz.zeroValue5
 t9:=Tryz.underlying9
 a9:=Tryz.isAgg9
 z9:=Tryz.sizeOf9
 v9:=Tryz.zeroValue9
 t21:=Tryz.underlying21
 a21:=Tryz.isAgg21
 z21:=Tryz.sizeOf21
 v21:=Tryz.zeroValue21
 t31:=Tryz.underlying22
 a31:=Tryz.isAgg22
 z31:=Tryz.sizeOf22
 v31:=Tryz.zeroValue22
 t40:=Tryz.underlying242
 a40:=Tryz.isAgg242
 z40:=Tryz.sizeOf242
 v40:=Tryz.zeroValue242
 t46:=Tryz.underlying237
 a46:=Tryz.isAgg237
 z46:=Tryz.sizeOf237
 v46:=Tryz.zeroValue237
 t49:=Tryz.underlying279
 a49:=Tryz.isAgg279
 z49:=Tryz.sizeOf279
 v49:=Tryz.zeroValue279
 t51:=Tryz.underlying267
 a51:=Tryz.isAgg267
 z51:=Tryz.sizeOf267
 v51:=Tryz.zeroValue267
 t119:=Tryz.underlying240
 a119:=Tryz.isAgg240
 z119:=Tryz.sizeOf240
 t141:=Tryz.underlying269
 a141:=Tryz.isAgg269
 z141:=Tryz.sizeOf269
 v141:=Tryz.zeroValue269
 t152:=Tryz.underlying264
 a152:=Tryz.isAgg264
 z152:=Tryz.sizeOf264
 v152:=Tryz.zeroValue264
 t154:=Tryz.underlying266
 a154:=Tryz.isAgg266
 z154:=Tryz.sizeOf266
 v154:=Tryz.zeroValue266
 t193:=Tryz.underlying275
 a193:=Tryz.isAgg275
 z193:=Tryz.sizeOf275
 v193:=Tryz.zeroValue275
 t194:=Tryz.underlying276
 a194:=Tryz.isAgg276
 z194:=Tryz.sizeOf276
 v194:=Tryz.zeroValue276
 t196:=Tryz.underlying278
 a196:=Tryz.isAgg278
 z196:=Tryz.sizeOf278
 v196:=Tryz.zeroValue278
 t198:=Tryz.underlying281
 a198:=Tryz.isAgg281
 z198:=Tryz.sizeOf281
 v198:=Tryz.zeroValue281
 t201:=Tryz.underlying284
 a201:=Tryz.isAgg284
 z201:=Tryz.sizeOf284
 v201:=Tryz.zeroValue284
 t226:=Tryz.underlying287
 a226:=Tryz.isAgg287
 z226:=Tryz.sizeOf287
 v226:=Tryz.zeroValue287
 t227:=Tryz.underlying288
 a227:=Tryz.isAgg288
 z227:=Tryz.sizeOf288
 v227:=Tryz.zeroValue288
 g0:=by kernel_rfl
 g6:=by kernel_rfl}
end Go.Proofs
namespace Go.Proofs.YtdjcggcjlphdoaaGreatDoor
open Go Go.Vo
open Nat (reduceAdd reduceSub reduceMul reduceLeDiff reduceLT reduceEqDiff)
open Int (reduceNeg)
theorem bTw(l:List LOp)(hl:l.length≤1172812402961): CT 87 [avo l] (.own 1 ((l.map LOp.name).map .s) l.length):=by
 refine cI dE Tryz.func87 g0 ?_
 ·skip;refine dV (fun(s:Nat×AV×List AObj)=>(.k::.k::.k::.v (s.2.1)::.k::.j::.k::.k::.v (.i .i64 (s.1:Nat))::(rp 9 .j [.k]))) (fun s=>s.2.2) (fun s=>s.1≤l.length∧jU 1 0 s.2.2 s.2.1 (((l.take s.1).map LOp.name).map .s) s.1) (fun s=>l.length-s.1) ((0,.e0,[])) ⟨bX _,jN⟩ rfl (by simp[iS]) ?_;rintro⟨k,out,g⟩ j ⟨hk,ho⟩;dsimp only at hk ho;refine zg ?_;(refine zs0 ?_;repeat' first|exact trivial|refine zJ ?_ ?_|refine zH fun hc=>?_)
  ·refine fN (pre:=[]) (news:=[.s (l.getD k default).name]) (m:=1) ho rfl rfl bXh zo9 sz9 by9 rfl (by decide) (by simp -implicitDefEqProofs (disch:=omega) only[go_sem,simprocAttr]) (by simp -implicitDefEqProofs (disch:=omega) only[go_sem,simprocAttr]) ⟨by omega,by omega⟩ ?_;intro out' g' ho' _;refine zg ?_;refine⟨(k+1,out',g'),⟨by omega,?_⟩,by simp;omega,rfl,by simp⟩;rw[fI (d:=default) (by omega),cL,cL];exact ho'
  ·have h1:k=l.length:=by omega
   subst h1;exact aAb (pre:=[]) (by simpa using ho) lU
end Go.Proofs.YtdjcggcjlphdoaaGreatDoor
namespace Go.Proofs.YtdjcggcjlphdoaaGreatDoor
open Go Go.Vo
open Nat (reduceAdd reduceSub reduceMul reduceLeDiff reduceLT reduceEqDiff)
open Int (reduceNeg)
def nC(x:Str)(L:List Str)(b:Str×Str):List Str:=if b.1=x∧L.contains b.2=false then L++[b.2]else L
def jQ(l:List (Str×Str))(x:Str)(L:List Str):List Str:=l.foldl (nC x) L
def climbG(l:List (Str×Str)):Nat→Nat→List Str→List Str
 |0,_,L=>L
 |f+1,i,L=>if i<L.length then climbG l f (i+1) (jQ l (L.getD i []) L)else L
def climb(l:List (Str×Str))(a:Str):List Str:=climbG l (l.length+1) 0 [a]
theorem nB(x:Str)(L:List Str)(b:Str×Str):(nC x L b=L)∨(b.1=x∧L.contains b.2=false∧nC x L b=L++[b.2]):=by
 unfold nC;split
 ·rename_i h;exact .inr ⟨h.1,h.2,rfl⟩
 ·exact .inl rfl
structure Climbs(l:List (Str×Str))(a:Str)(L:List Str):Prop where
 nd:L.Nodup
 sub:∀x∈L,x=a∨∃b∈l,b.2=x
 me:a∈L
theorem Climbs.step{l:List (Str×Str)}{a x:Str}{L:List Str}{b:Str×Str}(h:Climbs l a L)(hb:b∈l):Climbs l a (nC x L b):=by
 rcases nB x L b with e|⟨_,h2,e⟩
 ·rw[e];exact h
 ·rw[e];refine⟨?_,?_,by simp[h.me]⟩
  ·rw[kE];refine⟨h.nd,by simp,?_⟩;intro y hy z hz hyz;simp only[aP]at hz;have:b.2∉L:=by simpa using h2
   exact this (hz▸hyz▸hy)
  ·intro y hy;rcases cQ.1 hy with hy|hy
   ·exact h.sub y hy
   ·simp only[aP]at hy;exact .inr ⟨b,hb,hy.symm⟩
theorem xG{α:Type}[DecidableEq α]:∀{L M:List α},L.Nodup→(∀x∈L,x∈M)→L.length≤M.length
 | [],M,_,_=>bX _
 |x :: L,M,hn,hs=>by
  rw[jJ]at hn;have hx:=hs x (by simp);have:=xG (L:=L) (M:=M.erase x) hn.2 (fun y hy=>by
   have hne:y≠x:=fun e=>hn.1 (e▸hy);exact(List.mem_erase_of_ne hne).2 (hs y (by simp[hy])))
  rw[List.length_erase_of_mem hx]at this;have hpos:0<M.length:=aFs hx;simp only[bF];omega
theorem Climbs.len{l:List (Str×Str)}{a:Str}{L:List Str}(h:Climbs l a L):L.length≤l.length+1:=by
 have:=xG (M:=a::l.map (·.2)) h.nd (fun x hx=>by
  rcases h.sub x hx with h1|⟨b,h1,h2⟩
  ·simp[h1]
  ·simp only[dA,dX];exact .inr ⟨b,h1,h2⟩)
 simpa using this
theorem wT{x:Str}{L:List Str}{b:Str×Str}{i:Nat}(hi:i<L.length):(nC x L b).getD i []=L.getD i []∧i<(nC x L b).length:=by
 rcases nB x L b with e|⟨_,_,e⟩
 ·rw[e];exact⟨rfl,hi⟩
 ·rw[e];simp[List.getD,aN hi];omega
theorem aIi{l:List (Str×Str)}{i:Nat}{L:List Str}(h:L.length≤i):∀f,climbG l f i L=L
 |0=>rfl
 |f+1=>by simp only[climbG];rw[if_neg (by omega)]
theorem sK{l:List (Str×Str)}{x:Str}{L:List Str}{k:Nat}(h:k<l.length):jQ (l.take (k+1)) x L=nC x (jQ (l.take k) x L) (l.getD k ([],[])):=by
 rw[fI (d:=([],[])) h];simp[jQ,List.foldl_append]
structure P1(l:List (Str×Str))(a:Str)(i:Nat)(L:List Str):Prop where
 le:i≤L.length
 c:Climbs l a L
 eq:climbG l (l.length+1-i) i L=climb l a
theorem P1.start(l:List (Str×Str))(a:Str):P1 l a 0 [a]:=⟨by simp,⟨by simp,by simp,by simp⟩,rfl⟩
theorem P1.next{l:List (Str×Str)}{a:Str}{i:Nat}{L:List Str}(h:P1 l a i L)(hi:i<L.length)(hc:Climbs l a (jQ l (L.getD i []) L))(hl:i<(jQ l (L.getD i []) L).length):P1 l a (i+1) (jQ l (L.getD i []) L):=by
 refine⟨hl,hc,?_⟩;have:=h.c.len;have e:l.length+1-i=(l.length+1-(i+1))+1:=by omega
 rw[← h.eq,e,climbG,if_pos hi]
theorem bVk(s:dK)(a:Str)(hb:s.below.length≤1000000): CT 95 [.agg (dW s),.s a] (.own 1 ((climb s.below a).map .s) (climb s.below a).length):=by
 refine cI dE Tryz.func95 g0 ?_
 ·skip;refine dV (fun(t:Nat×List Str×AV×List AObj)=>(rp 5 .k (.v (t.2.2.1)::.v (.i .i64 (t.1:Nat))::.k::.j::.k::.k::(rp 33 .j [.k])))) (fun t=>.box false (sgC s)::t.2.2.2) (fun t=>P1 s.below a t.1 t.2.1∧jU 1 1 t.2.2.2 t.2.2.1 (t.2.1.map .s) t.2.1.length) (fun t=>s.below.length+1-t.1) ((0,[a],.hs 1 0 1 false,[.arr false 1 [.s a]])) ⟨P1.start _ _,.inr ⟨0,rfl,rfl,rfl⟩⟩ rfl (by simp[iS]) ?_;rintro⟨i,L,out,g⟩ j ⟨hI,ho⟩;dsimp only at hI ho;have hlen:=hI.c.len;have hle:=hI.le;rcases ho with⟨_,hnil,_⟩|⟨i0,rfl,hg,_⟩
  ·exfalso;have h1:L=[]:=by simpa using hnil
   have:=hI.c.me;simp[h1]at this
  refine zh hg ?_;(refine zx0 hg ?_;repeat' first|exact trivial|refine zJ ?_ ?_|refine zH fun hc=>?_)
  ·have hcl:i<L.length:=by simpa using hc
   refine dV (fun(t:Nat×List Str×AV×List AObj)=>(rp 5 .k (.v (t.2.2.1)::.k::.k::.j::(rp 11 .k (.v (.i .i64 (t.1:Nat))::(rp 23 .j [.k])))))) (fun t=>.box false (sgC s)::t.2.2.2) (fun t=>t.1≤s.below.length∧t.2.1=jQ (s.below.take t.1) (L.getD i []) L∧Climbs s.below a t.2.1∧(t.2.1.getD i []=L.getD i []∧i<t.2.1.length)∧jU 1 1 t.2.2.2 t.2.2.1 (t.2.1.map .s) t.2.1.length) (fun t=>s.below.length-t.1) ((0,L,.hs (i0+1) 0 L.length false,g)) ⟨bX _,rfl,hI.c,⟨rfl,hcl⟩,.inr ⟨i0,rfl,hg,by simp⟩⟩ rfl (by simp[iS]) ?_;rintro⟨k,M,out,g⟩ j ⟨hk,hM,hc2,⟨hget,hlt⟩,ho⟩;dsimp only at hk hM hc2 hget hlt ho;have hlenM:=hc2.len;have ho1:=ho;rcases ho with⟨_,hnil,_⟩|⟨i1,rfl,hg1,_⟩
   ·exfalso;have h1:M=[]:=by simpa using hnil
    simp[h1]at hlt
   have hi1:=bW hg1;have hg2:∀m,(g++m)[i1]? = some (.arr false 1 (M.map .s)):=fun m=>by rw[aN hi1];exact hg1
   refine zh hg2 ?_;(refine zx1 hg2 (Q3 M (s.below.getD k ([],[])).2) ?_;repeat' first|exact trivial|refine zJ ?_ ?_|refine zH fun hc=>?_)
   ·have e:nC (L.getD i []) M (s.below.getD k ([],[]))=M++[(s.below.getD k ([],[])).2]:=if_pos ⟨by rw[← hget];assumption,hc⟩;have hp:=wT (x:=L.getD i []) (b:=s.below.getD k ([],[])) hlt;have hst:=hc2.step (x:=L.getD i []) (cS (d:=([],[])) (show k<s.below.length by omega));rw[e]at hp hst;refine⟨(k+1,M++[(s.below.getD k ([],[])).2],.hs (g.length+2+1) 0 (M.length+1) false,_),⟨by omega,?_,hst,⟨hp.1.trans hget,hp.2⟩,.inr ⟨g.length+2,by simp,?_,by simp⟩⟩,by simp;omega,rfl,by simp⟩
    ·rw[sK (by omega),← hM,e]
    ·simp
   ·have e:nC (L.getD i []) M (s.below.getD k ([],[]))=M:=if_neg (by rw[hc];simp);refine⟨(k+1,M,_,_),⟨by omega,?_,hc2,⟨hget,hlt⟩,ho1.more _⟩,by simp;omega,rfl,by simp⟩;rw[sK (by omega),← hM,e]
   ·have e:nC (L.getD i []) M (s.below.getD k ([],[]))=M:=if_neg (by rw[hget]at hc;exact fun h=>hc h.1);refine⟨(k+1,M,_,_),⟨by omega,?_,hc2,⟨hget,hlt⟩,ho1.more _⟩,by simp;omega,rfl,by simp⟩;rw[sK (by omega),← hM,e]
   ·have h1:s.below.take k=s.below:=bB (by omega);rw[h1]at hM;subst hM;exact⟨(i+1,_,_,_),⟨hI.next hcl hc2 hlt,ho1⟩,by simp;omega,rfl,by simp⟩
  ·have hd:=hI.eq;rw[aIi (by omega)]at hd;subst hd;exact aAb (pre:=[_]) (.inr ⟨i0,rfl,hg,by simp⟩) lU
end Go.Proofs.YtdjcggcjlphdoaaGreatDoor
namespace Go.Proofs.YtdjcggcjlphdoaaGreatDoor
open Go Go.Vo
open Nat (reduceAdd reduceSub reduceMul reduceLeDiff reduceLT reduceEqDiff)
open Int (reduceNeg)
theorem bRt:(22:Nat)≠3:=by decide
theorem cAy{h:List AObj}:iK Tryz.prog h .cap #[22] [.e0]=some (.i .i64 0,h):=bIa cEd
theorem bWh{dr:Option DR}{d:Option Nat}{os:List fZ}{K:List AV→List AObj→Prop}{env:List AV}{h:List AObj}{s x:Operand}:fB Tryz.prog G0 dr (.call ⟨.builtin .append,#[s,x],#[22,3]⟩) d os K env h=aJd Tryz.prog G0 dr (Tryz.prog.underlying 3) (rS Tryz.prog h 22 (aev G0 env s) (aev G0 env x)) d os K env:=I8 bRt
theorem cAx:((0:Nat):Int)=0:=rfl
theorem aJu{a:AV}:∀{n:Nat},(List.replicate n [a]).flatten=List.replicate n a
 |0=>rfl
 |n+1=>by rw[fT,aJ,aJu];rfl
attribute [go_sem] cAy cAx Int.sub_zero aJu List.length_replicate false_and bX
attribute [go_sem ↓] bWh
theorem bVa(n:Nat)(hn:n≤1000000): CT 159 [.e0,.i .i64 n] (.own 1 [] 0):=by
 refine cI dE Tryz.func159 g0 ?_
 ·skip;(refine zs0 ?_;repeat' first|exact trivial|refine zJ ?_ ?_|refine zH fun hc=>?_)
  ·exfalso;omega
  ·rw[if_pos (by omega),if_neg (by omega)];refine zg ?_;exact .inr ⟨⟨rfl,rfl,_,rfl,by simp,by simp,rfl⟩,by simp[dN],by simp[dN,kC]⟩
  ·exact .inr ⟨⟨rfl,rfl⟩,by simp[dN],by simp[dN]⟩
theorem aHk{l:List (List Str)}{k:Nat}(h:k<l.length):(l.map avs)[k]? = some (avs (l.getD k [])):=by simp[h]
attribute [go_sem] aHk
def aBo(l:List (List Str)):Nat:=l.flatten.length
@[simp] theorem bWz:aBo []=0:=rfl
theorem H0{l:List (List Str)}{k:Nat}(h:k<l.length):aBo (l.take (k+1))=aBo (l.take k)+(l.getD k []).length:=by
 rw[fI (d:=[]) h];simp[aBo]
theorem aQt{l:List (List Str)}{k:Nat}:aBo (l.take k)≤aBo l:=by
 have h:(l.take k++l.drop k).flatten.length=l.flatten.length:=by rw[dU]
 unfold aBo;rw[zW,List.length_append]at h;omega
theorem aQu{l:List (List Str)}{k:Nat}(h:k<l.length):aBo (l.take k)+(l.getD k []).length≤aBo l:=by
 rw[← H0 h];exact aQt
theorem bVl(l:List (List Str))(hl:l.length≤1000)(hs:aBo l≤1000000): CT 94 [.sl (l.map avs) l.length] (.own 1 (l.flatten.map .s) l.flatten.length):=by
 refine cI dE Tryz.func94 g0 ?_
 ·skip;refine dV (fun(k:Nat)=>(.k::.k::.k::.v (.i .i64 (aBo (l.take k):Nat))::.k::.j::(rp 5 .k (.v (.i .i64 k)::(rp 11 .j (rp 13 .k [])))))) (fun k=>[]) (fun k=>k≤l.length) (fun k=>l.length-k) (0) (bX _) rfl (by simp[iS]) ?_;rintro k j hk;have hat:k<l.length→aBo (l.take k)+(l.getD k []).length≤aBo l:=aQu;have hkk:=aQt (l:=l) (k:=k);refine zg ?_;(refine zs0 ?_;repeat' first|exact trivial|refine zJ ?_ ?_|refine zH fun hc=>?_)
  ·exfalso;omega
  ·refine⟨k+1,by omega,by omega,?_,by simp⟩;rw[H0 (by omega)];simp
  ·have h1:k=l.length:=by omega
   subst h1;refine bIb (bVa (aBo l) (by omega)) (by simp -implicitDefEqProofs (disch:=omega) only[bJp,go_sem,simprocAttr]) ?_;refine zg ?_;refine dV (fun(t:Nat×AV×List AObj)=>(rp 6 .k (.v (t.2.1)::.k::.j::(rp 18 .k (.v (.i .i64 (t.1:Nat))::(rp 7 .j [.k])))))) (fun t=>t.2.2) (fun t=>t.1≤l.length∧jU 1 0 t.2.2 t.2.1 ((l.take t.1).flatten.map .s) (aBo (l.take t.1))) (fun t=>l.length-t.1) ((0,.hs 0 0 0 false,[.arr false 1 []])) ⟨bX _,.inr ⟨0,rfl,rfl,rfl⟩⟩ rfl (by simp[iS]) ?_;rintro⟨k,out,g⟩ j ⟨hk,ho⟩;dsimp only at hk ho;have hat:k<l.length→aBo (l.take k)+(l.getD k []).length≤aBo l:=aQu;refine zg ?_;(refine zs0 ?_;repeat' first|exact trivial|refine zJ ?_ ?_|refine zH fun hc=>?_)
   ·refine fN (more:=[]) (pre:=[]) (news:=(l.getD k []).map .s) (m:=(l.getD k []).length) ho rfl (by simp) bXh zo9 sz9 by9 rfl (by decide) (by simp -implicitDefEqProofs (disch:=omega) only[go_sem,simprocAttr]) (by simp -implicitDefEqProofs (disch:=omega) only[go_sem,simprocAttr]) ⟨by omega,by omega⟩ ?_;intro out' g' ho' _;refine zg ?_;refine⟨(k+1,out',g'),⟨by omega,?_⟩,by simp;omega,rfl,by simp⟩;dsimp only;rw[H0 (by omega),fI (d:=[]) (by omega),zW,cL];simpa using ho'
   ·have h1:k=l.length:=by omega
    subst h1;rw[fH]at ho;exact aAb (pre:=[]) ho lU
end Go.Proofs.YtdjcggcjlphdoaaGreatDoor
namespace Go.Proofs.YtdjcggcjlphdoaaGreatDoor
open Go Go.Vo
open Nat (reduceAdd reduceSub reduceMul reduceLeDiff reduceLT reduceEqDiff)
open Int (reduceNeg)
structure Small(s:dK):Prop where
 sorts:s.sorts.length≤100
 below:s.below.length≤1000
 ops:s.ops.length≤1000
 funs:s.funs.length≤1000
 values:s.values.length≤1000
def keysOf(s:dK):List Str:=alwaysA++s.sorts
def ups(s:dK)(a:Str):AV:=avs (climb s.below a)
def aBg(s:dK):AV:=.mapv ((keysOf s).map .s) ((keysOf s).map (ups s))
def bBd(l:List LOp):AV:=.mapv ((l.map LOp.name).map .s) (l.map elO)
def eZ(s:dK):List AV:=dW s++[aBg s,bBd s.ops,bBd s.funs]
def bQ(s:dK):AV:=.box (eZ s) 0
structure aBm(s:dK):Prop where
 keys:(keysOf s).Nodup
 ops:(s.ops.map LOp.name).Nodup
 funs:(s.funs.map LOp.name).Nodup
theorem J2{s:dK}:∀{l:List Str},persL (l.map (ups s))=true
 | []=>rfl
 |x::l=>by simp only[aQ,persL,ups,J4,J2,cX]
theorem J3:∀{l:List LOp},persL (l.map elO)=true
 | []=>rfl
 |x::l=>by simp[elO,persL,pers,fR,avs,avi,avb,lU,sR,lN,J3]
attribute [go_sem] J2 J3
theorem aAk(s:dK)(hs:Small s)(hd:aBm s): CT 45 [.agg (dW s)] (bQ s):=by
 refine cI dE Tryz.func45 g0 ?_
 ·skip;have h1:=hs.sorts;have h2:=hs.below;have h3:=hs.ops;have h4:=hs.funs;(repeat'(first|refine gT ?_ ?_|refine gF ?_ ?_|refine gC ?_ ?_|(refine cE (bTx) ?_;simp -implicitDefEqProofs (disch:=omega) only[go_sem,simprocAttr])|refine bE (by omega) ?_|(intro hr;have hc:=hr;(try simp only[zdz]at hc);simp -implicitDefEqProofs (disch:=omega) only[hr,go_sem,simprocAttr];(try clear hr))));refine bJ (bVl [alwaysA,s.sorts] (by simp) ?_) ?_ ?_
  ·simp[aBo,alwaysA];omega
  ·simp -implicitDefEqProofs (disch:=omega) only[alwaysA,go_sem,simprocAttr]
  ·simp -implicitDefEqProofs (disch:=omega) only[go_sem,simprocAttr];have hK:[alwaysA,s.sorts].flatten=keysOf s:=by simp[keysOf]
   have hKl:(keysOf s).length≤107:=by simp[keysOf,alwaysA];omega
   rw[hK];refine lJ (fun(k:Nat)=>(rp 5 .k (.j::(rp 16 .k (.v (.i .i64 k)::(rp 12 .j (rp 31 .k []))))))) (fun k=>[.box false (sgC s),.map false (((keysOf s).take k).map .s) (((keysOf s).take k).map (ups s)),.map false [] [],.map false [] [],.box false [.sl (s.sorts.map .s) s.sorts.length,.sl (s.below.flatMap fX) s.below.length,.sl (s.ops.flatMap fR) s.ops.length,.sl (s.funs.flatMap fR) s.funs.length,.sl (s.values.map .s) s.values.length,.mp 1,.mp 2,.mp 3],.arr false 1 (alwaysA.map .s),.arr false 1 [.hs 5 0 alwaysA.length false,.sl (s.sorts.map .s) s.sorts.length],.arr false 1 ((keysOf s).map .s)]) (fun k=>k≤(keysOf s).length) (fun k=>(keysOf s).length-k) (0) _ (bX _) rfl (by simp[iS]) ?_;rintro k g j hk;simp -implicitDefEqProofs (disch:=omega) only[go_sem,simprocAttr];(repeat'(first|refine gT ?_ ?_|refine gF ?_ ?_|refine gC ?_ ?_|refine bE (by omega) ?_|(intro hr;have hc:=hr;(try simp only[zdz]at hc);simp -implicitDefEqProofs (disch:=omega) only[hr,go_sem,simprocAttr];(try clear hr))))
   ·refine bJ (bVk s ((keysOf s).getD k []) (by omega)) ?_ ?_
    ·simp -implicitDefEqProofs (disch:=omega) only[go_sem,simprocAttr]
    ·have hno:=oP (sS (d:=[]) hd.keys (show k<(keysOf s).length by omega));simp -implicitDefEqProofs (disch:=omega) only[jM,xR,hno,go_sem,simprocAttr];refine⟨k+1,_,by omega,by omega,congr (congrArg List.cons rfl) (congr (congrArg List.cons ?_) rfl),by simp⟩;rw[fI (d:=[]) (by omega),cL,cL];rfl
   ·have hk2:k=(keysOf s).length:=by omega
    subst hk2;refine lJ (fun(k:Nat)=>(rp 7 .k (.j::(rp 30 .k (.v (.i .i64 k)::(rp 11 .j (rp 16 .k []))))))) (fun k=>[.box false (sgC s),.map false ((keysOf s).map .s) ((keysOf s).map (ups s)),.map false (((s.ops.take k).map LOp.name).map .s) ((s.ops.take k).map elO),.map false [] [],.box false [.sl (s.sorts.map .s) s.sorts.length,.sl (s.below.flatMap fX) s.below.length,.sl (s.ops.flatMap fR) s.ops.length,.sl (s.funs.flatMap fR) s.funs.length,.sl (s.values.map .s) s.values.length,.mp 1,.mp 2,.mp 3],.arr false 1 (alwaysA.map .s),.arr false 1 [.hs 5 0 alwaysA.length false,.sl (s.sorts.map .s) s.sorts.length],.arr false 1 ((keysOf s).map .s)]) (fun k=>k≤s.ops.length) (fun k=>s.ops.length-k) (0) _ (bX _) rfl (by simp[iS]) ?_;rintro k g j hk;simp -implicitDefEqProofs (disch:=omega) only[go_sem,simprocAttr];(repeat'(first|refine gT ?_ ?_|refine gF ?_ ?_|refine gC ?_ ?_|refine bE (by omega) ?_|(intro hr;have hc:=hr;(try simp only[zdz]at hc);simp -implicitDefEqProofs (disch:=omega) only[hr,go_sem,simprocAttr];(try clear hr))))
    ·have hkn:(s.ops.getD k default).name=(s.ops.map LOp.name).getD k []:=by simp[List.getD,show k<s.ops.length by omega]
     have hno:=oP (sS (d:=[]) hd.ops (show k<(s.ops.map LOp.name).length by simp;omega));rw[← hkn,← List.map_take]at hno;simp -implicitDefEqProofs (disch:=omega) only[jM,xR,hno,go_sem,simprocAttr];refine⟨k+1,_,by omega,by omega,congr (congrArg List.cons rfl) (congr (congrArg List.cons rfl) (congr (congrArg List.cons ?_) rfl)),by simp⟩;rw[fI (d:=default) (by omega),cL,cL,cL];rfl
    ·have hk2:k=s.ops.length:=by omega
     subst hk2;refine lJ (fun(k:Nat)=>(rp 9 .k (.j::(rp 43 .k (.v (.i .i64 k)::(rp 11 .j [.k])))))) (fun k=>[.box false (sgC s),.map false ((keysOf s).map .s) ((keysOf s).map (ups s)),.map false ((s.ops.map LOp.name).map .s) (s.ops.map elO),.map false (((s.funs.take k).map LOp.name).map .s) ((s.funs.take k).map elO),.box false [.sl (s.sorts.map .s) s.sorts.length,.sl (s.below.flatMap fX) s.below.length,.sl (s.ops.flatMap fR) s.ops.length,.sl (s.funs.flatMap fR) s.funs.length,.sl (s.values.map .s) s.values.length,.mp 1,.mp 2,.mp 3],.arr false 1 (alwaysA.map .s),.arr false 1 [.hs 5 0 alwaysA.length false,.sl (s.sorts.map .s) s.sorts.length],.arr false 1 ((keysOf s).map .s)]) (fun k=>k≤s.funs.length) (fun k=>s.funs.length-k) (0) _ (bX _) rfl (by simp[iS]) ?_;rintro k g j hk;simp -implicitDefEqProofs (disch:=omega) only[go_sem,simprocAttr];(repeat'(first|refine gT ?_ ?_|refine gF ?_ ?_|refine gC ?_ ?_|refine bE (by omega) ?_|(intro hr;have hc:=hr;(try simp only[zdz]at hc);simp -implicitDefEqProofs (disch:=omega) only[hr,go_sem,simprocAttr];(try clear hr))))
     ·have hkn:(s.funs.getD k default).name=(s.funs.map LOp.name).getD k []:=by simp[List.getD,show k<s.funs.length by omega]
      have hno:=oP (sS (d:=[]) hd.funs (show k<(s.funs.map LOp.name).length by simp;omega));rw[← hkn,← List.map_take]at hno;simp -implicitDefEqProofs (disch:=omega) only[jM,xR,hno,go_sem,simprocAttr];refine⟨k+1,_,by omega,by omega,congr (congrArg List.cons rfl) (congr (congrArg List.cons rfl) (congr (congrArg List.cons rfl) (congr (congrArg List.cons ?_) rfl))),by simp⟩;rw[fI (d:=default) (by omega),cL,cL,cL];rfl
     ·refine .inr ⟨?_,by simp[dN,bQ],by simp[dN,bQ]⟩;simp only[bQ,oZ];simp -implicitDefEqProofs (disch:=omega) only[eZ,aBg,bBd,go_sem,simprocAttr]
end Go.Proofs.YtdjcggcjlphdoaaGreatDoor
namespace Go.Proofs.YtdjcggcjlphdoaaGreatDoor
open Go Go.Vo
open Nat (reduceAdd reduceSub reduceMul reduceLeDiff reduceLT reduceEqDiff)
open Int (reduceNeg)
theorem pN{l:List (Str×Str)}{a x:Str}:∀(m:List (Str×Str)) (L:List Str),(∀b∈m,b∈l)→Climbs l a L→Climbs l a (jQ m x L)
 | [],L,_,h=>h
 |b::m,L,hm,h=>pN m _ (fun c hc=>hm c (by simp[hc])) (h.step (hm b (by simp)))
theorem yD{l:List (Str×Str)}{a:Str}:∀(f i:Nat) (L:List Str),Climbs l a L→Climbs l a (climbG l f i L)
 |0,i,L,h=>h
 |f+1,i,L,h=>by
  simp only[climbG];split
  ·exact yD f _ _ (pN l L (fun _ h=>h) h)
  ·exact h
theorem aEx(l:List (Str×Str))(a:Str):Climbs l a (climb l a):=yD _ _ _ ⟨by simp,by simp,by simp⟩
theorem aEw(l:List (Str×Str))(a:Str):(climb l a).length≤l.length+1:=(aEx l a).len
theorem Z3{l:List Str}{x:Str}(h:l.contains x=true):∃i,(l.findIdx? fun y=>decide (x=y))=some i∧∀{β:Type} (f:Str→β),(l.map f)[i]? = some (f x):=by
 cases hf:l.findIdx? fun y=>decide (x=y)with
 |none=>
  rw[fU]at hf;have hm:x∈l:=by simpa using h
  have:=hf x hm;simp at this
 |some i=>
  rw[iN]at hf;obtain⟨hi,hx,_⟩:=hf;have hx:x=l[i]:=by simpa using hx
  exact⟨i,rfl,fun f=>by simp[hi,← hx]⟩
attribute [go_sem] jM xR
theorem aWx{s:dK}:(eZ s)[0]? = some (avs s.sorts):=rfl
theorem aWw{s:dK}:(eZ s)[5]? = some (.mapv ((keysOf s).map .s) ((keysOf s).map (ups s))):=rfl
theorem aWv{s:dK}:(eZ s)[6]? = some (.mapv ((s.ops.map LOp.name).map .s) (s.ops.map elO)):=rfl
theorem aWu{s:dK}:(eZ s)[7]? = some (.mapv ((s.funs.map LOp.name).map .s) (s.funs.map elO)):=rfl
attribute [go_sem] bQ aWx aWw aWv aWu
def existsA(s:dK)(a:Str):Bool:=(keysOf s).contains a
theorem oJ{s:dK}:pers (bQ s)=true:=by
 simp only[bQ,eZ,pers,persL,dW,avs,avb,avo,aC,aE,lU,lN,aJy,aBg,bBd,J2,J3,cX]
theorem aNs{s:dK}:persL (eZ s)=true:=by
 have:=oJ (s:=s);simpa[bQ,pers]using this
attribute [go_sem] aNs
theorem aEm(s:dK)(x:Str): CT 90 [bQ s,.s x] (.b (existsA s x)):=by
 refine cI dE Tryz.func90 g0 ?_
 ·skip;by_cases hx:(keysOf s).contains x=true
  ·obtain⟨i,hf,hv⟩:=Z3 hx;simp -implicitDefEqProofs (disch:=omega) only[hf,hv,go_sem,simprocAttr];exact bR (by rw[existsA,hx]) rfl
  ·have hx:=dG.2 hx;refine zh (uN hx) ?_;exact bR (by rw[existsA,hx]) rfl
def anyS:Str:=[65,110,121]
def aBh(s:dK)(x:Str):List Str:=if existsA s x then climb s.below x else []
def iQ(s:dK)(x y:Str):Bool:=decide (y=anyS)||(aBh s x).contains y
theorem aOj(s:dK)(x y:Str)(hs:Small s): CT 118 [bQ s,.s x,.s y] (.b (iQ s x y)):=by
 refine cI dE Tryz.func118 g0 ?_
 ·skip;have hl:=aEw s.below x;have h2:=hs.below;by_cases hx:(keysOf s).contains x=true
  ·obtain⟨i,hf,hv⟩:=Z3 hx;(repeat'(first|refine gT ?_ ?_|refine gF ?_ ?_|refine gC ?_ ?_|(refine cE (Q3 (climb s.below x) y (by omega)) ?_;simp -implicitDefEqProofs (disch:=omega) only[hf,hv,ups,go_sem,simprocAttr])|refine bE (by omega) ?_|(intro hr;have hc:=hr;(try simp only[zdz]at hc);simp -implicitDefEqProofs (disch:=omega) only[hr,hf,hv,ups,go_sem,simprocAttr];(try clear hr))));all_goals(refine bR ?_ (by rfl))
   all_goals simp_all[iQ,aBh,existsA,anyS]
  ·have hx:=dG.2 hx;(refine zx1 (uN hx) (Q3 [] y (by simp)) ?_;repeat' first|exact trivial|refine zJ ?_ ?_|refine zH fun hc=>?_);all_goals(refine bR ?_ (by rfl))
   all_goals simp_all[iQ,aBh,existsA,anyS]
def bBq(s:dK)(x y:Str):Bool:=iQ s x y||iQ s y x
theorem cAm(s:dK)(x y:Str)(hs:Small s): CT 161 [bQ s,.s x,.s y] (.b (bBq s x y)):=by
 refine cI dE Tryz.func161 g0 ?_
 ·skip;(refine zs2 (aOj s x y hs) (aOj s y x hs) ?_;repeat' first|exact trivial|refine zJ ?_ ?_|refine zH fun hc=>?_);all_goals(refine bR ?_ (by rfl))
  all_goals simp_all[bBq]
end Go.Proofs.YtdjcggcjlphdoaaGreatDoor
namespace Go.Proofs.YtdjcggcjlphdoaaGreatDoor
open Go Go.Vo
open Nat (reduceAdd reduceSub reduceMul reduceLeDiff reduceLT reduceEqDiff)
open Int (reduceNeg)
def aHw(s:Str)(c:Int):Int:=Lib.indexByte s c.toNat.toUInt8
def aLr:Str:=[97,100,100,32,115,117,98,32,109,117,108,32,100,105,118,32,109,111,100,32,110,101,103,32,108,116,32,108,101,32,103,116,32,103,101,32,101,113,32,110,101,32,97,110,100,32,111,114,32,110,111,116,32,112,105,99,107,32,99,97,116,32,108,101,110,103,116,104,32,116,101,120,116,32,106,111,105,110,32,103,101,116,32,112,117,116,32,104,97,115,32,100,101,108,32,107,101,121,115,32,115,105,122,101,32,105,115,32,105,115,118,97,108,117,101]
def N5:List Str:=Lib.fields aLr
theorem cBt{X:Ctx}{w:World}{h:List AObj}{l:Str}{v:Value}(r:RV X w h (.s l) v):v=.string ⟨l.toArray⟩:=by
 cases r with
 |s=>rfl
 |dead hr _ _=>simp[AV.refs]at hr
theorem bQd{vs:Array Value}(h:2=vs.size):∃a b,vs = #[a,b]:=by
 match vs,h with
 |⟨[a,b]⟩,_=>exact⟨a,b,rfl⟩
theorem bGa{vs:Array Value}(h:1=vs.size):∃a,vs = #[a]:=by
 match vs,h with
 |⟨[a]⟩,_=>exact⟨a,rfl⟩
theorem bUt(s:Str)(c:Int):CT 255 [.s s,.i .u8 c] (.i .i64 (aHw s c)):=by
 refine⟨by kernel_rfl,g0,?_⟩;intro F w vs hF hgl hl hr;obtain⟨v0,v1,rfl⟩:=bQd hl;have h0:=cBt (hr 0 _ v0 rfl rfl);have h1:=qI (hr 1 _ v1 rfl rfl);subst h0 h1;refine(Tryz.strings_IndexByte ⟨s.toArray⟩ c w).mono ?_;rintro e w' ⟨rfl,rfl⟩;exact⟨_,F,[],rfl,.refl _,fun _ h=>h,fun _ h=>.inl h,hF,RR.val (.i _ _),fL,by simp⟩
theorem bEb{F:Nat→Prop}{w:World}{g:Nat}{cells:List AV}(r:RV (.none F) w [] (.box cells 0) (.pointer (some ⟨g,0,Option.none⟩))){j:Nat}{k:IntKind}{n:Int}(h:cells[j]? = some (.i k n)):w.cell? ⟨g,j,none⟩=some (.int k n):=by
 generalize hv:Value.pointer (some ⟨g,0,Option.none⟩)=v at r;cases r with
 | @box _ _ b o cs T fr hF hb hl h1 hr=>
   simp only[Value.pointer.injEq,aF,Addr.mk.injEq,and_true]at hv;obtain⟨rfl,h0⟩:=hv;have ho:o=0:=by omega
   subst ho;have hj:=bW h;have hc:cs[0+j]? = some cs[0+j]:=cJ (by omega);have:=qI (hr j _ _ h hc);simp only[eF]at this hc;simp[World.cell?,hb,hc,this]
 |dead hr hd _=>simp[AV.refs]at hr
theorem aOz{F:Nat→Prop}{w:World}(hgl:∀k a,G0 k=some a→GRel (.none F) w [] k a)(c:Nat)(hc:c<256):w.cell? ⟨0,c,none⟩=some (.int .u8 (if Lib.isSp (UInt8.ofNat c)then 1 else 0)):=by
 have r:=(hgl 0 (.box zQ 0) rfl).1;refine bEb r ?_;have h:=Lib.asciiSpaceTab_at c hc;have hl:=Lib.asciiSpaceTab_length;rw[← h];exact aDm (by omega)
theorem cAl(s:Str)(hs:s.length≤4000000000)(ha:s.all (fun b=>decide (b.toNat<128))=true):CT 213 [.s s] (.own 1 ((Lib.fields s).map .s) (Lib.fields s).length):=by
 refine⟨by kernel_rfl,g0,?_⟩;intro F w vs hF hgl hl hr;obtain⟨v0,rfl⟩:=bGa hl;have h0:=cBt (hr 0 _ v0 rfl rfl);subst h0;refine(Any.strings_Fields_core Tryz.lays157 (by kernel_rfl) ⟨s.toArray⟩ w (by simp[ByteArray.size];omega) (fun j b hj=>?_) (fun c hc=>aOz hgl c hc)).mono ?_
 ·have hm:=dY hj;have:=bC.1 ha b hm;simpa using this
 ·rintro e w' ⟨rfl,rfl⟩;refine⟨_,F,[w.heap.size],rfl,(gY.alloc _ _).grew,fun _ h=>h,fun _ h=>.inl h,fun b hb=>gD (hF b hb) (gY.alloc w _).grew.size,?_,by simp,?_⟩
  ·refine .inl ⟨w.heap.size,0,_,_,(Lib.fields s).length,rfl,rfl,(gY.alloc _ _).at,by simp,bV _,by simp,?_,?_⟩
   ·intro j v hv;simp at hv;obtain⟨x,_,rfl⟩:=hv;rfl
   ·intro j a v ha hv;simp at ha hv;obtain⟨x,h1,rfl⟩:=ha;obtain⟨y,h2,rfl⟩:=hv;rw[h1]at h2;cases h2;exact .s _
  ·intro b hb;simp only[aP]at hb;subst hb;refine⟨fun f=>?_,bV _⟩;have:=hF _ f;omega
end Go.Proofs.YtdjcggcjlphdoaaGreatDoor
namespace Go.Proofs.YtdjcggcjlphdoaaGreatDoor
open Go Go.Vo
open Nat (reduceAdd reduceSub reduceMul reduceLeDiff reduceLT reduceEqDiff)
open Int (reduceNeg)
theorem aOs:N5.length=28:=by decide +kernel
theorem bEa(s:Str):N5.contains s=pJ.contains s:=by
 have h1:N5.all (fun x=>pJ.contains x)=true:=by decide +kernel
 have h2:pJ.all (fun x=>N5.contains x)=true:=by decide +kernel
 rw[gA];simp only[bC]at h1 h2;exact⟨fun h=>h1 s (by simpa using h),fun h=>h2 s (by simpa using h)⟩
theorem bTa:CT 213 [.s [97,100,100,32,115,117,98,32,109,117,108,32,100,105,118,32,109,111,100,32,110,101,103,32,108,116,32,108,101,32,103,116,32,103,101,32,101,113,32,110,101,32,97,110,100,32,111,114,32,110,111,116,32,112,105,99,107,32,99,97,116,32,108,101,110,103,116,104,32,116,101,120,116,32,106,111,105,110,32,103,101,116,32,112,117,116,32,104,97,115,32,100,101,108,32,107,101,121,115,32,115,105,122,101,32,105,115,32,105,115,118,97,108,117,101]] (.own 1 (N5.map .s) N5.length):=cAl aLr (by decide) (by decide +kernel)
theorem bNs(s:Str): CT 154 [.s s] (.b (pJ.contains s)):=by
 refine cI dE Tryz.func154 g0 ?_
 ·skip;refine bJ bTa (by rfl) ?_;refine zg ?_;(refine zs1 (Q3 N5 s (by rw[aOs];omega)) ?_;repeat' first|exact trivial|refine zJ ?_ ?_|refine zH fun hc=>?_);refine bR ?_ (by rfl);rw[bEa]
def zF(s:dK)(x:Str×Str):Bool:=decide (x.1≠anyS)&&existsA s x.1&&s.sorts.contains x.2 && !(aBh s x.2).contains x.1
theorem cAq(s:dK)(x:Str×Str)(hs:Small s): CT 89 [bQ s,elB x] (.b (zF s x)):=by
 refine cI dE Tryz.func89 g0 ?_
 ·skip;have hl:=aEw s.below x.2;have h2:=hs.below;have h1:=hs.sorts;by_cases hx:(keysOf s).contains x.2=true
  ·obtain⟨i,hf,hv⟩:=Z3 hx;(repeat'(first|refine gT ?_ ?_|refine gF ?_ ?_|refine gC ?_ ?_|((first|(refine bJ (aEm s x.1) ?_ ?_;(focus(simp -implicitDefEqProofs (disch:=omega) only[hf,hv,ups,zdA,go_sem,simprocAttr];done)))|(refine bJ (Q3 s.sorts x.2 (by omega)) ?_ ?_;(focus(simp -implicitDefEqProofs (disch:=omega) only[hf,hv,ups,zdA,go_sem,simprocAttr];done)))|(refine bJ (Q3 (climb s.below x.2) x.1 (by omega)) ?_ ?_;(focus(simp -implicitDefEqProofs (disch:=omega) only[hf,hv,ups,zdA,go_sem,simprocAttr];done))));simp -implicitDefEqProofs (disch:=omega) only[hf,hv,ups,go_sem,simprocAttr])|refine bE (by omega) ?_|(intro hr;have hc:=hr;(try simp only[zdz]at hc);simp -implicitDefEqProofs (disch:=omega) only[hr,hf,hv,ups,go_sem,simprocAttr];(try clear hr))));all_goals(refine bR ?_ (by rfl))
   all_goals(simp_all[zF,aBh,existsA,anyS])
  ·have hx:=dG.2 hx;(refine zx3 (uN hx) (aEm s x.1) (Q3 s.sorts x.2) (Q3 [] x.1 (by simp)) ?_;repeat' first|exact trivial|refine zJ ?_ ?_|refine zH fun hc=>?_);all_goals(refine bR ?_ (by rfl))
   all_goals(simp_all[zF,aBh,existsA,anyS])
end Go.Proofs.YtdjcggcjlphdoaaGreatDoor
namespace Go.Proofs.YtdjcggcjlphdoaaGreatDoor
open Go Go.Vo
open Nat (reduceAdd reduceSub reduceMul reduceLeDiff reduceLT reduceEqDiff)
open Int (reduceNeg)
def qV(n:Int):Bool := !(decide (n<33)||decide (126<n)||part n||(decide (n=34)||decide (n=39)||decide (n=92)))
def B9(s:Str):Bool:=decide (1≤s.length)&&decide (s.length≤20)&&s.all fun c=>qV c.toNat
theorem bEh(s:Str)(k:Nat):0≤at_ s k∧at_ s k<256:=by
 unfold at_;have:=(s.getD k 0).toNat_lt;omega
theorem cGc(s:Str)(k:Nat):decide (0≤aHw [34,39,92] (at_ s k))=(decide (at_ s k=34)||decide (at_ s k=39)||decide (at_ s k=92)):=by
 have h:∀n:Nat,n<256→decide (0≤aHw [34,39,92] (n:Int))=(decide ((n:Int)=34)||decide ((n:Int)=39)||decide ((n:Int)=92)):=by decide +kernel
 exact h _ (s.getD k 0).toNat_lt
theorem bUv(s:Str)(hs:s.length≤140737488355328): CT 216 [.s s] (.b (B9 s)):=by
 refine cI dE Tryz.func216 g0 ?_
 ·skip;(refine zs0 ?_;repeat' first|exact trivial|refine zJ ?_ ?_|refine zH fun hc=>?_);any_goals(refine bR ?_ (by rfl);simp_all[B9]<;>omega)
  refine dV (fun(k:Nat)=>(.k::.k::.j::.j::.j::(rp 9 .k (.v (.i .i64 k)::(rp 21 .j []))))) (fun k=>[]) (fun k=>k≤s.length∧∀j,j<k→qV (at_ s j)=true) (fun k=>s.length-k) (0) ⟨bX _,fun j h=>by omega⟩ rfl (by simp[iS]) ?_;rintro k j ⟨hk,ha⟩;have hr:=bEh s k;have h3:=cGc s k;simp only[at_]at h3 hr;refine zg ?_;(refine zx2 h3 bSy (bUt [34,39,92] ((s.getD k 0).toNat:Int)) ?_;repeat' first|exact trivial|refine zJ ?_ ?_|refine zH fun hc=>?_)
  ·refine bR ?_ (by rfl);have h4:=h3.symm.trans (zt hc);rw[B9,qD (j:=k) (by omega) (by simp only[qV,at_,h4,bH,aA]),aS]
  ·have h4:=h3.symm.trans (zf hc);exact⟨k+1,⟨by omega,fF ha (by simp only[qV,at_,h4,aK];simp_all)⟩,by omega,by simp⟩
  ·refine bR ?_ (by rfl);rw[B9,qD (j:=k) (by omega) (by simp only[qV,at_,hc,bH,bG,aA]),aS]
  ·refine bR ?_ (by rfl);rw[B9,qD (j:=k) (by omega) (by simp only[qV,at_,hc,decide_true,bH,bG,aA]),aS]
  ·refine bR ?_ (by rfl);rw[B9,qD (j:=k) (by omega) (by simp only[qV,at_,hc,decide_true,bH,bG,aA]),aS]
  ·refine bR ?_ (by rfl);have h1:k=s.length:=by omega
   rw[B9,bIg (h1▸ha)];simp;omega
def sP(t:Str):Bool:=B9 t||isName t&&decide (t.length≤20)
def xB(p:Str×Str):Bool:=decide (decide (p.2=[])=sP p.1) && !(!decide (p.2=[]) && !decide (p.1=[]))
def vJ(l:List (Str×Str)):List Str:=(l.filter fun p => !decide (p.2=[])).map (·.2)
def sJ(o:LOp):Bool:=o.pieces.isEmpty||(o.pieces.all xB&&decide (o.pieces.length≤20)&&decide (vJ o.pieces=o.args))
theorem wD{l:List (Str×Str)}{k:Nat}(h:k<l.length):vJ (l.take (k+1))=vJ (l.take k)++(if(l.getD k ([],[])).2=[]then []else [(l.getD k ([],[])).2]):=by
 rw[fI (d:=([],[])) h];simp only[vJ,List.filter_append,cL];congr 1;by_cases h2:(l.getD k ([],[])).2=[]
 ·rw[if_pos h2,List.filter_cons_of_neg (by simp only[h2];decide)];rfl
 ·rw[if_neg h2,List.filter_cons_of_pos (by simp only[h2];decide)];rfl
theorem W3{l:List (Str×Str)}:(vJ l).length≤l.length:=by
 unfold vJ;rw[eD];exact List.length_filter_le _ _
theorem rJ{n:Nat}:((n:Int)≤20)↔n≤20:=by omega
theorem aNa{o:LOp}{k:Nat}(hk:k<o.pieces.length)(h:xB (o.pieces.getD k ([],[]))=false):sJ o=false:=by
 have h1:o.pieces.all xB=false:=aDh hk h;have h2:o.pieces ≠ []:=fun e=>by simp[e]at hk
 simp[sJ,h1,h2]
theorem bVc(o:LOp)(ho:OkO o): CT 158 [elO o] (.b (sJ o)):=by
 refine cI dE Tryz.func158 g0 ?_
 ·skip;have hp:=ho.piecesT;have hx:=ho.args;(refine zs0 ?_;repeat' first|exact trivial|refine zJ ?_ ?_|refine zH fun hc=>?_)
  ·refine bR ?_ (by rfl);have:o.pieces=[]:=List.eq_nil_of_length_eq_zero (by omega);simp[sJ,this]
  ·refine dV (fun(s:Nat×AV×List AObj)=>(.k::.k::.j::.v (s.2.1)::.k::.j::.j::(rp 7 .k (.v (.i .i64 (s.1:Nat))::(rp 41 .j (rp 10 .k [])))))) (fun s=>.box false (fR o)::s.2.2) (fun s=>s.1≤o.pieces.length∧(∀j,j<s.1→xB (o.pieces.getD j ([],[]))=true)∧jU 1 1 s.2.2 s.2.1 ((vJ (o.pieces.take s.1)).map .s) (vJ (o.pieces.take s.1)).length) (fun s=>o.pieces.length-s.1) ((0,.e0,[])) ⟨bX _,fun j h=>by simp at h,jN⟩ rfl (by simp[iS]) ?_;rintro⟨k,out,g⟩ j ⟨hk,ha,ho2⟩;dsimp only at hk ha ho2;have hpl:k<o.pieces.length→(o.pieces.getD k ([],[])).1.length≤140737488355328:=fun h=>(ho.piecesS _ (cS h)).1;have hal:=W3 (l:=o.pieces.take k);rw[cN]at hal;refine zg ?_;(repeat'(first|refine gT ?_ ?_|refine gF ?_ ?_|refine gC ?_ ?_|((first|(refine bJ (bUv (o.pieces.getD k ([],[])).1 (hpl (by omega))) ?_ ?_;(focus(simp -implicitDefEqProofs (disch:=omega) only[zdA,go_sem,simprocAttr];done)))|(refine bJ (Q4 (o.pieces.getD k ([],[])).1 (hpl (by omega))) ?_ ?_;(focus(simp -implicitDefEqProofs (disch:=omega) only[zdA,go_sem,simprocAttr];done))));simp -implicitDefEqProofs (disch:=omega) only[go_sem,simprocAttr])|refine bE (by omega) ?_|(intro hr;have hc:=hr;(try simp only[zdz]at hc);simp -implicitDefEqProofs (disch:=omega) only[hr,go_sem,simprocAttr];(try clear hr))));all_goals first|(exfalso;omega)|skip
   all_goals first|(refine bR ?_ (by rfl);rw[aNa (k:=k) (by omega) (by simp_all[xB,sP,eE,rJ])];done)|skip
   all_goals first|(refine⟨(k+1,out,_),⟨by omega,fF ha (by simp_all[xB,sP,eE,rJ]),?_⟩,by simp;omega,rfl,rfl,by simp⟩;dsimp only;rw[wD (by omega),if_pos (List.eq_nil_of_length_eq_zero (by assumption)),List.append_nil];exact ho2.more _)|skip
   ·refine fN (pre:=[_]) (news:=[.s (o.pieces.getD k ([],[])).2]) (m:=1) ho2 rfl rfl bXh zo9 sz9 by9 rfl (by decide) (by simp -implicitDefEqProofs (disch:=omega) only[go_sem,simprocAttr]) (by simp -implicitDefEqProofs (disch:=omega) only[go_sem,simprocAttr]) ⟨by omega,by omega⟩ ?_;intro out' g' ho' _;refine zg ?_;refine⟨(k+1,out',g'),⟨by omega,fF ha (by simp_all[xB,sP,eE,rJ]),?_⟩,by simp;omega,rfl,by simp⟩;dsimp only;rw[wD (by omega),if_neg (by rw[← eE];assumption),cL,List.length_append];exact ho'
   ·refine fN (pre:=[_]) (news:=[.s (o.pieces.getD k ([],[])).2]) (m:=1) ho2 rfl rfl bXh zo9 sz9 by9 rfl (by decide) (by simp -implicitDefEqProofs (disch:=omega) only[go_sem,simprocAttr]) (by simp -implicitDefEqProofs (disch:=omega) only[go_sem,simprocAttr]) ⟨by omega,by omega⟩ ?_;intro out' g' ho' _;refine zg ?_;refine⟨(k+1,out',g'),⟨by omega,fF ha (by simp_all[xB,sP,eE,rJ]),?_⟩,by simp;omega,rfl,by simp⟩;dsimp only;rw[wD (by omega),if_neg (by rw[← eE];assumption),cL,List.length_append];exact ho'
   ·have hk2:k=o.pieces.length:=by omega
    have hne:o.pieces ≠ []:=fun e=>by simp_all
    have hemp:o.pieces.isEmpty=false:=by simpa using hne
    have hall:o.pieces.all xB=true:=aMm (d:=([],[])) (fun j hj=>ha j (by omega));rw[bB (by omega)]at ho2;have hal:=W3 (l:=o.pieces);rcases ho2 with⟨rfl,hnil,_⟩|⟨i0,rfl,hg,_⟩
    ·have hnil:vJ o.pieces=[]:=by simpa using hnil
     (refine zs1 (bTb [] o.args (by simp) hx) ?_;repeat' first|exact trivial|refine zJ ?_ ?_|refine zH fun hc=>?_);refine bR ?_ (by rfl);rw[sJ,hemp,hall,hnil,zt (rJ.1 hc)];simp
    ·(refine zx1 hg (bTb (vJ o.pieces) o.args (by omega) hx) ?_;repeat' first|exact trivial|refine zJ ?_ ?_|refine zH fun hc=>?_);refine bR ?_ (by rfl);rw[sJ,hemp,hall,zt (rJ.1 hc)];simp
   ·refine bR ?_ (by rfl);have hne:o.pieces ≠ []:=fun e=>by simp_all
    simp_all[sJ,rJ];omega
end Go.Proofs.YtdjcggcjlphdoaaGreatDoor
namespace Go.Proofs.YtdjcggcjlphdoaaGreatDoor
open Go Go.Vo
open Nat (reduceAdd reduceSub reduceMul reduceLeDiff reduceLT reduceEqDiff)
open Int (reduceNeg)
theorem uH{s:dK}:persL [bQ s]=true:=by
 show(pers (bQ s)&&true)=true;rw[oJ];rfl
def aTd(o:LOp)(i:Int):Bool:=decide (1≤i)&&decide (i≤o.args.length)
theorem aSe(o:LOp):persL (fR o)=true:=by simp only[fR,persL,pers,J4,aCw,avb,lN,cX]
theorem bVf(i:Int)(o:LOp): CT 155 [.i .i64 i,.box (fR o) 0] (.b (aTd o i)):=by
 refine cI dE Tryz.func155 g0 ?_
 ·skip;(refine zs0 ?_;repeat' first|exact trivial|refine zJ ?_ ?_|refine zH fun hc=>?_);all_goals(refine bR ?_ (by rfl))
  all_goals first|(simp_all[aTd];done)|(simp_all[aTd];omega)
def bFt(o:LOp):Bool:=decide (0≤o.prec)&&decide (o.prec≤20)&&(decide (0<o.pieces.length)||decide (o.prec=0))
def aXj(o:LOp):Bool:=decide (0≤o.assoc)&&decide (o.assoc≤2)&&(decide (0<o.prec)||decide (o.assoc=0))
def opHead(s:dK)(o:LOp):Bool:=isName (C4 o.name) && !pJ.contains o.name&&decide (o.args.length≤8)&&o.args.all (existsA s)&&s.sorts.contains o.sort
def isOp(s:dK)(o:LOp):Bool:=opHead s o&&bFt o&&aXj o&&o.strict.all (aTd o)&&decide o.strict.Nodup&&sJ o
def isFun(s:dK)(o:LOp):Bool:=isName o.name && !pJ.contains o.name&&decide (o.args.length≤8)&&o.args.all (existsA s)&&existsA s o.sort&&(decide (o.pieces.length=0)&&decide (o.prec=0)&&decide (o.assoc=0)&&decide (o.strict.length=0))
theorem bOd{n:Nat}:(8<(n:Int))↔¬n≤8:=by omega
theorem bDw{n:Nat}:((n:Int)≤8)↔n≤8:=by omega
theorem bOc{n:Nat}:(0<(n:Int))↔0<n:=by omega
theorem cAw{n:Nat}:((n:Int)=0)↔n=0:=by omega
theorem cAo(s:dK)(o:LOp)(hs:Small s)(ho:OkO o): CT 93 [bQ s,elO o] (.b (isFun s o)):=by
 refine cI dE Tryz.func93 g0 ?_
 ·skip;(refine zs4 (Q4 o.name ho.name) (bNs o.name) (bDg o.args 90 [bQ s] [] (existsA s) ho.args uH rfl (fun k hk=>aEm s (o.args.getD k []))) (aEm s o.sort) ?_;repeat' first|exact trivial|refine zJ ?_ ?_|refine zH fun hc=>?_);all_goals(refine bR ?_ (by rfl))
  all_goals simp only[bDw,cAw]at *
  all_goals simp only[isFun, *,decide_true,decide_false,bA,aR,aS,aT,aA,aB,bH,bG,aK,dD]
end Go.Proofs.YtdjcggcjlphdoaaGreatDoor
namespace Go.Proofs.YtdjcggcjlphdoaaGreatDoor
open Go Go.Vo
open Nat (reduceAdd reduceSub reduceMul reduceLeDiff reduceLT reduceEqDiff)
open Int (reduceNeg)
theorem cAp(s:dK)(o:LOp)(hs:Small s)(ho:OkO o): CT 92 [bQ s,elO o] (.b (isOp s o)):=by
 refine cI dE Tryz.func92 g0 ?_
 ·skip;have hb:=jI (aLs o.name) ho.name;have h1:=hs.sorts;(repeat'(first|refine gT ?_ ?_|refine gF ?_ ?_|refine gC ?_ ?_|((first|(refine bJ (bHx o.name ho.name) ?_ ?_;(focus(simp -implicitDefEqProofs (disch:=omega) only[zdA,go_sem,simprocAttr];done)))|(refine bJ (Q4 (C4 o.name) hb) ?_ ?_;(focus(simp -implicitDefEqProofs (disch:=omega) only[zdA,go_sem,simprocAttr];done)))|(refine bJ (bNs o.name) ?_ ?_;(focus(simp -implicitDefEqProofs (disch:=omega) only[zdA,go_sem,simprocAttr];done)))|(refine bJ (bDg o.args 90 [bQ s] [] (existsA s) ho.args uH rfl (fun k hk=>aEm s (o.args.getD k []))) ?_ ?_;(focus(simp -implicitDefEqProofs (disch:=omega) only[zdA,go_sem,simprocAttr];done)))|(refine bJ (Q3 s.sorts o.sort (by omega)) ?_ ?_;(focus(simp -implicitDefEqProofs (disch:=omega) only[zdA,go_sem,simprocAttr];done)))|(refine bJ (bVe o.strict 155 [] [.box (fR o) 0] (aTd o) ho.strict rfl (by simp only[persL,pers,aSe,cX]) (fun k hk=>bVf (o.strict.getD k 0) o)) ?_ ?_;(focus(simp -implicitDefEqProofs (disch:=omega) only[zdA,go_sem,simprocAttr];done)))|(refine bJ (bVd o.strict ho.strict) ?_ ?_;(focus(simp -implicitDefEqProofs (disch:=omega) only[zdA,go_sem,simprocAttr];done)))|(refine bJ (bVc o ho) ?_ ?_;(focus(simp -implicitDefEqProofs (disch:=omega) only[zdA,go_sem,simprocAttr];done))));simp -implicitDefEqProofs (disch:=omega) only[go_sem,simprocAttr])|refine bE (by omega) ?_|(intro hr;have hc:=hr;(try simp only[zdz]at hc);simp -implicitDefEqProofs (disch:=omega) only[hr,go_sem,simprocAttr];(try clear hr))));all_goals(refine bR ?_ (by rfl))
  all_goals try simp only[bOd,bOc,R0]at *
  all_goals first|(exfalso;omega)|skip
  all_goals simp only[isOp,opHead,bFt,aXj, *,decide_true,decide_false,bA,aR,aS,aT,aA,aB,bH,bG,aK,dD]
  all_goals first|(simp;done)|(simp_all;done)|(simp_all;omega)
end Go.Proofs.YtdjcggcjlphdoaaGreatDoor
namespace Go.Proofs.YtdjcggcjlphdoaaGreatDoor
open Go Go.Vo
open Nat (reduceAdd reduceSub reduceMul reduceLeDiff reduceLT reduceEqDiff)
open Int (reduceNeg)
attribute [go_sem] List.replicate_zero aM
end Go.Proofs.YtdjcggcjlphdoaaGreatDoor
namespace Go.Proofs.YtdjcggcjlphdoaaGreatDoor
open Go Go.Vo
open Nat (reduceAdd reduceSub reduceMul reduceLeDiff reduceLT reduceEqDiff)
open Int (reduceNeg)
def U3(x:Str):Bool:=isName x && !alwaysA.contains x
def qZ(s:dK):List Str:=s.ops.map LOp.name++s.funs.map LOp.name
def pT(s:dK):Bool:=decide (s.sorts.length≤40)&&decide (s.below.length≤200)&&decide (s.ops.length+s.funs.length≤200)&&decide s.below.Nodup&&decide s.values.Nodup
def qT(s:dK):Bool:=decide s.sorts.Nodup&&s.sorts.all U3&&decide (qZ s).Nodup
def sI(s:dK):Bool:=s.below.all (zF s)&&s.values.all (existsA s)&&s.ops.all (isOp s)&&s.funs.all (isFun s)
def iH(s:dK):Bool:=pT s&&qT s&&sI s
theorem M4{s:dK}(h1:s.sorts.Nodup)(h2:s.sorts.all U3=true)(h3:(qZ s).Nodup):aBm s:=by
 refine⟨?_,?_,?_⟩
 ·unfold keysOf;rw[kE];refine⟨by decide,h1,?_⟩;intro a ha b hb hab;subst hab;have:=bC.1 h2 a hb;simp only[U3,aD,eG]at this;have h4:alwaysA.contains a=true:=by simpa using ha
  rw[h4]at this;cases this.2
 ·unfold qZ at h3;exact(kE.1 h3).1
 ·unfold qZ at h3;exact(kE.1 h3).2.1
theorem iP{s:dK}(h:iH s=true):aBm s:=by
 simp only[iH,qT,aD,decide_eq_true_eq]at h;exact M4 h.1.2.1.1 h.1.2.1.2 h.1.2.2
theorem aUq(s:dK)(ho:OkS s):∀k,k<s.sorts.length→CT 83 ([]++[.s (s.sorts.getD k [])]++[]) (.b (U3 (s.sorts.getD k []))):=fun k hk=>cAs _ (ho.sortsS _ (cS hk))
theorem aSf{a b:List AV}:persL (a++b)=(persL a&&persL b):=by
 induction a with
 |nil=>simp[persL]
 |cons x l ih=>simp[persL,ih,uT]
theorem bUa(s:dK)(h:(qZ s).length≤140737488355328):CT 82 [.sl ((s.ops.map LOp.name).map .s++(s.funs.map LOp.name).map .s) (s.ops.length+s.funs.length)] (.b (decide (qZ s).Nodup)):=by
 have:=bNr (qZ s) h;simpa only[avs,qZ,cL,List.length_append,eD]using this
theorem bJf{α β γ:Type}{f:β→γ}{g:α→β}{a b:List α}:((a.map g).map f++(b.map g).map f).take (a.length+b.length)=(a.map g).map f++(b.map g).map f:=bB (by simp)
attribute [go_sem] aSf bJf
theorem aOk(s:dK)(hs:Small s)(ho:OkS s): CT 44 [.agg (dW s)] (.b (iH s)):=by
 refine cI dE Tryz.func44 g0 ?_
 ·skip;have h1:=hs.sorts;have h2:=hs.below;have h3:=hs.ops;have h4:=hs.funs;have h5:=hs.values;(refine zs2 (cAt s.below ho.below) (bNr s.values ho.values) ?_;repeat' first|exact trivial|refine zJ ?_ ?_|refine zH fun hc=>?_);all_goals first|(refine bR ?_ (by rfl);simp only[iH,pT];simp_all;done)|(refine bR ?_ (by rfl);simp only[iH,pT];simp_all;omega)|skip
  (repeat'(first|refine gT ?_ ?_|refine gF ?_ ?_|refine gC ?_ ?_|((first|(refine bJ (bNr s.sorts ho.sorts) ?_ ?_;(focus(simp -implicitDefEqProofs (disch:=omega) only[zdA,go_sem,simprocAttr];done)))|(refine bJ (bDg s.sorts 83 [] [] U3 ho.sorts rfl rfl (aUq s ho)) ?_ ?_;(focus(simp -implicitDefEqProofs (disch:=omega) only[zdA,go_sem,simprocAttr];done)))|(refine bJ (bTw s.ops ho.opsT) ?_ ?_;(focus(simp -implicitDefEqProofs (disch:=omega) only[zdA,go_sem,simprocAttr];done)))|(refine bJ (bTw s.funs ho.funsT) ?_ ?_;(focus(simp -implicitDefEqProofs (disch:=omega) only[zdA,go_sem,simprocAttr];done)))|(refine bJ (bUa s (by simp only[qZ,List.length_append,eD];omega)) ?_ ?_;(focus(simp -implicitDefEqProofs (disch:=omega) only[zdA,go_sem,simprocAttr];done))));simp -implicitDefEqProofs (disch:=omega) only[go_sem,simprocAttr])|refine bE (by omega) ?_|(intro hr;have hc:=hr;(try simp only[zdz]at hc);simp -implicitDefEqProofs (disch:=omega) only[hr,go_sem,simprocAttr];(try clear hr))));all_goals first|(refine bR ?_ (by rfl);simp only[iH,qT, *,decide_true,decide_false,aS,aT];done)|skip
  (repeat'(first|refine gT ?_ ?_|refine gF ?_ ?_|refine gC ?_ ?_|((first|(refine bJ (aAk s hs (M4 (by assumption) (by assumption) (by assumption))) ?_ ?_;(focus(simp -implicitDefEqProofs (disch:=omega) only[zdA,go_sem,simprocAttr];done)))|(refine bJ (cAr s.below 89 [bQ s] [] (zF s) ho.below uH rfl (fun k hk=>cAq s (s.below.getD k ([],[])) hs)) ?_ ?_;(focus(simp -implicitDefEqProofs (disch:=omega) only[zdA,go_sem,simprocAttr];done)))|(refine bJ (bDg s.values 90 [bQ s] [] (existsA s) ho.values uH rfl (fun k hk=>aEm s (s.values.getD k []))) ?_ ?_;(focus(simp -implicitDefEqProofs (disch:=omega) only[zdA,go_sem,simprocAttr];done)))|(refine bJ (bTm s.ops 92 [bQ s] [] (isOp s) ho.ops uH rfl (fun k hk=>cAp s (s.ops.getD k default) hs (ho.opsO (s.ops.getD k default) (cS hk)))) ?_ ?_;(focus(simp -implicitDefEqProofs (disch:=omega) only[zdA,go_sem,simprocAttr];done)))|(refine bJ (bTm s.funs 93 [bQ s] [] (isFun s) ho.funs uH rfl (fun k hk=>cAo s (s.funs.getD k default) hs (ho.funsO (s.funs.getD k default) (cS hk)))) ?_ ?_;(focus(simp -implicitDefEqProofs (disch:=omega) only[zdA,go_sem,simprocAttr];done))));simp -implicitDefEqProofs (disch:=omega) only[go_sem,simprocAttr])|refine bE (by omega) ?_|(intro hr;have hc:=hr;(try simp only[zdz]at hc);simp -implicitDefEqProofs (disch:=omega) only[hr,go_sem,simprocAttr];(try clear hr))));all_goals first|(refine bR ?_ (by rfl);simp only[iH,qT,sI, *,decide_true,decide_false,aS,aT];done)|skip
  all_goals refine bR ?_ (by rfl)
  all_goals simp only[iH,pT,qT,sI, *,decide_true,bA,aR]
  all_goals(simp;omega)
end Go.Proofs.YtdjcggcjlphdoaaGreatDoor
namespace Go.Proofs.YtdjcggcjlphdoaaGreatDoor
open Go Go.Vo
open Nat (reduceAdd reduceSub reduceMul reduceLeDiff reduceLT reduceEqDiff)
open Int (reduceNeg)
end Go.Proofs.YtdjcggcjlphdoaaGreatDoor
namespace Go.Proofs.YtdjcggcjlphdoaaGreatDoor
open Go Go.Vo
open Nat (reduceAdd reduceSub reduceMul reduceLeDiff reduceLT reduceEqDiff)
open Int (reduceNeg)
def cDi(o:LOp):Nat:=o.args.length+o.pieces.length+o.strict.length
def rK(l:List LOp):Nat:=(l.map cDi).sum
def few(s:dK):Bool:=decide (s.sorts.length≤60)&&decide (s.below.length≤250)&&decide (s.ops.length+s.funs.length≤250)&&decide (s.values.length≤100)&&decide (rK (s.ops++s.funs)≤3000)
@[simp] theorem bWb:rK []=0:=rfl
theorem bGv{s:dK}(h:60<s.sorts.length∨250<s.below.length∨250<s.ops.length+s.funs.length∨100<s.values.length∨3000<rK (s.ops++s.funs)):few s=false:=by
 unfold few;simp only[aJb,decide_eq_false_iff_not];omega
theorem bMu{s:dK}(h:s.sorts.length≤60∧s.below.length≤250∧s.ops.length+s.funs.length≤250∧s.values.length≤100∧rK (s.ops++s.funs)≤3000):few s=true:=by
 unfold few;simp only[aD,decide_eq_true_eq];omega
theorem aOr{l:List LOp}{k:Nat}(h:k<l.length):rK (l.take (k+1))=rK (l.take k)+cDi (l.getD k default):=by
 rw[fI (d:=default) h];simp[rK]
theorem bDz{l:List LOp}{k:Nat}:rK (l.take k)≤rK l:=by
 have h:rK (l.take k++l.drop k)=rK l:=by rw[dU]
 unfold rK at *
 rw[cL,List.sum_append]at h;omega
theorem cAu(s:dK)(hs:OkS s): CT 38 [.agg (dW s)] (.b (few s)):=by
 refine gI (rx:=true) (th:=fun _=>none) dE Tryz.func38 g0 ?_
 ·simp -implicitDefEqProofs (disch:=omega) only[Tryz.f38,go_sem,List.replicate,simprocAttr];have h1:=hs.sorts;have h2:=hs.below;have h3:=hs.ops;have h4:=hs.funs;have h5:=hs.values;(refine zs0 ?_;repeat' first|exact trivial|refine zJ ?_ ?_|refine zH fun hc=>?_);all_goals first|(refine bR ?_ (by rfl);rw[bGv (by omega)];done)|skip
  rw[← List.flatMap_append,← List.length_append];have hL:(s.ops++s.funs).length=s.ops.length+s.funs.length:=List.length_append;have hO:∀x∈s.ops++s.funs,OkO x:=fun x hx=>(cQ.1 hx).elim (hs.opsO x) (hs.funsO x);have hfin:rK (s.ops++s.funs)≤3000→few s=true:=fun h=>bMu ⟨by omega,by omega,by omega,by omega,h⟩;have hfin2:3000<rK (s.ops++s.funs)→few s=false:=fun h=>bGv (by omega);generalize s.ops++s.funs=L at hL hO hfin hfin2;refine lJ (fun(k:Nat)=>(.k::.k::.j::.v (.i .i64 (rK (L.take k):Nat))::.k::.j::(rp 34 .k (.v (.i .i64 k)::(rp 19 .j []))))) (fun k=>[.box false (sgC s),.dead,.arr false 7 (L.flatMap fR)]) (fun k=>k≤L.length∧rK (L.take k)≤3000) (fun k=>L.length-k) (0) _ ⟨bX _,by simp[rK]⟩ rfl (by simp[iS]) ?_;rintro k g j ⟨hk,hb⟩;have ho:k<L.length→(L.getD k default).args.length≤140737488355328∧(L.getD k default).pieces.length≤140737488355328∧(L.getD k default).strict.length≤140737488355328:=fun h=>⟨(hO _ (cS h)).args,(hO _ (cS h)).pieces,(hO _ (cS h)).strict⟩;have hs1:k<L.length→rK (L.take (k+1))=rK (L.take k)+((L.getD k default).args.length+(L.getD k default).pieces.length+(L.getD k default).strict.length):=fun h=>aOr h;have hle:=bDz (l:=L) (k:=k+1);refine zg ?_;(refine zs0 ?_;repeat' first|exact trivial|refine zJ ?_ ?_|refine zH fun hc=>?_)
  ·refine bR ?_ (by rfl);have:=hs1 (by omega);rw[hfin2 (by omega)]
  ·have h1:=hs1 (by omega);refine⟨k+1,_,⟨by omega,by omega⟩,by omega,rfl,?_⟩;rw[h1];simp
  ·refine bR ?_ (by rfl);have hk2:k=L.length:=by omega
   subst hk2;rw[fH]at hb;rw[hfin hb]
end Go.Proofs.YtdjcggcjlphdoaaGreatDoor
namespace Go.Proofs.YtdjcggcjlphdoaaGreatDoor
open Go Go.Vo
open Nat (reduceAdd reduceSub reduceMul reduceLeDiff reduceLT reduceEqDiff)
open Int (reduceNeg)
theorem aUl{α:Type}{l:List α}{i:Nat}{d:α}(h:i<l.length):l.getD i d=l[i]:=by simp[List.getD,h]
end Go.Proofs.YtdjcggcjlphdoaaGreatDoor
namespace Go.Proofs.YtdjcggcjlphdoaaGreatDoor
open Go Go.Vo
open Nat (reduceAdd reduceSub reduceMul reduceLeDiff reduceLT reduceEqDiff)
open Int (reduceNeg)
attribute [go_sem] ite_self aH decide_true decide_false not_true_eq_false not_false_eq_true aA aB
def rX(r:Option LOp):AV:=match r with
 |some o=>.tup [elO o,.b true]
 |none=>.tup [elO default,.b false]
def aPm(s:dK)(x:Str):Option LOp:=s.ops.find? fun o=>decide (o.name=x)
def aDz(s:dK)(x:Str):Option LOp:=s.funs.find? fun o=>decide (o.name=x)
theorem rG{l:List LOp}{x:Str}:((l.map LOp.name).findIdx? fun y=>decide (x=y))=l.findIdx? fun o=>decide (o.name=x):=by
 rw[List.findIdx?_map];congr 1;funext o;simp[eq_comm]
theorem aKx{l:List LOp}{x:Str}:(∃i o,(l.findIdx? fun o=>decide (o.name=x))=some i∧l.find? (fun o=>decide (o.name=x))=some o∧(l.map elO)[i]? = some (elO o))∨((l.findIdx? fun o=>decide (o.name=x))=none∧l.find? (fun o=>decide (o.name=x))=none):=by
 induction l with
 |nil=>right;simp
 |cons a l ih=>
  by_cases h:a.name=x
  ·left;exact⟨0,a,by simp[iO,h],by simp[h],by simp⟩
  ·rcases ih with⟨i,o,h1,h2,h3⟩|⟨h1,h2⟩
   ·left;exact⟨i+1,o,by simp[iO,h,h1],by simp[h,h2],by simpa using h3⟩
   ·right;exact⟨by simp[iO,h,h1],by simp[h,h2]⟩
theorem bTc(s:dK)(x:Str): CT 165 [bQ s,.s x] (rX (aPm s x)):=by
 refine cI dE Tryz.func165 g0 ?_
 ·skip;rcases aKx (l:=s.ops) (x:=x)with⟨i,o,h1,h2,h3⟩|⟨h1,h2⟩
  ·refine zh (zA2 @rG (zA2 h1 h3)) ?_;exact bR (by simp only[rX,aPm,h2];rfl) (by simp only[pers,persL,lU,lN,sR,cX])
  ·refine zh (zA2 @rG h1) ?_;have:rX (aPm s x)=.tup [elO default,.b false]:=by simp only[rX,aPm,h2]
   rw[this];exact .inr ⟨⟨⟨rfl,rfl,rfl,rfl,rfl,rfl,rfl,trivial⟩,rfl,trivial⟩,by decide,fun i hi=>by cases hi⟩
theorem cAn(s:dK)(x:Str): CT 218 [bQ s,.s x] (rX (aDz s x)):=by
 refine cI dE Tryz.func218 g0 ?_
 ·skip;rcases aKx (l:=s.funs) (x:=x)with⟨i,o,h1,h2,h3⟩|⟨h1,h2⟩
  ·refine zh (zA2 @rG (zA2 h1 h3)) ?_;exact bR (by simp only[rX,aDz,h2];rfl) (by simp only[pers,persL,lU,lN,sR,cX])
  ·refine zh (zA2 @rG h1) ?_;have:rX (aDz s x)=.tup [elO default,.b false]:=by simp only[rX,aDz,h2]
   rw[this];exact .inr ⟨⟨⟨rfl,rfl,rfl,rfl,rfl,rfl,rfl,trivial⟩,rfl,trivial⟩,by decide,fun i hi=>by cases hi⟩
end Go.Proofs.YtdjcggcjlphdoaaGreatDoor
namespace Go.Proofs.YtdjcggcjlphdoaaGreatDoor
open Go Go.Vo
open Nat (reduceAdd reduceSub reduceMul reduceLeDiff reduceLT reduceEqDiff)
open Int (reduceNeg)
end Go.Proofs.YtdjcggcjlphdoaaGreatDoor
namespace Go.Proofs.YtdjcggcjlphdoaaGreatDoor
open Go Go.Vo
open Nat (reduceAdd reduceSub reduceMul reduceLeDiff reduceLT reduceEqDiff)
open Int (reduceNeg)
end Go.Proofs.YtdjcggcjlphdoaaGreatDoor
namespace Go.Proofs.YtdjcggcjlphdoaaGreatDoor
open Go Go.Vo
open Nat (reduceAdd reduceSub reduceMul reduceLeDiff reduceLT reduceEqDiff)
open Int (reduceNeg)
end Go.Proofs.YtdjcggcjlphdoaaGreatDoor
namespace Go.Proofs.YtdjcggcjlphdoaaGreatDoor
open Go Go.Vo
open Nat (reduceAdd reduceSub reduceMul reduceLeDiff reduceLT reduceEqDiff)
open Int (reduceNeg)
end Go.Proofs.YtdjcggcjlphdoaaGreatDoor
namespace Go.Proofs.YtdjcggcjlphdoaaGreatDoor
open Go Go.Vo
open Nat (reduceAdd reduceSub reduceMul reduceLeDiff reduceLT reduceEqDiff)
open Int (reduceNeg)
end Go.Proofs.YtdjcggcjlphdoaaGreatDoor
namespace Go.Proofs.YtdjcggcjlphdoaaGreatDoor
open Go Go.Vo
open Nat (reduceAdd reduceSub reduceMul reduceLeDiff reduceLT reduceEqDiff)
open Int (reduceNeg)
end Go.Proofs.YtdjcggcjlphdoaaGreatDoor
namespace Go.Proofs.YtdjcggcjlphdoaaGreatDoor
open Go Go.Vo
open Nat (reduceAdd reduceSub reduceMul reduceLeDiff reduceLT reduceEqDiff)
open Int (reduceNeg)
end Go.Proofs.YtdjcggcjlphdoaaGreatDoor
namespace Go.Proofs.YtdjcggcjlphdoaaGreatDoor
open Go Go.Vo
open Nat (reduceAdd reduceSub reduceMul reduceLeDiff reduceLT reduceEqDiff)
open Int (reduceNeg)
end Go.Proofs.YtdjcggcjlphdoaaGreatDoor
namespace Go.Proofs.YtdjcggcjlphdoaaGreatDoor
open Go Go.Vo
open Nat (reduceAdd reduceSub reduceMul reduceLeDiff reduceLT reduceEqDiff)
open Int (reduceNeg)
end Go.Proofs.YtdjcggcjlphdoaaGreatDoor
namespace Go.Proofs.YtdjcggcjlphdoaaGreatDoor
open Go Go.Vo
open Nat (reduceAdd reduceSub reduceMul reduceLeDiff reduceLT reduceEqDiff)
open Int (reduceNeg)
end Go.Proofs.YtdjcggcjlphdoaaGreatDoor
namespace Go.Proofs.YtdjcggcjlphdoaaGreatDoor
open Go Go.Vo
open Nat (reduceAdd reduceSub reduceMul reduceLeDiff reduceLT reduceEqDiff)
open Int (reduceNeg)
end Go.Proofs.YtdjcggcjlphdoaaGreatDoor
namespace Go.Proofs.YtdjcggcjlphdoaaGreatDoor
open Go Go.Vo
open Nat (reduceAdd reduceSub reduceMul reduceLeDiff reduceLT reduceEqDiff)
open Int (reduceNeg)
end Go.Proofs.YtdjcggcjlphdoaaGreatDoor
namespace Go.Proofs.YtdjcggcjlphdoaaGreatDoor
open Go Go.Vo
open Nat (reduceAdd reduceSub reduceMul reduceLeDiff reduceLT reduceEqDiff)
open Int (reduceNeg)
end Go.Proofs.YtdjcggcjlphdoaaGreatDoor
namespace Go.Proofs.YtdjcggcjlphdoaaGreatDoor
open Go Go.Vo
open Nat (reduceAdd reduceSub reduceMul reduceLeDiff reduceLT reduceEqDiff)
open Int (reduceNeg)
theorem aVf{s:dK}(h:few s=true):Small s:=by
 simp only[few,aD,decide_eq_true_eq]at h;exact⟨by omega,by omega,by omega,by omega,by omega⟩
end Go.Proofs.YtdjcggcjlphdoaaGreatDoor
namespace Go.Proofs.YtdjcggcjlphdoaaGreatDoor
open Go Go.Vo
open Nat (reduceAdd reduceSub reduceMul reduceLeDiff reduceLT reduceEqDiff)
open Int (reduceNeg)
end Go.Proofs.YtdjcggcjlphdoaaGreatDoor
namespace Go.Proofs.YtdjcggcjlphdoaaGreatDoor
open Go Go.Vo
open Nat (reduceAdd reduceSub reduceMul reduceLeDiff reduceLT reduceEqDiff)
open Int (reduceNeg)
theorem aUz{h:List AObj}{b:Bool}:Fin h (.tup [.agg [.s [],.e0,.s [],.e0,.i .i64 0,.i .i64 0,.e0],.b b]) (.tup [elO default,.b b]):=
 .inr ⟨⟨⟨rfl,rfl,rfl,rfl,rfl,rfl,rfl,trivial⟩,rfl,trivial⟩,by simp[elO,fR,dN,finIdsL,avs,avb,avi],by simp[elO,fR,dN,finIdsL,avs,avb,avi]⟩
end Go.Proofs.YtdjcggcjlphdoaaGreatDoor

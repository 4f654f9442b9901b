/-
  Contracts of the library (sorting, fields, a byte in a string) at this program: laid by the kit's tool; no condition.
-/
import Derived.Shelf.Small.Strs
import Derived.Shelf.Strconv.Itoa3
import Derived.Shelf.Strings.Fields
import Derived.Test.YtdjcggcjlphdoaaGreatDoorProg
import Derived.Test.YtdjcggcjlphdoaaGreatDoorSoP52
import Derived.Sort.Walk0
set_option linter.unusedVariables false
set_option maxRecDepth 100000
set_option linter.unusedSimpArgs false
set_option maxHeartbeats 4000000
namespace Go.Proofs
open Go.Shelf
def Tryz.lays137_ren:Go.Shelf.Ren:=⟨fun|137=>255|217=>271|266=>280|n=>n,fun|9=>9|5=>5|3=>3|n=>n,fun|n=>n⟩
theorem Tryz.lays137:Go.Proofs.Lays.n137 Tryz.prog Tryz.lays137_ren:={
 mixed:=by kernel_rfl
 f137:=Tryz.func255.trans (congrArg some (by kernel_rfl))
 f217:=Tryz.func271.trans (congrArg some (by kernel_rfl))
 f266:=Tryz.func280.trans (congrArg some (by kernel_rfl))
 t3:=Tryz.underlying3
 a3:=Tryz.isAgg3
 z3:=Tryz.sizeOf3
 v3:=Tryz.zeroValue3
 t5:=Tryz.underlying5
 a5:=Tryz.isAgg5
 z5:=Tryz.sizeOf5
 v5:=Tryz.zeroValue5
 t9:=Tryz.underlying9
 a9:=Tryz.isAgg9
 z9:=Tryz.sizeOf9
 v9:=Tryz.zeroValue9}
open Go.RowKit in
theorem Tryz.strings_IndexByte(s:ByteArray)(c:Int)(w:World) :
 Calls Tryz.prog 255 #[.string s,.int .u8 c] w fun e w'=>e=.returned (.int .i64 (Lib.indexByte s.data.toList c.toNat.toUInt8))∧w'=w:=Any.strings_IndexByte Tryz.lays137 s c w
def Tryz.lays157_ren:Go.Shelf.Ren:=⟨fun|157=>213|229=>252|199=>253|261=>270|311=>278|312=>279|n=>n,fun|9=>9|31=>22|3=>3|5=>5|4=>4|119=>240|0=>0|40=>242|152=>264|21=>21|154=>266|51=>267|141=>269|196=>278|193=>275|198=>281|49=>279|194=>276|201=>284|226=>287|46=>237|227=>288|n=>n,fun|0=>0|6=>1|n=>n⟩
theorem Tryz.lays157:Go.Proofs.Lays.n157 Tryz.prog Tryz.lays157_ren:={
 mixed:=by kernel_rfl
 f157:=Tryz.func213.trans (congrArg some (by kernel_rfl))
 f199:=Tryz.func253.trans (congrArg some (by kernel_rfl))
 f229:=Tryz.func252.trans (congrArg some (by kernel_rfl))
 f261:=Tryz.func270.trans (congrArg some (by kernel_rfl))
 f311:=Tryz.func278.trans (congrArg some (by kernel_rfl))
 f312:=Tryz.func279.trans (congrArg some (by kernel_rfl))
 t0:=Tryz.underlying0
 a0:=Tryz.isAgg0
 z0:=Tryz.sizeOf0
 v0:=Tryz.zeroValue0
 t3:=Tryz.underlying3
 a3:=Tryz.isAgg3
 z3:=Tryz.sizeOf3
 v3:=Tryz.zeroValue3
 t4:=Tryz.underlying4
 a4:=Tryz.isAgg4
 z4:=Tryz.sizeOf4
 v4:=Tryz.zeroValue4
 t5:=Tryz.underlying5
 a5:=Tryz.isAgg5
 z5:=Tryz.sizeOf5
 v5:=Tryz.zeroValue5
 t9:=Tryz.underlying9
 a9:=Tryz.isAgg9
 z9:=Tryz.sizeOf9
 v9:=Tryz.zeroValue9
 t21:=Tryz.underlying21
 a21:=Tryz.isAgg21
 z21:=Tryz.sizeOf21
 v21:=Tryz.zeroValue21
 t31:=Tryz.underlying22
 a31:=Tryz.isAgg22
 z31:=Tryz.sizeOf22
 v31:=Tryz.zeroValue22
 t40:=Tryz.underlying242
 a40:=Tryz.isAgg242
 z40:=Tryz.sizeOf242
 v40:=Tryz.zeroValue242
 t46:=Tryz.underlying237
 a46:=Tryz.isAgg237
 z46:=Tryz.sizeOf237
 v46:=Tryz.zeroValue237
 t49:=Tryz.underlying279
 a49:=Tryz.isAgg279
 z49:=Tryz.sizeOf279
 v49:=Tryz.zeroValue279
 t51:=Tryz.underlying267
 a51:=Tryz.isAgg267
 z51:=Tryz.sizeOf267
 v51:=Tryz.zeroValue267
 t119:=Tryz.underlying240
 a119:=Tryz.isAgg240
 z119:=Tryz.sizeOf240
 t141:=Tryz.underlying269
 a141:=Tryz.isAgg269
 z141:=Tryz.sizeOf269
 v141:=Tryz.zeroValue269
 t152:=Tryz.underlying264
 a152:=Tryz.isAgg264
 z152:=Tryz.sizeOf264
 v152:=Tryz.zeroValue264
 t154:=Tryz.underlying266
 a154:=Tryz.isAgg266
 z154:=Tryz.sizeOf266
 v154:=Tryz.zeroValue266
 t193:=Tryz.underlying275
 a193:=Tryz.isAgg275
 z193:=Tryz.sizeOf275
 v193:=Tryz.zeroValue275
 t194:=Tryz.underlying276
 a194:=Tryz.isAgg276
 z194:=Tryz.sizeOf276
 v194:=Tryz.zeroValue276
 t196:=Tryz.underlying278
 a196:=Tryz.isAgg278
 z196:=Tryz.sizeOf278
 v196:=Tryz.zeroValue278
 t198:=Tryz.underlying281
 a198:=Tryz.isAgg281
 z198:=Tryz.sizeOf281
 v198:=Tryz.zeroValue281
 t201:=Tryz.underlying284
 a201:=Tryz.isAgg284
 z201:=Tryz.sizeOf284
 v201:=Tryz.zeroValue284
 t226:=Tryz.underlying287
 a226:=Tryz.isAgg287
 z226:=Tryz.sizeOf287
 v226:=Tryz.zeroValue287
 t227:=Tryz.underlying288
 a227:=Tryz.isAgg288
 z227:=Tryz.sizeOf288
 v227:=Tryz.zeroValue288
 g0:=by kernel_rfl
 g6:=by kernel_rfl}
end Go.Proofs
namespace Go.Proofs.YtdjcggcjlphdoaaGreatDoor
open Go Go.Vo
open Nat (reduceAdd reduceSub reduceMul reduceLeDiff reduceLT reduceEqDiff)
open Int (reduceNeg)
theorem bRz(l:List LOp)(hl:l.length≤1172812402961): CT 87 [avo l] (.own 1 ((l.map LOp.name).map .s) l.length):=by
 refine aZ cI Tryz.func87 g0 ?_
 ·skip;refine cO (fun(s:Nat×AV×List AObj)=>(.k::.k::.k::.v (s.2.1)::.k::.j::.k::.k::.v (.i .i64 (s.1:Nat))::(rp 9 .j [.k]))) (fun s=>s.2.2) (fun s=>s.1≤l.length∧gD 1 0 s.2.2 s.2.1 (((l.take s.1).map LOp.name).map .s) s.1) (fun s=>l.length-s.1) ((0,.e0,[])) ⟨aR _,eX⟩ rfl (by simp[fO]) ?_;rintro⟨k,out,g⟩ j ⟨hk,ho⟩;dsimp only at hk ho;refine zg ?_;(refine zs0 ?_;repeat' first|exact trivial|refine zJ ?_ ?_|refine zH fun hc=>?_)
  ·refine eI (pre:=[]) (news:=[.s (l.getD k default).name]) (m:=1) ho rfl rfl bLn zo9 sz9 by9 rfl (by decide) (by simp -implicitDefEqProofs (disch:=omega) only[go_sem,simprocAttr]) (by simp -implicitDefEqProofs (disch:=omega) only[go_sem,simprocAttr]) ⟨by omega,by omega⟩ ?_;intro out' g' ho' _;refine zg ?_;refine⟨(k+1,out',g'),⟨by omega,?_⟩,by simp;omega,rfl,by simp⟩;rw[eZ (d:=default) (by omega),bO,bO];exact ho'
  ·have h1:k=l.length:=by omega
   subst h1;exact L3 (pre:=[]) (by simpa using ho) jW
end Go.Proofs.YtdjcggcjlphdoaaGreatDoor
namespace Go.Proofs.YtdjcggcjlphdoaaGreatDoor
open Go Go.Vo
open Nat (reduceAdd reduceSub reduceMul reduceLeDiff reduceLT reduceEqDiff)
open Int (reduceNeg)
def pQ(x:Str)(L:List Str)(b:Str×Str):List Str:=if b.1=x∧L.contains b.2=false then L++[b.2]else L
def pZ(l:List (Str×Str))(x:Str)(L:List Str):List Str:=l.foldl (pQ x) L
def climbG(l:List (Str×Str)):Nat→Nat→List Str→List Str
 |0,_,L=>L
 |f+1,i,L=>if i<L.length then climbG l f (i+1) (pZ l (L.getD i []) L)else L
def climb(l:List (Str×Str))(a:Str):List Str:=climbG l (l.length+1) 0 [a]
theorem B0(x:Str)(L:List Str)(b:Str×Str):(pQ x L b=L)∨(b.1=x∧L.contains b.2=false∧pQ x L b=L++[b.2]):=by
 unfold pQ;split
 ·rename_i h;exact .inr ⟨h.1,h.2,rfl⟩
 ·exact .inl rfl
structure Climbs(l:List (Str×Str))(a:Str)(L:List Str):Prop where
 nd:L.Nodup
 sub:∀x∈L,x=a∨∃b∈l,b.2=x
 me:a∈L
theorem Climbs.step{l:List (Str×Str)}{a x:Str}{L:List Str}{b:Str×Str}(h:Climbs l a L)(hb:b∈l):Climbs l a (pQ x L b):=by
 rcases B0 x L b with e|⟨_,h2,e⟩
 ·rw[e];exact h
 ·rw[e];refine⟨?_,?_,by simp[h.me]⟩
  ·rw[lQ];refine⟨h.nd,by simp,?_⟩;intro y hy z hz hyz;simp only[bJ]at hz;have:b.2∉L:=by simpa using h2
   exact this (hz▸hyz▸hy)
  ·intro y hy;rcases cJ.1 hy with hy|hy
   ·exact h.sub y hy
   ·simp only[bJ]at hy;exact .inr ⟨b,hb,hy.symm⟩
theorem xN{α:Type}[DecidableEq α]:∀{L M:List α},L.Nodup→(∀x∈L,x∈M)→L.length≤M.length
 | [],M,_,_=>aR _
 |x :: L,M,hn,hs=>by
  rw[kO]at hn;have hx:=hs x (by simp);have:=xN (L:=L) (M:=M.erase x) hn.2 (fun y hy=>by
   have hne:y≠x:=fun e=>hn.1 (e▸hy);exact(List.mem_erase_of_ne hne).2 (hs y (by simp[hy])))
  rw[List.length_erase_of_mem hx]at this;have hpos:0<M.length:=aFn hx;simp only[bB];omega
theorem Climbs.len{l:List (Str×Str)}{a:Str}{L:List Str}(h:Climbs l a L):L.length≤l.length+1:=by
 have:=xN (M:=a::l.map (·.2)) h.nd (fun x hx=>by
  rcases h.sub x hx with h1|⟨b,h1,h2⟩
  ·simp[h1]
  ·simp only[dD,dP];exact .inr ⟨b,h1,h2⟩)
 simpa using this
theorem xE{x:Str}{L:List Str}{b:Str×Str}{i:Nat}(hi:i<L.length):(pQ x L b).getD i []=L.getD i []∧i<(pQ x L b).length:=by
 rcases B0 x L b with e|⟨_,_,e⟩
 ·rw[e];exact⟨rfl,hi⟩
 ·rw[e];simp[List.getD,aG hi];omega
theorem M5{l:List (Str×Str)}{i:Nat}{L:List Str}(h:L.length≤i):∀f,climbG l f i L=L
 |0=>rfl
 |f+1=>by simp only[climbG];rw[if_neg (by omega)]
theorem lS{l:List (Str×Str)}{x:Str}{L:List Str}{k:Nat}(h:k<l.length):pZ (l.take (k+1)) x L=pQ x (pZ (l.take k) x L) (l.getD k ([],[])):=by
 rw[eZ (d:=([],[])) h];simp[pZ,oJ]
structure yY(l:List (Str×Str))(a:Str)(i:Nat)(L:List Str):Prop where
 le:i≤L.length
 c:Climbs l a L
 eq:climbG l (l.length+1-i) i L=climb l a
theorem yY.start(l:List (Str×Str))(a:Str):yY l a 0 [a]:=⟨by simp,⟨by simp,by simp,by simp⟩,rfl⟩
theorem yY.next{l:List (Str×Str)}{a:Str}{i:Nat}{L:List Str}(h:yY l a i L)(hi:i<L.length)(hc:Climbs l a (pZ l (L.getD i []) L))(hl:i<(pZ l (L.getD i []) L).length):yY l a (i+1) (pZ l (L.getD i []) L):=by
 refine⟨hl,hc,?_⟩;have:=h.c.len;have e:l.length+1-i=(l.length+1-(i+1))+1:=by omega
 rw[← h.eq,e,climbG,if_pos hi]
theorem bUf(s:dF)(a:Str)(hb:s.below.length≤1000000): CT 95 [.agg (bX s),.s a] (.own 1 ((climb s.below a).map .s) (climb s.below a).length):=by
 refine aZ cI Tryz.func95 g0 ?_
 ·skip;refine cO (fun(t:Nat×List Str×AV×List AObj)=>(rp 5 .k (.v (t.2.2.1)::.v (.i .i64 (t.1:Nat))::.k::.j::.k::.k::(rp 33 .j [.k])))) (fun t=>.box false (sgC s)::t.2.2.2) (fun t=>yY s.below a t.1 t.2.1∧gD 1 1 t.2.2.2 t.2.2.1 (t.2.1.map .s) t.2.1.length) (fun t=>s.below.length+1-t.1) ((0,[a],.hs 1 0 1 false,[.arr false 1 [.s a]])) ⟨yY.start _ _,.inr ⟨0,rfl,rfl,rfl⟩⟩ rfl (by simp[fO]) ?_;rintro⟨i,L,out,g⟩ j ⟨hI,ho⟩;dsimp only at hI ho;have hlen:=hI.c.len;have hle:=hI.le;rcases ho with⟨_,hnil,_⟩|⟨i0,rfl,hg,_⟩
  ·exfalso;have h1:L=[]:=by simpa using hnil
   have:=hI.c.me;simp[h1]at this
  refine zh hg ?_;(refine zx0 hg ?_;repeat' first|exact trivial|refine zJ ?_ ?_|refine zH fun hc=>?_)
  ·have hcl:i<L.length:=by simpa using hc
   refine cO (fun(t:Nat×List Str×AV×List AObj)=>(rp 5 .k (.v (t.2.2.1)::.k::.k::.j::(rp 11 .k (.v (.i .i64 (t.1:Nat))::(rp 23 .j [.k])))))) (fun t=>.box false (sgC s)::t.2.2.2) (fun t=>t.1≤s.below.length∧t.2.1=pZ (s.below.take t.1) (L.getD i []) L∧Climbs s.below a t.2.1∧(t.2.1.getD i []=L.getD i []∧i<t.2.1.length)∧gD 1 1 t.2.2.2 t.2.2.1 (t.2.1.map .s) t.2.1.length) (fun t=>s.below.length-t.1) ((0,L,.hs (i0+1) 0 L.length false,g)) ⟨aR _,rfl,hI.c,⟨rfl,hcl⟩,.inr ⟨i0,rfl,hg,by simp⟩⟩ rfl (by simp[fO]) ?_;rintro⟨k,M,out,g⟩ j ⟨hk,hM,hc2,⟨hget,hlt⟩,ho⟩;dsimp only at hk hM hc2 hget hlt ho;have hlenM:=hc2.len;have ho1:=ho;rcases ho with⟨_,hnil,_⟩|⟨i1,rfl,hg1,_⟩
   ·exfalso;have h1:M=[]:=by simpa using hnil
    simp[h1]at hlt
   have hi1:=bH hg1;have hg2:∀m,(g++m)[i1]? = some (.arr false 1 (M.map .s)):=fun m=>by rw[aG hi1];exact hg1
   refine zh hg2 ?_;(refine zx1 hg2 (P7 M (s.below.getD k ([],[])).2) ?_;repeat' first|exact trivial|refine zJ ?_ ?_|refine zH fun hc=>?_)
   ·have e:pQ (L.getD i []) M (s.below.getD k ([],[]))=M++[(s.below.getD k ([],[])).2]:=if_pos ⟨by rw[← hget];assumption,hc⟩;have hp:=xE (x:=L.getD i []) (b:=s.below.getD k ([],[])) hlt;have hst:=hc2.step (x:=L.getD i []) (cC (d:=([],[])) (show k<s.below.length by omega));rw[e]at hp hst;refine⟨(k+1,M++[(s.below.getD k ([],[])).2],.hs (g.length+2+1) 0 (M.length+1) false,_),⟨by omega,?_,hst,⟨hp.1.trans hget,hp.2⟩,.inr ⟨g.length+2,by simp,?_,by simp⟩⟩,by simp;omega,rfl,by simp⟩
    ·rw[lS (by omega),← hM,e]
    ·simp
   ·have e:pQ (L.getD i []) M (s.below.getD k ([],[]))=M:=if_neg (by rw[hc];simp);refine⟨(k+1,M,_,_),⟨by omega,?_,hc2,⟨hget,hlt⟩,ho1.more _⟩,by simp;omega,rfl,by simp⟩;rw[lS (by omega),← hM,e]
   ·have e:pQ (L.getD i []) M (s.below.getD k ([],[]))=M:=if_neg (by rw[hget]at hc;exact fun h=>hc h.1);refine⟨(k+1,M,_,_),⟨by omega,?_,hc2,⟨hget,hlt⟩,ho1.more _⟩,by simp;omega,rfl,by simp⟩;rw[lS (by omega),← hM,e]
   ·have h1:s.below.take k=s.below:=aS (by omega);rw[h1]at hM;subst hM;exact⟨(i+1,_,_,_),⟨hI.next hcl hc2 hlt,ho1⟩,by simp;omega,rfl,by simp⟩
  ·have hd:=hI.eq;rw[M5 (by omega)]at hd;subst hd;exact L3 (pre:=[_]) (.inr ⟨i0,rfl,hg,by simp⟩) jW
theorem bGm(s:dF)(a:Str)(hb:s.below.length≤1000000): CT 179 [.agg (bX s),.s a] (.own 1 ((climb s.below a).map .s) (climb s.below a).length):=by
 refine aZ cI Tryz.func179 g0 ?_
 ·skip;refine cO (fun(t:Nat×List Str×AV×List AObj)=>(rp 5 .k (.v (t.2.2.1)::.v (.i .i64 (t.1:Nat))::.k::.j::.k::.k::(rp 33 .j [.k])))) (fun t=>.box false (sgC s)::t.2.2.2) (fun t=>yY s.below a t.1 t.2.1∧gD 1 1 t.2.2.2 t.2.2.1 (t.2.1.map .s) t.2.1.length) (fun t=>s.below.length+1-t.1) ((0,[a],.hs 1 0 1 false,[.arr false 1 [.s a]])) ⟨yY.start _ _,.inr ⟨0,rfl,rfl,rfl⟩⟩ rfl (by simp[fO]) ?_;rintro⟨i,L,out,g⟩ j ⟨hI,ho⟩;dsimp only at hI ho;have hlen:=hI.c.len;have hle:=hI.le;rcases ho with⟨_,hnil,_⟩|⟨i0,rfl,hg,_⟩
  ·exfalso;have h1:L=[]:=by simpa using hnil
   have:=hI.c.me;simp[h1]at this
  refine zh hg ?_;(refine zx0 hg ?_;repeat' first|exact trivial|refine zJ ?_ ?_|refine zH fun hc=>?_)
  ·have hcl:i<L.length:=by simpa using hc
   refine cO (fun(t:Nat×List Str×AV×List AObj)=>(rp 5 .k (.v (t.2.2.1)::.k::.k::.j::(rp 11 .k (.v (.i .i64 (t.1:Nat))::(rp 23 .j [.k])))))) (fun t=>.box false (sgC s)::t.2.2.2) (fun t=>t.1≤s.below.length∧t.2.1=pZ (s.below.take t.1) (L.getD i []) L∧Climbs s.below a t.2.1∧(t.2.1.getD i []=L.getD i []∧i<t.2.1.length)∧gD 1 1 t.2.2.2 t.2.2.1 (t.2.1.map .s) t.2.1.length) (fun t=>s.below.length-t.1) ((0,L,.hs (i0+1) 0 L.length false,g)) ⟨aR _,rfl,hI.c,⟨rfl,hcl⟩,.inr ⟨i0,rfl,hg,by simp⟩⟩ rfl (by simp[fO]) ?_;rintro⟨k,M,out,g⟩ j ⟨hk,hM,hc2,⟨hget,hlt⟩,ho⟩;dsimp only at hk hM hc2 hget hlt ho;have hlenM:=hc2.len;have ho1:=ho;rcases ho with⟨_,hnil,_⟩|⟨i1,rfl,hg1,_⟩
   ·exfalso;have h1:M=[]:=by simpa using hnil
    simp[h1]at hlt
   have hi1:=bH hg1;have hg2:∀m,(g++m)[i1]? = some (.arr false 1 (M.map .s)):=fun m=>by rw[aG hi1];exact hg1
   refine zh hg2 ?_;(refine zx1 hg2 (E2 M (s.below.getD k ([],[])).2) ?_;repeat' first|exact trivial|refine zJ ?_ ?_|refine zH fun hc=>?_)
   ·have e:pQ (L.getD i []) M (s.below.getD k ([],[]))=M++[(s.below.getD k ([],[])).2]:=if_pos ⟨by rw[← hget];assumption,hc⟩;have hp:=xE (x:=L.getD i []) (b:=s.below.getD k ([],[])) hlt;have hst:=hc2.step (x:=L.getD i []) (cC (d:=([],[])) (show k<s.below.length by omega));rw[e]at hp hst;refine⟨(k+1,M++[(s.below.getD k ([],[])).2],.hs (g.length+2+1) 0 (M.length+1) false,_),⟨by omega,?_,hst,⟨hp.1.trans hget,hp.2⟩,.inr ⟨g.length+2,by simp,?_,by simp⟩⟩,by simp;omega,rfl,by simp⟩
    ·rw[lS (by omega),← hM,e]
    ·simp
   ·have e:pQ (L.getD i []) M (s.below.getD k ([],[]))=M:=if_neg (by rw[hc];simp);refine⟨(k+1,M,_,_),⟨by omega,?_,hc2,⟨hget,hlt⟩,ho1.more _⟩,by simp;omega,rfl,by simp⟩;rw[lS (by omega),← hM,e]
   ·have e:pQ (L.getD i []) M (s.below.getD k ([],[]))=M:=if_neg (by rw[hget]at hc;exact fun h=>hc h.1);refine⟨(k+1,M,_,_),⟨by omega,?_,hc2,⟨hget,hlt⟩,ho1.more _⟩,by simp;omega,rfl,by simp⟩;rw[lS (by omega),← hM,e]
   ·have h1:s.below.take k=s.below:=aS (by omega);rw[h1]at hM;subst hM;exact⟨(i+1,_,_,_),⟨hI.next hcl hc2 hlt,ho1⟩,by simp;omega,rfl,by simp⟩
  ·have hd:=hI.eq;rw[M5 (by omega)]at hd;subst hd;exact L3 (pre:=[_]) (.inr ⟨i0,rfl,hg,by simp⟩) jW
end Go.Proofs.YtdjcggcjlphdoaaGreatDoor
namespace Go.Proofs.YtdjcggcjlphdoaaGreatDoor
open Go Go.Vo
open Nat (reduceAdd reduceSub reduceMul reduceLeDiff reduceLT reduceEqDiff)
open Int (reduceNeg)
theorem bPs:(22:Nat)≠3:=by decide
theorem bZs{h:List AObj}:jP Tryz.prog h .cap #[22] [.e0]=some (.i .i64 0,h):=bGp cCz
theorem bVb{dr:Option DR}{d:Option Nat}{os:List fK}{K:List AV→List AObj→Prop}{env:List AV}{h:List AObj}{s x:Operand}:eN Tryz.prog G0 dr (.call ⟨.builtin .append,#[s,x],#[22,3]⟩) d os K env h=aIp Tryz.prog G0 dr (Tryz.prog.underlying 3) (sT Tryz.prog h 22 (aev G0 env s) (aev G0 env x)) d os K env:=I0 bPs
theorem bZr:((0:Nat):Int)=0:=rfl
theorem aJd{a:AV}:∀{n:Nat},(List.replicate n [a]).flatten=List.replicate n a
 |0=>rfl
 |n+1=>by rw[gE,dV,aJd];rfl
attribute [go_sem] bZs bZr Int.sub_zero aJd List.length_replicate false_and aR
attribute [go_sem ↓] bVb
theorem bTt(n:Nat)(hn:n≤1000000): CT 159 [.e0,.i .i64 n] (.own 1 [] 0):=by
 refine aZ cI Tryz.func159 g0 ?_
 ·skip;(refine zs0 ?_;repeat' first|exact trivial|refine zJ ?_ ?_|refine zH fun hc=>?_)
  ·exfalso;omega
  ·rw[if_pos (by omega),if_neg (by omega)];refine zg ?_;exact .inr ⟨⟨rfl,rfl,_,rfl,by simp,by simp,rfl⟩,by simp[cX],by simp[cX,kI]⟩
  ·exact .inr ⟨⟨rfl,rfl⟩,by simp[cX],by simp[cX]⟩
theorem aHc{l:List (List Str)}{k:Nat}(h:k<l.length):(l.map avs)[k]? = some (avs (l.getD k [])):=by simp[h]
attribute [go_sem] aHc
def aBh(l:List (List Str)):Nat:=l.flatten.length
@[simp] theorem bVr:aBh []=0:=rfl
theorem G6{l:List (List Str)}{k:Nat}(h:k<l.length):aBh (l.take (k+1))=aBh (l.take k)+(l.getD k []).length:=by
 rw[eZ (d:=[]) h];simp[aBh]
theorem aQi{l:List (List Str)}{k:Nat}:aBh (l.take k)≤aBh l:=by
 have h:(l.take k++l.drop k).flatten.length=l.flatten.length:=by rw[eQ]
 unfold aBh;rw[A4,List.length_append]at h;omega
theorem aQj{l:List (List Str)}{k:Nat}(h:k<l.length):aBh (l.take k)+(l.getD k []).length≤aBh l:=by
 rw[← G6 h];exact aQi
theorem bUg(l:List (List Str))(hl:l.length≤1000)(hs:aBh l≤1000000): CT 94 [.sl (l.map avs) l.length] (.own 1 (l.flatten.map .s) l.flatten.length):=by
 refine aZ cI Tryz.func94 g0 ?_
 ·skip;refine cO (fun(k:Nat)=>(.k::.k::.k::.v (.i .i64 (aBh (l.take k):Nat))::.k::.j::(rp 5 .k (.v (.i .i64 k)::(rp 11 .j (rp 13 .k [])))))) (fun k=>[]) (fun k=>k≤l.length) (fun k=>l.length-k) (0) (aR _) rfl (by simp[fO]) ?_;rintro k j hk;have hat:k<l.length→aBh (l.take k)+(l.getD k []).length≤aBh l:=aQj;have hkk:=aQi (l:=l) (k:=k);refine zg ?_;(refine zs0 ?_;repeat' first|exact trivial|refine zJ ?_ ?_|refine zH fun hc=>?_)
  ·exfalso;omega
  ·refine⟨k+1,by omega,by omega,?_,by simp⟩;rw[G6 (by omega)];simp
  ·have h1:k=l.length:=by omega
   subst h1;refine bGq (bTt (aBh l) (by omega)) (by simp -implicitDefEqProofs (disch:=omega) only[bHx,go_sem,simprocAttr]) ?_;refine zg ?_;refine cO (fun(t:Nat×AV×List AObj)=>(rp 6 .k (.v (t.2.1)::.k::.j::(rp 18 .k (.v (.i .i64 (t.1:Nat))::(rp 7 .j [.k])))))) (fun t=>t.2.2) (fun t=>t.1≤l.length∧gD 1 0 t.2.2 t.2.1 ((l.take t.1).flatten.map .s) (aBh (l.take t.1))) (fun t=>l.length-t.1) ((0,.hs 0 0 0 false,[.arr false 1 []])) ⟨aR _,.inr ⟨0,rfl,rfl,rfl⟩⟩ rfl (by simp[fO]) ?_;rintro⟨k,out,g⟩ j ⟨hk,ho⟩;dsimp only at hk ho;have hat:k<l.length→aBh (l.take k)+(l.getD k []).length≤aBh l:=aQj;refine zg ?_;(refine zs0 ?_;repeat' first|exact trivial|refine zJ ?_ ?_|refine zH fun hc=>?_)
   ·refine eI (more:=[]) (pre:=[]) (news:=(l.getD k []).map .s) (m:=(l.getD k []).length) ho rfl (by simp) bLn zo9 sz9 by9 rfl (by decide) (by simp -implicitDefEqProofs (disch:=omega) only[go_sem,simprocAttr]) (by simp -implicitDefEqProofs (disch:=omega) only[go_sem,simprocAttr]) ⟨by omega,by omega⟩ ?_;intro out' g' ho' _;refine zg ?_;refine⟨(k+1,out',g'),⟨by omega,?_⟩,by simp;omega,rfl,by simp⟩;dsimp only;rw[G6 (by omega),eZ (d:=[]) (by omega),A4,bO];simpa using ho'
   ·have h1:k=l.length:=by omega
    subst h1;rw[fR]at ho;exact L3 (pre:=[]) ho jW
end Go.Proofs.YtdjcggcjlphdoaaGreatDoor
namespace Go.Proofs.YtdjcggcjlphdoaaGreatDoor
open Go Go.Vo
open Nat (reduceAdd reduceSub reduceMul reduceLeDiff reduceLT reduceEqDiff)
open Int (reduceNeg)
structure Small(s:dF):Prop where
 sorts:s.sorts.length≤100
 below:s.below.length≤1000
 ops:s.ops.length≤1000
 funs:s.funs.length≤1000
 values:s.values.length≤1000
def keysOf(s:dF):List Str:=iD++s.sorts
def ups(s:dF)(a:Str):AV:=avs (climb s.below a)
def aBa(s:dF):AV:=.mapv ((keysOf s).map .s) ((keysOf s).map (ups s))
def aZq(l:List LOp):AV:=.mapv ((l.map LOp.name).map .s) (l.map elO)
def eP(s:dF):List AV:=bX s++[aBa s,aZq s.ops,aZq s.funs]
def cD(s:dF):AV:=.box (eP s) 0
structure aBf(s:dF):Prop where
 keys:(keysOf s).Nodup
 ops:(s.ops.map LOp.name).Nodup
 funs:(s.funs.map LOp.name).Nodup
theorem I4{s:dF}:∀{l:List Str},persL (l.map (ups s))=true
 | []=>rfl
 |x::l=>by simp only[aK,persL,ups,I7,I4,dW]
theorem I6:∀{l:List LOp},persL (l.map elO)=true
 | []=>rfl
 |x::l=>by simp[elO,persL,pers,bG,avs,avi,avb,jW,rV,jR,I6]
attribute [go_sem] I4 I6
theorem aEr(s:dF)(hs:Small s)(hd:aBf s): CT 45 [.agg (bX s)] (cD s):=by
 refine aZ cI Tryz.func45 g0 ?_
 ·skip;have h1:=hs.sorts;have h2:=hs.below;have h3:=hs.ops;have h4:=hs.funs;(repeat'(first|refine gT ?_ ?_|refine gF ?_ ?_|refine gC ?_ ?_|(refine cE (bSe) ?_;simp -implicitDefEqProofs (disch:=omega) only[go_sem,simprocAttr])|refine aU (by omega) ?_|(intro hr;have hc:=hr;(try simp only[zdz]at hc);simp -implicitDefEqProofs (disch:=omega) only[hr,go_sem,simprocAttr];(try clear hr))));refine bM (bUg [iD,s.sorts] (by simp) ?_) ?_ ?_
  ·simp[aBh,iD];omega
  ·simp -implicitDefEqProofs (disch:=omega) only[iD,go_sem,simprocAttr]
  ·simp -implicitDefEqProofs (disch:=omega) only[go_sem,simprocAttr];have hK:[iD,s.sorts].flatten=keysOf s:=by simp[keysOf]
   have hKl:(keysOf s).length≤107:=by simp[keysOf,iD];omega
   rw[hK];refine gW (fun(k:Nat)=>(rp 5 .k (.j::(rp 16 .k (.v (.i .i64 k)::(rp 12 .j (rp 31 .k []))))))) (fun k=>[.box false (sgC s),.map false (((keysOf s).take k).map .s) (((keysOf s).take k).map (ups s)),.map false [] [],.map false [] [],.box false [.sl (s.sorts.map .s) s.sorts.length,.sl (s.below.flatMap bZ) s.below.length,.sl (s.ops.flatMap bG) s.ops.length,.sl (s.funs.flatMap bG) s.funs.length,.sl (s.values.map .s) s.values.length,.mp 1,.mp 2,.mp 3],.arr false 1 (iD.map .s),.arr false 1 [.hs 5 0 iD.length false,.sl (s.sorts.map .s) s.sorts.length],.arr false 1 ((keysOf s).map .s)]) (fun k=>k≤(keysOf s).length) (fun k=>(keysOf s).length-k) (0) _ (aR _) rfl (by simp[fO]) ?_;rintro k g j hk;simp -implicitDefEqProofs (disch:=omega) only[go_sem,simprocAttr];(repeat'(first|refine gT ?_ ?_|refine gF ?_ ?_|refine gC ?_ ?_|refine aU (by omega) ?_|(intro hr;have hc:=hr;(try simp only[zdz]at hc);simp -implicitDefEqProofs (disch:=omega) only[hr,go_sem,simprocAttr];(try clear hr))))
   ·refine bM (bUf s ((keysOf s).getD k []) (by omega)) ?_ ?_
    ·simp -implicitDefEqProofs (disch:=omega) only[go_sem,simprocAttr]
    ·have hno:=oU (oS (d:=[]) hd.keys (show k<(keysOf s).length by omega));simp -implicitDefEqProofs (disch:=omega) only[kH,D8,hno,go_sem,simprocAttr];refine⟨k+1,_,by omega,by omega,congr (congrArg List.cons rfl) (congr (congrArg List.cons ?_) rfl),by simp⟩;rw[eZ (d:=[]) (by omega),bO,bO];rfl
   ·have hk2:k=(keysOf s).length:=by omega
    subst hk2;refine gW (fun(k:Nat)=>(rp 7 .k (.j::(rp 30 .k (.v (.i .i64 k)::(rp 11 .j (rp 16 .k []))))))) (fun k=>[.box false (sgC s),.map false ((keysOf s).map .s) ((keysOf s).map (ups s)),.map false (((s.ops.take k).map LOp.name).map .s) ((s.ops.take k).map elO),.map false [] [],.box false [.sl (s.sorts.map .s) s.sorts.length,.sl (s.below.flatMap bZ) s.below.length,.sl (s.ops.flatMap bG) s.ops.length,.sl (s.funs.flatMap bG) s.funs.length,.sl (s.values.map .s) s.values.length,.mp 1,.mp 2,.mp 3],.arr false 1 (iD.map .s),.arr false 1 [.hs 5 0 iD.length false,.sl (s.sorts.map .s) s.sorts.length],.arr false 1 ((keysOf s).map .s)]) (fun k=>k≤s.ops.length) (fun k=>s.ops.length-k) (0) _ (aR _) rfl (by simp[fO]) ?_;rintro k g j hk;simp -implicitDefEqProofs (disch:=omega) only[go_sem,simprocAttr];(repeat'(first|refine gT ?_ ?_|refine gF ?_ ?_|refine gC ?_ ?_|refine aU (by omega) ?_|(intro hr;have hc:=hr;(try simp only[zdz]at hc);simp -implicitDefEqProofs (disch:=omega) only[hr,go_sem,simprocAttr];(try clear hr))))
    ·have hkn:(s.ops.getD k default).name=(s.ops.map LOp.name).getD k []:=by simp[List.getD,show k<s.ops.length by omega]
     have hno:=oU (oS (d:=[]) hd.ops (show k<(s.ops.map LOp.name).length by simp;omega));rw[← hkn,← List.map_take]at hno;simp -implicitDefEqProofs (disch:=omega) only[kH,D8,hno,go_sem,simprocAttr];refine⟨k+1,_,by omega,by omega,congr (congrArg List.cons rfl) (congr (congrArg List.cons rfl) (congr (congrArg List.cons ?_) rfl)),by simp⟩;rw[eZ (d:=default) (by omega),bO,bO,bO];rfl
    ·have hk2:k=s.ops.length:=by omega
     subst hk2;refine gW (fun(k:Nat)=>(rp 9 .k (.j::(rp 43 .k (.v (.i .i64 k)::(rp 11 .j [.k])))))) (fun k=>[.box false (sgC s),.map false ((keysOf s).map .s) ((keysOf s).map (ups s)),.map false ((s.ops.map LOp.name).map .s) (s.ops.map elO),.map false (((s.funs.take k).map LOp.name).map .s) ((s.funs.take k).map elO),.box false [.sl (s.sorts.map .s) s.sorts.length,.sl (s.below.flatMap bZ) s.below.length,.sl (s.ops.flatMap bG) s.ops.length,.sl (s.funs.flatMap bG) s.funs.length,.sl (s.values.map .s) s.values.length,.mp 1,.mp 2,.mp 3],.arr false 1 (iD.map .s),.arr false 1 [.hs 5 0 iD.length false,.sl (s.sorts.map .s) s.sorts.length],.arr false 1 ((keysOf s).map .s)]) (fun k=>k≤s.funs.length) (fun k=>s.funs.length-k) (0) _ (aR _) rfl (by simp[fO]) ?_;rintro k g j hk;simp -implicitDefEqProofs (disch:=omega) only[go_sem,simprocAttr];(repeat'(first|refine gT ?_ ?_|refine gF ?_ ?_|refine gC ?_ ?_|refine aU (by omega) ?_|(intro hr;have hc:=hr;(try simp only[zdz]at hc);simp -implicitDefEqProofs (disch:=omega) only[hr,go_sem,simprocAttr];(try clear hr))))
     ·have hkn:(s.funs.getD k default).name=(s.funs.map LOp.name).getD k []:=by simp[List.getD,show k<s.funs.length by omega]
      have hno:=oU (oS (d:=[]) hd.funs (show k<(s.funs.map LOp.name).length by simp;omega));rw[← hkn,← List.map_take]at hno;simp -implicitDefEqProofs (disch:=omega) only[kH,D8,hno,go_sem,simprocAttr];refine⟨k+1,_,by omega,by omega,congr (congrArg List.cons rfl) (congr (congrArg List.cons rfl) (congr (congrArg List.cons rfl) (congr (congrArg List.cons ?_) rfl))),by simp⟩;rw[eZ (d:=default) (by omega),bO,bO,bO];rfl
     ·refine .inr ⟨?_,by simp[cX,cD],by simp[cX,cD]⟩;simp only[cD,pI];simp -implicitDefEqProofs (disch:=omega) only[eP,aBa,aZq,go_sem,simprocAttr]
end Go.Proofs.YtdjcggcjlphdoaaGreatDoor
namespace Go.Proofs.YtdjcggcjlphdoaaGreatDoor
open Go Go.Vo
open Nat (reduceAdd reduceSub reduceMul reduceLeDiff reduceLT reduceEqDiff)
open Int (reduceNeg)
theorem vQ{l:List (Str×Str)}{a x:Str}:∀(m:List (Str×Str)) (L:List Str),(∀b∈m,b∈l)→Climbs l a L→Climbs l a (pZ m x L)
 | [],L,_,h=>h
 |b::m,L,hm,h=>vQ m _ (fun c hc=>hm c (by simp[hc])) (h.step (hm b (by simp)))
theorem yK{l:List (Str×Str)}{a:Str}:∀(f i:Nat) (L:List Str),Climbs l a L→Climbs l a (climbG l f i L)
 |0,i,L,h=>h
 |f+1,i,L,h=>by
  simp only[climbG];split
  ·exact yK f _ _ (vQ l L (fun _ h=>h) h)
  ·exact h
theorem aEu(l:List (Str×Str))(a:Str):Climbs l a (climb l a):=yK _ _ _ ⟨by simp,by simp,by simp⟩
theorem yJ(l:List (Str×Str))(a:Str):(climb l a).length≤l.length+1:=(aEu l a).len
theorem Y2{l:List Str}{x:Str}(h:l.contains x=true):∃i,(l.findIdx? fun y=>decide (x=y))=some i∧∀{β:Type} (f:Str→β),(l.map f)[i]? = some (f x):=by
 cases hf:l.findIdx? fun y=>decide (x=y)with
 |none=>
  rw[fF]at hf;have hm:x∈l:=by simpa using h
  have:=hf x hm;simp at this
 |some i=>
  rw[iJ]at hf;obtain⟨hi,hx,_⟩:=hf;have hx:x=l[i]:=by simpa using hx
  exact⟨i,rfl,fun f=>by simp[hi,← hx]⟩
attribute [go_sem] kH D8
theorem aVu{s:dF}:(eP s)[0]? = some (avs s.sorts):=rfl
theorem aVt{s:dF}:(eP s)[5]? = some (.mapv ((keysOf s).map .s) ((keysOf s).map (ups s))):=rfl
theorem aVs{s:dF}:(eP s)[6]? = some (.mapv ((s.ops.map LOp.name).map .s) (s.ops.map elO)):=rfl
theorem aVr{s:dF}:(eP s)[7]? = some (.mapv ((s.funs.map LOp.name).map .s) (s.funs.map elO)):=rfl
attribute [go_sem] cD aVu aVt aVs aVr
def existsA(s:dF)(a:Str):Bool:=(keysOf s).contains a
theorem qS{s:dF}:pers (cD s)=true:=by
 simp only[cD,eP,pers,persL,bX,avs,avb,avo,aH,aJ,jW,jR,E8,aBa,aZq,I4,I6,dW]
theorem aNm{s:dF}:persL (eP s)=true:=by
 have:=qS (s:=s);simpa[cD,pers]using this
attribute [go_sem] aNm
theorem aEp(s:dF)(x:Str): CT 90 [cD s,.s x] (.b (existsA s x)):=by
 refine aZ cI Tryz.func90 g0 ?_
 ·skip;by_cases hx:(keysOf s).contains x=true
  ·obtain⟨i,hf,hv⟩:=Y2 hx;simp -implicitDefEqProofs (disch:=omega) only[hf,hv,go_sem,simprocAttr];exact aV (by rw[existsA,hx]) rfl
  ·have hx:=cT.2 hx;refine zh (uZ hx) ?_;exact aV (by rw[existsA,hx]) rfl
def rG:Str:=[65,110,121]
def aFl(s:dF)(x:Str):List Str:=if existsA s x then climb s.below x else []
def mP(s:dF)(x y:Str):Bool:=decide (y=rG)||(aFl s x).contains y
theorem aOf(s:dF)(x y:Str)(hs:Small s): CT 118 [cD s,.s x,.s y] (.b (mP s x y)):=by
 refine aZ cI Tryz.func118 g0 ?_
 ·skip;have hl:=yJ s.below x;have h2:=hs.below;by_cases hx:(keysOf s).contains x=true
  ·obtain⟨i,hf,hv⟩:=Y2 hx;(repeat'(first|refine gT ?_ ?_|refine gF ?_ ?_|refine gC ?_ ?_|(refine cE (P7 (climb s.below x) y (by omega)) ?_;simp -implicitDefEqProofs (disch:=omega) only[hf,hv,ups,go_sem,simprocAttr])|refine aU (by omega) ?_|(intro hr;have hc:=hr;(try simp only[zdz]at hc);simp -implicitDefEqProofs (disch:=omega) only[hr,hf,hv,ups,go_sem,simprocAttr];(try clear hr))));all_goals(refine aV ?_ (by rfl))
   all_goals simp_all[mP,aFl,existsA,rG]
  ·have hx:=cT.2 hx;(refine zx1 (uZ hx) (P7 [] y (by simp)) ?_;repeat' first|exact trivial|refine zJ ?_ ?_|refine zH fun hc=>?_);all_goals(refine aV ?_ (by rfl))
   all_goals simp_all[mP,aFl,existsA,rG]
def aSr(s:dF)(x y:Str):Bool:=mP s x y||mP s y x
theorem bZc(s:dF)(x y:Str)(hs:Small s): CT 161 [cD s,.s x,.s y] (.b (aSr s x y)):=by
 refine aZ cI Tryz.func161 g0 ?_
 ·skip;(refine zs2 (aOf s x y hs) (aOf s y x hs) ?_;repeat' first|exact trivial|refine zJ ?_ ?_|refine zH fun hc=>?_);all_goals(refine aV ?_ (by rfl))
  all_goals simp_all[aSr]
end Go.Proofs.YtdjcggcjlphdoaaGreatDoor
namespace Go.Proofs.YtdjcggcjlphdoaaGreatDoor
open Go Go.Vo
open Nat (reduceAdd reduceSub reduceMul reduceLeDiff reduceLT reduceEqDiff)
open Int (reduceNeg)
def aHn(s:Str)(c:Int):Int:=Lib.indexByte s c.toNat.toUInt8
def aLp:Str:=[97,100,100,32,115,117,98,32,109,117,108,32,100,105,118,32,109,111,100,32,110,101,103,32,108,116,32,108,101,32,103,116,32,103,101,32,101,113,32,110,101,32,97,110,100,32,111,114,32,110,111,116,32,112,105,99,107,32,99,97,116,32,108,101,110,103,116,104,32,116,101,120,116,32,106,111,105,110,32,103,101,116,32,112,117,116,32,104,97,115,32,100,101,108,32,107,101,121,115,32,115,105,122,101,32,105,115,32,105,115,118,97,108,117,101]
def N2:List Str:=Lib.fields aLp
theorem cAl{X:Ctx}{w:World}{h:List AObj}{l:Str}{v:Value}(r:RV X w h (.s l) v):v=.string ⟨l.toArray⟩:=by
 cases r with
 |s=>rfl
 |dead hr _ _=>simp[AV.refs]at hr
theorem bOb{vs:Array Value}(h:2=vs.size):∃a b,vs = #[a,b]:=by
 match vs,h with
 |⟨[a,b]⟩,_=>exact⟨a,b,rfl⟩
theorem bPn{vs:Array Value}(h:1=vs.size):∃a,vs = #[a]:=by
 match vs,h with
 |⟨[a]⟩,_=>exact⟨a,rfl⟩
theorem bTk(s:Str)(c:Int):CT 255 [.s s,.i .u8 c] (.i .i64 (aHn s c)):=by
 refine⟨by kernel_rfl,g0,?_⟩;intro F w vs hF hgl hl hr;obtain⟨v0,v1,rfl⟩:=bOb hl;have h0:=cAl (hr 0 _ v0 rfl rfl);have h1:=tX (hr 1 _ v1 rfl rfl);subst h0 h1;refine(Tryz.strings_IndexByte ⟨s.toArray⟩ c w).mono ?_;rintro e w' ⟨rfl,rfl⟩;exact⟨_,F,[],rfl,.refl _,fun _ h=>h,fun _ h=>.inl h,hF,RR.val (.i _ _),eM,by simp⟩
theorem bCu{F:Nat→Prop}{w:World}{g:Nat}{cells:List AV}(r:RV (.none F) w [] (.box cells 0) (.pointer (some ⟨g,0,Option.none⟩))){j:Nat}{k:IntKind}{n:Int}(h:cells[j]? = some (.i k n)):w.cell? ⟨g,j,none⟩=some (.int k n):=by
 generalize hv:Value.pointer (some ⟨g,0,Option.none⟩)=v at r;cases r with
 | @box _ _ b o cs T fr hF hb hl h1 hr=>
   simp only[Value.pointer.injEq,aA,Addr.mk.injEq,and_true]at hv;obtain⟨rfl,h0⟩:=hv;have ho:o=0:=by omega
   subst ho;have hj:=bH h;have hc:cs[0+j]? = some cs[0+j]:=bV (by omega);have:=tX (hr j _ _ h hc);simp only[dU]at this hc;simp[World.cell?,hb,hc,this]
 |dead hr hd _=>simp[AV.refs]at hr
theorem aOw{F:Nat→Prop}{w:World}(hgl:∀k a,G0 k=some a→GRel (.none F) w [] k a)(c:Nat)(hc:c<256):w.cell? ⟨0,c,none⟩=some (.int .u8 (if Lib.isSp (UInt8.ofNat c)then 1 else 0)):=by
 have r:=(hgl 0 (.box zV 0) rfl).1;refine bCu r ?_;have h:=Lib.asciiSpaceTab_at c hc;have hl:=Lib.asciiSpaceTab_length;rw[← h];exact aDk (by omega)
theorem bZa(s:Str)(hs:s.length≤4000000000)(ha:s.all (fun b=>decide (b.toNat<128))=true):CT 213 [.s s] (.own 1 ((Lib.fields s).map .s) (Lib.fields s).length):=by
 refine⟨by kernel_rfl,g0,?_⟩;intro F w vs hF hgl hl hr;obtain⟨v0,rfl⟩:=bPn hl;have h0:=cAl (hr 0 _ v0 rfl rfl);subst h0;refine(Any.strings_Fields_core Tryz.lays157 (by kernel_rfl) ⟨s.toArray⟩ w (by simp[ByteArray.size];omega) (fun j b hj=>?_) (fun c hc=>aOw hgl c hc)).mono ?_
 ·have hm:=dN hj;have:=bF.1 ha b hm;simpa using this
 ·rintro e w' ⟨rfl,rfl⟩;refine⟨_,F,[w.heap.size],rfl,(gN.alloc _ _).grew,fun _ h=>h,fun _ h=>.inl h,fun b hb=>fZ (hF b hb) (gN.alloc w _).grew.size,?_,by simp,?_⟩
  ·refine .inl ⟨w.heap.size,0,_,_,(Lib.fields s).length,rfl,rfl,(gN.alloc _ _).at,by simp,bT _,by simp,?_,?_⟩
   ·intro j v hv;simp at hv;obtain⟨x,_,rfl⟩:=hv;rfl
   ·intro j a v ha hv;simp at ha hv;obtain⟨x,h1,rfl⟩:=ha;obtain⟨y,h2,rfl⟩:=hv;rw[h1]at h2;cases h2;exact .s _
  ·intro b hb;simp only[bJ]at hb;subst hb;refine⟨fun f=>?_,bT _⟩;have:=hF _ f;omega
end Go.Proofs.YtdjcggcjlphdoaaGreatDoor
namespace Go.Proofs.YtdjcggcjlphdoaaGreatDoor
open Go Go.Vo
open Nat (reduceAdd reduceSub reduceMul reduceLeDiff reduceLT reduceEqDiff)
open Int (reduceNeg)
theorem aOq:N2.length=28:=by decide +kernel
theorem bCt(s:Str):N2.contains s=jO.contains s:=by
 have h1:N2.all (fun x=>jO.contains x)=true:=by decide +kernel
 have h2:jO.all (fun x=>N2.contains x)=true:=by decide +kernel
 rw[dK];simp only[bF]at h1 h2;exact⟨fun h=>h1 s (by simpa using h),fun h=>h2 s (by simpa using h)⟩
theorem bRe:CT 213 [.s [97,100,100,32,115,117,98,32,109,117,108,32,100,105,118,32,109,111,100,32,110,101,103,32,108,116,32,108,101,32,103,116,32,103,101,32,101,113,32,110,101,32,97,110,100,32,111,114,32,110,111,116,32,112,105,99,107,32,99,97,116,32,108,101,110,103,116,104,32,116,101,120,116,32,106,111,105,110,32,103,101,116,32,112,117,116,32,104,97,115,32,100,101,108,32,107,101,121,115,32,115,105,122,101,32,105,115,32,105,115,118,97,108,117,101]] (.own 1 (N2.map .s) N2.length):=bZa aLp (by decide) (by decide +kernel)
theorem bLt(s:Str): CT 154 [.s s] (.b (jO.contains s)):=by
 refine aZ cI Tryz.func154 g0 ?_
 ·skip;refine bM bRe (by rfl) ?_;refine zg ?_;(refine zs1 (P7 N2 s (by rw[aOq];omega)) ?_;repeat' first|exact trivial|refine zJ ?_ ?_|refine zH fun hc=>?_);refine aV ?_ (by rfl);rw[bCt]
def rY(s:dF)(x:Str×Str):Bool:=decide (x.1≠rG)&&existsA s x.1&&s.sorts.contains x.2 && !(aFl s x.2).contains x.1
theorem bZj(s:dF)(x:Str×Str)(hs:Small s): CT 89 [cD s,elB x] (.b (rY s x)):=by
 refine aZ cI Tryz.func89 g0 ?_
 ·skip;have hl:=yJ s.below x.2;have h2:=hs.below;have h1:=hs.sorts;by_cases hx:(keysOf s).contains x.2=true
  ·obtain⟨i,hf,hv⟩:=Y2 hx;(repeat'(first|refine gT ?_ ?_|refine gF ?_ ?_|refine gC ?_ ?_|((first|(refine bM (aEp s x.1) ?_ ?_;(focus(simp -implicitDefEqProofs (disch:=omega) only[hf,hv,ups,zdA,go_sem,simprocAttr];done)))|(refine bM (P7 s.sorts x.2 (by omega)) ?_ ?_;(focus(simp -implicitDefEqProofs (disch:=omega) only[hf,hv,ups,zdA,go_sem,simprocAttr];done)))|(refine bM (P7 (climb s.below x.2) x.1 (by omega)) ?_ ?_;(focus(simp -implicitDefEqProofs (disch:=omega) only[hf,hv,ups,zdA,go_sem,simprocAttr];done))));simp -implicitDefEqProofs (disch:=omega) only[hf,hv,ups,go_sem,simprocAttr])|refine aU (by omega) ?_|(intro hr;have hc:=hr;(try simp only[zdz]at hc);simp -implicitDefEqProofs (disch:=omega) only[hr,hf,hv,ups,go_sem,simprocAttr];(try clear hr))));all_goals(refine aV ?_ (by rfl))
   all_goals(simp_all[rY,aFl,existsA,rG])
  ·have hx:=cT.2 hx;(refine zx3 (uZ hx) (aEp s x.1) (P7 s.sorts x.2) (P7 [] x.1 (by simp)) ?_;repeat' first|exact trivial|refine zJ ?_ ?_|refine zH fun hc=>?_);all_goals(refine aV ?_ (by rfl))
   all_goals(simp_all[rY,aFl,existsA,rG])
end Go.Proofs.YtdjcggcjlphdoaaGreatDoor
namespace Go.Proofs.YtdjcggcjlphdoaaGreatDoor
open Go Go.Vo
open Nat (reduceAdd reduceSub reduceMul reduceLeDiff reduceLT reduceEqDiff)
open Int (reduceNeg)
def oC(n:Int):Bool := !(decide (n<33)||decide (126<n)||part n||(decide (n=34)||decide (n=39)||decide (n=92)))
def xX(s:Str):Bool:=decide (1≤s.length)&&decide (s.length≤20)&&s.all fun c=>oC c.toNat
theorem aLt(s:Str)(k:Nat):0≤at_ s k∧at_ s k<256:=by
 unfold at_;have:=(s.getD k 0).toNat_lt;omega
theorem cEz(s:Str)(k:Nat):decide (0≤aHn [34,39,92] (at_ s k))=(decide (at_ s k=34)||decide (at_ s k=39)||decide (at_ s k=92)):=by
 have h:∀n:Nat,n<256→decide (0≤aHn [34,39,92] (n:Int))=(decide ((n:Int)=34)||decide ((n:Int)=39)||decide ((n:Int)=92)):=by decide +kernel
 exact h _ (s.getD k 0).toNat_lt
theorem bTo(s:Str)(hs:s.length≤140737488355328): CT 216 [.s s] (.b (xX s)):=by
 refine aZ cI Tryz.func216 g0 ?_
 ·skip;(refine zs0 ?_;repeat' first|exact trivial|refine zJ ?_ ?_|refine zH fun hc=>?_);any_goals(refine aV ?_ (by rfl);simp_all[xX]<;>omega)
  refine cO (fun(k:Nat)=>(.k::.k::.j::.j::.j::(rp 9 .k (.v (.i .i64 k)::(rp 21 .j []))))) (fun k=>[]) (fun k=>k≤s.length∧∀j,j<k→oC (at_ s j)=true) (fun k=>s.length-k) (0) ⟨aR _,fun j h=>by omega⟩ rfl (by simp[fO]) ?_;rintro k j ⟨hk,ha⟩;have hr:=aLt s k;have h3:=cEz s k;simp only[at_]at h3 hr;refine zg ?_;(refine zx2 h3 bRc (bTk [34,39,92] ((s.getD k 0).toNat:Int)) ?_;repeat' first|exact trivial|refine zJ ?_ ?_|refine zH fun hc=>?_)
  ·refine aV ?_ (by rfl);have h4:=h3.symm.trans (zt hc);rw[xX,mT (j:=k) (by omega) (by simp only[oC,at_,h4,aY,Bool.not_true]),Bool.and_false]
  ·have h4:=h3.symm.trans (zf hc);exact⟨k+1,⟨by omega,cR ha (by simp only[oC,at_,h4,aF];simp_all)⟩,by omega,by simp⟩
  ·refine aV ?_ (by rfl);rw[xX,mT (j:=k) (by omega) (by simp only[oC,at_,hc,aY,aX,Bool.not_true]),Bool.and_false]
  ·refine aV ?_ (by rfl);rw[xX,mT (j:=k) (by omega) (by simp only[oC,at_,hc,decide_true,aY,aX,Bool.not_true]),Bool.and_false]
  ·refine aV ?_ (by rfl);rw[xX,mT (j:=k) (by omega) (by simp only[oC,at_,hc,decide_true,aY,aX,Bool.not_true]),Bool.and_false]
  ·refine aV ?_ (by rfl);have h1:k=s.length:=by omega
   rw[xX,aMl (h1▸ha)];simp;omega
def oQ(t:Str):Bool:=xX t||eK t&&decide (t.length≤20)
def qR(p:Str×Str):Bool:=decide (decide (p.2=[])=oQ p.1) && !(!decide (p.2=[]) && !decide (p.1=[]))
def pB(l:List (Str×Str)):List Str:=(l.filter fun p => !decide (p.2=[])).map (·.2)
def rO(o:LOp):Bool:=o.pieces.isEmpty||(o.pieces.all qR&&decide (o.pieces.length≤20)&&decide (pB o.pieces=o.args))
theorem pA{l:List (Str×Str)}{k:Nat}(h:k<l.length):pB (l.take (k+1))=pB (l.take k)++(if(l.getD k ([],[])).2=[]then []else [(l.getD k ([],[])).2]):=by
 rw[eZ (d:=([],[])) h];simp only[pB,F8,bO];congr 1;by_cases h2:(l.getD k ([],[])).2=[]
 ·rw[if_pos h2,List.filter_cons_of_neg (by simp only[h2];decide)];rfl
 ·rw[if_neg h2,List.filter_cons_of_pos (by simp only[h2];decide)];rfl
theorem vG{l:List (Str×Str)}:(pB l).length≤l.length:=by
 unfold pB;rw[cZ];exact List.length_filter_le _ _
theorem oI{n:Nat}:((n:Int)≤20)↔n≤20:=by omega
theorem aMx{o:LOp}{k:Nat}(hk:k<o.pieces.length)(h:qR (o.pieces.getD k ([],[]))=false):rO o=false:=by
 have h1:o.pieces.all qR=false:=gM hk h;have h2:o.pieces ≠ []:=fun e=>by simp[e]at hk
 simp[rO,h1,h2]
theorem bTx(o:LOp)(ho:OkO o): CT 158 [elO o] (.b (rO o)):=by
 refine aZ cI Tryz.func158 g0 ?_
 ·skip;have hp:=ho.piecesT;have hx:=ho.args;(refine zs0 ?_;repeat' first|exact trivial|refine zJ ?_ ?_|refine zH fun hc=>?_)
  ·refine aV ?_ (by rfl);have:o.pieces=[]:=List.eq_nil_of_length_eq_zero (by omega);simp[rO,this]
  ·refine cO (fun(s:Nat×AV×List AObj)=>(.k::.k::.j::.v (s.2.1)::.k::.j::.j::(rp 7 .k (.v (.i .i64 (s.1:Nat))::(rp 41 .j (rp 10 .k [])))))) (fun s=>.box false (bG o)::s.2.2) (fun s=>s.1≤o.pieces.length∧(∀j,j<s.1→qR (o.pieces.getD j ([],[]))=true)∧gD 1 1 s.2.2 s.2.1 ((pB (o.pieces.take s.1)).map .s) (pB (o.pieces.take s.1)).length) (fun s=>o.pieces.length-s.1) ((0,.e0,[])) ⟨aR _,fun j h=>by simp at h,eX⟩ rfl (by simp[fO]) ?_;rintro⟨k,out,g⟩ j ⟨hk,ha,ho2⟩;dsimp only at hk ha ho2;have hpl:k<o.pieces.length→(o.pieces.getD k ([],[])).1.length≤140737488355328:=fun h=>(ho.piecesS _ (cC h)).1;have hal:=vG (l:=o.pieces.take k);rw[bS]at hal;refine zg ?_;(repeat'(first|refine gT ?_ ?_|refine gF ?_ ?_|refine gC ?_ ?_|((first|(refine bM (bTo (o.pieces.getD k ([],[])).1 (hpl (by omega))) ?_ ?_;(focus(simp -implicitDefEqProofs (disch:=omega) only[zdA,go_sem,simprocAttr];done)))|(refine bM (P9 (o.pieces.getD k ([],[])).1 (hpl (by omega))) ?_ ?_;(focus(simp -implicitDefEqProofs (disch:=omega) only[zdA,go_sem,simprocAttr];done))));simp -implicitDefEqProofs (disch:=omega) only[go_sem,simprocAttr])|refine aU (by omega) ?_|(intro hr;have hc:=hr;(try simp only[zdz]at hc);simp -implicitDefEqProofs (disch:=omega) only[hr,go_sem,simprocAttr];(try clear hr))));all_goals first|(exfalso;omega)|skip
   all_goals first|(refine aV ?_ (by rfl);rw[aMx (k:=k) (by omega) (by simp_all[qR,oQ,List.length_eq_zero_iff,oI])];done)|skip
   all_goals first|(refine⟨(k+1,out,_),⟨by omega,cR ha (by simp_all[qR,oQ,List.length_eq_zero_iff,oI]),?_⟩,by simp;omega,rfl,rfl,by simp⟩;dsimp only;rw[pA (by omega),if_pos (List.eq_nil_of_length_eq_zero (by assumption)),List.append_nil];exact ho2.more _)|skip
   ·refine eI (pre:=[_]) (news:=[.s (o.pieces.getD k ([],[])).2]) (m:=1) ho2 rfl rfl bLn zo9 sz9 by9 rfl (by decide) (by simp -implicitDefEqProofs (disch:=omega) only[go_sem,simprocAttr]) (by simp -implicitDefEqProofs (disch:=omega) only[go_sem,simprocAttr]) ⟨by omega,by omega⟩ ?_;intro out' g' ho' _;refine zg ?_;refine⟨(k+1,out',g'),⟨by omega,cR ha (by simp_all[qR,oQ,List.length_eq_zero_iff,oI]),?_⟩,by simp;omega,rfl,by simp⟩;dsimp only;rw[pA (by omega),if_neg (by rw[← List.length_eq_zero_iff];assumption),bO,List.length_append];exact ho'
   ·refine eI (pre:=[_]) (news:=[.s (o.pieces.getD k ([],[])).2]) (m:=1) ho2 rfl rfl bLn zo9 sz9 by9 rfl (by decide) (by simp -implicitDefEqProofs (disch:=omega) only[go_sem,simprocAttr]) (by simp -implicitDefEqProofs (disch:=omega) only[go_sem,simprocAttr]) ⟨by omega,by omega⟩ ?_;intro out' g' ho' _;refine zg ?_;refine⟨(k+1,out',g'),⟨by omega,cR ha (by simp_all[qR,oQ,List.length_eq_zero_iff,oI]),?_⟩,by simp;omega,rfl,by simp⟩;dsimp only;rw[pA (by omega),if_neg (by rw[← List.length_eq_zero_iff];assumption),bO,List.length_append];exact ho'
   ·have hk2:k=o.pieces.length:=by omega
    have hne:o.pieces ≠ []:=fun e=>by simp_all
    have hemp:o.pieces.isEmpty=false:=by simpa using hne
    have hall:o.pieces.all qR=true:=mG (d:=([],[])) (fun j hj=>ha j (by omega));rw[aS (by omega)]at ho2;have hal:=vG (l:=o.pieces);rcases ho2 with⟨rfl,hnil,_⟩|⟨i0,rfl,hg,_⟩
    ·have hnil:pB o.pieces=[]:=by simpa using hnil
     (refine zs1 (bRf [] o.args (by simp) hx) ?_;repeat' first|exact trivial|refine zJ ?_ ?_|refine zH fun hc=>?_);refine aV ?_ (by rfl);rw[rO,hemp,hall,hnil,zt (oI.1 hc)];simp
    ·(refine zx1 hg (bRf (pB o.pieces) o.args (by omega) hx) ?_;repeat' first|exact trivial|refine zJ ?_ ?_|refine zH fun hc=>?_);refine aV ?_ (by rfl);rw[rO,hemp,hall,zt (oI.1 hc)];simp
   ·refine aV ?_ (by rfl);have hne:o.pieces ≠ []:=fun e=>by simp_all
    simp_all[rO,oI];omega
end Go.Proofs.YtdjcggcjlphdoaaGreatDoor
namespace Go.Proofs.YtdjcggcjlphdoaaGreatDoor
open Go Go.Vo
open Nat (reduceAdd reduceSub reduceMul reduceLeDiff reduceLT reduceEqDiff)
open Int (reduceNeg)
theorem uV{s:dF}:persL [cD s]=true:=by
 show(pers (cD s)&&true)=true;rw[qS];rfl
def J6(o:LOp)(i:Int):Bool:=decide (1≤i)&&decide (i≤o.args.length)
theorem aCu(o:LOp):persL (bG o)=true:=by simp only[bG,persL,pers,I7,aCv,avb,jR,dW]
theorem bUa(i:Int)(o:LOp): CT 155 [.i .i64 i,.box (bG o) 0] (.b (J6 o i)):=by
 refine aZ cI Tryz.func155 g0 ?_
 ·skip;(refine zs0 ?_;repeat' first|exact trivial|refine zJ ?_ ?_|refine zH fun hc=>?_);all_goals(refine aV ?_ (by rfl))
  all_goals first|(simp_all[J6];done)|(simp_all[J6];omega)
def aRn(o:LOp):Bool:=decide (0≤o.prec)&&decide (o.prec≤20)&&(decide (0<o.pieces.length)||decide (o.prec=0))
def aIc(o:LOp):Bool:=decide (0≤o.assoc)&&decide (o.assoc≤2)&&(decide (0<o.prec)||decide (o.assoc=0))
def opHead(s:dF)(o:LOp):Bool:=eK (zU o.name) && !jO.contains o.name&&decide (o.args.length≤8)&&o.args.all (existsA s)&&s.sorts.contains o.sort
def aTk(s:dF)(o:LOp):Bool:=opHead s o&&aRn o&&aIc o&&o.strict.all (J6 o)&&decide o.strict.Nodup&&rO o
def Y4(s:dF)(o:LOp):Bool:=eK o.name && !jO.contains o.name&&decide (o.args.length≤8)&&o.args.all (existsA s)&&existsA s o.sort&&(decide (o.pieces.length=0)&&decide (o.prec=0)&&decide (o.assoc=0)&&decide (o.strict.length=0))
theorem bMh{n:Nat}:(8<(n:Int))↔¬n≤8:=by omega
theorem bCn{n:Nat}:((n:Int)≤8)↔n≤8:=by omega
theorem aVn{n:Nat}:(0<(n:Int))↔0<n:=by omega
theorem bZq{n:Nat}:((n:Int)=0)↔n=0:=by omega
theorem bZh(s:dF)(o:LOp)(hs:Small s)(ho:OkO o): CT 93 [cD s,elO o] (.b (Y4 s o)):=by
 refine aZ cI Tryz.func93 g0 ?_
 ·skip;(refine zs4 (P9 o.name ho.name) (bLt o.name) (bBn o.args 90 [cD s] [] (existsA s) ho.args uV rfl (fun k hk=>aEp s (o.args.getD k []))) (aEp s o.sort) ?_;repeat' first|exact trivial|refine zJ ?_ ?_|refine zH fun hc=>?_);all_goals(refine aV ?_ (by rfl))
  all_goals simp only[bCn,bZq]at *
  all_goals simp only[Y4, *,decide_true,decide_false,Bool.and_true,Bool.true_and,Bool.and_false,Bool.false_and,Bool.not_true,Bool.not_false,aY,aX,aF,cV]
end Go.Proofs.YtdjcggcjlphdoaaGreatDoor
namespace Go.Proofs.YtdjcggcjlphdoaaGreatDoor
open Go Go.Vo
open Nat (reduceAdd reduceSub reduceMul reduceLeDiff reduceLT reduceEqDiff)
open Int (reduceNeg)
theorem bZi(s:dF)(o:LOp)(hs:Small s)(ho:OkO o): CT 92 [cD s,elO o] (.b (aTk s o)):=by
 refine aZ cI Tryz.func92 g0 ?_
 ·skip;have hb:=hZ (aAp o.name) ho.name;have h1:=hs.sorts;(repeat'(first|refine gT ?_ ?_|refine gF ?_ ?_|refine gC ?_ ?_|((first|(refine bM (bGn o.name ho.name) ?_ ?_;(focus(simp -implicitDefEqProofs (disch:=omega) only[zdA,go_sem,simprocAttr];done)))|(refine bM (P9 (zU o.name) hb) ?_ ?_;(focus(simp -implicitDefEqProofs (disch:=omega) only[zdA,go_sem,simprocAttr];done)))|(refine bM (bLt o.name) ?_ ?_;(focus(simp -implicitDefEqProofs (disch:=omega) only[zdA,go_sem,simprocAttr];done)))|(refine bM (bBn o.args 90 [cD s] [] (existsA s) ho.args uV rfl (fun k hk=>aEp s (o.args.getD k []))) ?_ ?_;(focus(simp -implicitDefEqProofs (disch:=omega) only[zdA,go_sem,simprocAttr];done)))|(refine bM (P7 s.sorts o.sort (by omega)) ?_ ?_;(focus(simp -implicitDefEqProofs (disch:=omega) only[zdA,go_sem,simprocAttr];done)))|(refine bM (bTz o.strict 155 [] [.box (bG o) 0] (J6 o) ho.strict rfl (by simp only[persL,pers,aCu,dW]) (fun k hk=>bUa (o.strict.getD k 0) o)) ?_ ?_;(focus(simp -implicitDefEqProofs (disch:=omega) only[zdA,go_sem,simprocAttr];done)))|(refine bM (bTy o.strict ho.strict) ?_ ?_;(focus(simp -implicitDefEqProofs (disch:=omega) only[zdA,go_sem,simprocAttr];done)))|(refine bM (bTx o ho) ?_ ?_;(focus(simp -implicitDefEqProofs (disch:=omega) only[zdA,go_sem,simprocAttr];done))));simp -implicitDefEqProofs (disch:=omega) only[go_sem,simprocAttr])|refine aU (by omega) ?_|(intro hr;have hc:=hr;(try simp only[zdz]at hc);simp -implicitDefEqProofs (disch:=omega) only[hr,go_sem,simprocAttr];(try clear hr))));all_goals(refine aV ?_ (by rfl))
  all_goals try simp only[bMh,aVn,Q4]at *
  all_goals first|(exfalso;omega)|skip
  all_goals simp only[aTk,opHead,aRn,aIc, *,decide_true,decide_false,Bool.and_true,Bool.true_and,Bool.and_false,Bool.false_and,Bool.not_true,Bool.not_false,aY,aX,aF,cV]
  all_goals first|(simp;done)|(simp_all;done)|(simp_all;omega)
end Go.Proofs.YtdjcggcjlphdoaaGreatDoor
namespace Go.Proofs.YtdjcggcjlphdoaaGreatDoor
open Go Go.Vo
open Nat (reduceAdd reduceSub reduceMul reduceLeDiff reduceLT reduceEqDiff)
open Int (reduceNeg)
attribute [go_sem] List.replicate_zero eO
end Go.Proofs.YtdjcggcjlphdoaaGreatDoor
namespace Go.Proofs.YtdjcggcjlphdoaaGreatDoor
open Go Go.Vo
open Nat (reduceAdd reduceSub reduceMul reduceLeDiff reduceLT reduceEqDiff)
open Int (reduceNeg)
def C2(x:Str):Bool:=eK x && !iD.contains x
def qB(s:dF):List Str:=s.ops.map LOp.name++s.funs.map LOp.name
def oO(s:dF):Bool:=decide (s.sorts.length≤40)&&decide (s.below.length≤200)&&decide (s.ops.length+s.funs.length≤200)&&decide s.below.Nodup&&decide s.values.Nodup
def pO(s:dF):Bool:=decide s.sorts.Nodup&&s.sorts.all C2&&decide (qB s).Nodup
def qL(s:dF):Bool:=s.below.all (rY s)&&s.values.all (existsA s)&&s.ops.all (aTk s)&&s.funs.all (Y4 s)
def fM(s:dF):Bool:=oO s&&pO s&&qL s
theorem L8{s:dF}(h1:s.sorts.Nodup)(h2:s.sorts.all C2=true)(h3:(qB s).Nodup):aBf s:=by
 refine⟨?_,?_,?_⟩
 ·unfold keysOf;rw[lQ];refine⟨by decide,h1,?_⟩;intro a ha b hb hab;subst hab;have:=bF.1 h2 a hb;simp only[C2,aB,dB]at this;have h4:iD.contains a=true:=by simpa using ha
  rw[h4]at this;cases this.2
 ·unfold qB at h3;exact(lQ.1 h3).1
 ·unfold qB at h3;exact(lQ.1 h3).2.1
theorem jF{s:dF}(h:fM s=true):aBf s:=by
 simp only[fM,pO,aB,decide_eq_true_eq]at h;exact L8 h.1.2.1.1 h.1.2.1.2 h.1.2.2
theorem aTs(s:dF)(ho:OkS s):∀k,k<s.sorts.length→CT 83 ([]++[.s (s.sorts.getD k [])]++[]) (.b (C2 (s.sorts.getD k []))):=fun k hk=>bZl _ (ho.sortsS _ (cC hk))
theorem aRs{a b:List AV}:persL (a++b)=(persL a&&persL b):=by
 induction a with
 |nil=>simp[persL]
 |cons x l ih=>simp[persL,ih,pL]
theorem bSi(s:dF)(h:(qB s).length≤140737488355328):CT 82 [.sl ((s.ops.map LOp.name).map .s++(s.funs.map LOp.name).map .s) (s.ops.length+s.funs.length)] (.b (decide (qB s).Nodup)):=by
 have:=bLr (qB s) h;simpa only[avs,qB,bO,List.length_append,cZ]using this
theorem bHn{α β γ:Type}{f:β→γ}{g:α→β}{a b:List α}:((a.map g).map f++(b.map g).map f).take (a.length+b.length)=(a.map g).map f++(b.map g).map f:=aS (by simp)
attribute [go_sem] aRs bHn
theorem aOg(s:dF)(hs:Small s)(ho:OkS s): CT 44 [.agg (bX s)] (.b (fM s)):=by
 refine aZ cI Tryz.func44 g0 ?_
 ·skip;have h1:=hs.sorts;have h2:=hs.below;have h3:=hs.ops;have h4:=hs.funs;have h5:=hs.values;(refine zs2 (bZm s.below ho.below) (bLr s.values ho.values) ?_;repeat' first|exact trivial|refine zJ ?_ ?_|refine zH fun hc=>?_);all_goals first|(refine aV ?_ (by rfl);simp only[fM,oO];simp_all;done)|(refine aV ?_ (by rfl);simp only[fM,oO];simp_all;omega)|skip
  (repeat'(first|refine gT ?_ ?_|refine gF ?_ ?_|refine gC ?_ ?_|((first|(refine bM (bLr s.sorts ho.sorts) ?_ ?_;(focus(simp -implicitDefEqProofs (disch:=omega) only[zdA,go_sem,simprocAttr];done)))|(refine bM (bBn s.sorts 83 [] [] C2 ho.sorts rfl rfl (aTs s ho)) ?_ ?_;(focus(simp -implicitDefEqProofs (disch:=omega) only[zdA,go_sem,simprocAttr];done)))|(refine bM (bRz s.ops ho.opsT) ?_ ?_;(focus(simp -implicitDefEqProofs (disch:=omega) only[zdA,go_sem,simprocAttr];done)))|(refine bM (bRz s.funs ho.funsT) ?_ ?_;(focus(simp -implicitDefEqProofs (disch:=omega) only[zdA,go_sem,simprocAttr];done)))|(refine bM (bSi s (by simp only[qB,List.length_append,cZ];omega)) ?_ ?_;(focus(simp -implicitDefEqProofs (disch:=omega) only[zdA,go_sem,simprocAttr];done))));simp -implicitDefEqProofs (disch:=omega) only[go_sem,simprocAttr])|refine aU (by omega) ?_|(intro hr;have hc:=hr;(try simp only[zdz]at hc);simp -implicitDefEqProofs (disch:=omega) only[hr,go_sem,simprocAttr];(try clear hr))));all_goals first|(refine aV ?_ (by rfl);simp only[fM,pO, *,decide_true,decide_false,Bool.and_false,Bool.false_and];done)|skip
  (repeat'(first|refine gT ?_ ?_|refine gF ?_ ?_|refine gC ?_ ?_|((first|(refine bM (aEr s hs (L8 (by assumption) (by assumption) (by assumption))) ?_ ?_;(focus(simp -implicitDefEqProofs (disch:=omega) only[zdA,go_sem,simprocAttr];done)))|(refine bM (bZk s.below 89 [cD s] [] (rY s) ho.below uV rfl (fun k hk=>bZj s (s.below.getD k ([],[])) hs)) ?_ ?_;(focus(simp -implicitDefEqProofs (disch:=omega) only[zdA,go_sem,simprocAttr];done)))|(refine bM (bBn s.values 90 [cD s] [] (existsA s) ho.values uV rfl (fun k hk=>aEp s (s.values.getD k []))) ?_ ?_;(focus(simp -implicitDefEqProofs (disch:=omega) only[zdA,go_sem,simprocAttr];done)))|(refine bM (bRn s.ops 92 [cD s] [] (aTk s) ho.ops uV rfl (fun k hk=>bZi s (s.ops.getD k default) hs (ho.opsO (s.ops.getD k default) (cC hk)))) ?_ ?_;(focus(simp -implicitDefEqProofs (disch:=omega) only[zdA,go_sem,simprocAttr];done)))|(refine bM (bRn s.funs 93 [cD s] [] (Y4 s) ho.funs uV rfl (fun k hk=>bZh s (s.funs.getD k default) hs (ho.funsO (s.funs.getD k default) (cC hk)))) ?_ ?_;(focus(simp -implicitDefEqProofs (disch:=omega) only[zdA,go_sem,simprocAttr];done))));simp -implicitDefEqProofs (disch:=omega) only[go_sem,simprocAttr])|refine aU (by omega) ?_|(intro hr;have hc:=hr;(try simp only[zdz]at hc);simp -implicitDefEqProofs (disch:=omega) only[hr,go_sem,simprocAttr];(try clear hr))));all_goals first|(refine aV ?_ (by rfl);simp only[fM,pO,qL, *,decide_true,decide_false,Bool.and_false,Bool.false_and];done)|skip
  all_goals refine aV ?_ (by rfl)
  all_goals simp only[fM,oO,pO,qL, *,decide_true,Bool.and_true,Bool.true_and]
  all_goals(simp;omega)
end Go.Proofs.YtdjcggcjlphdoaaGreatDoor
namespace Go.Proofs.YtdjcggcjlphdoaaGreatDoor
open Go Go.Vo
open Nat (reduceAdd reduceSub reduceMul reduceLeDiff reduceLT reduceEqDiff)
open Int (reduceNeg)
end Go.Proofs.YtdjcggcjlphdoaaGreatDoor
namespace Go.Proofs.YtdjcggcjlphdoaaGreatDoor
open Go Go.Vo
open Nat (reduceAdd reduceSub reduceMul reduceLeDiff reduceLT reduceEqDiff)
open Int (reduceNeg)
def cCf(o:LOp):Nat:=o.args.length+o.pieces.length+o.strict.length
def sJ(l:List LOp):Nat:=(l.map cCf).sum
def few(s:dF):Bool:=decide (s.sorts.length≤60)&&decide (s.below.length≤250)&&decide (s.ops.length+s.funs.length≤250)&&decide (s.values.length≤100)&&decide (sJ (s.ops++s.funs)≤3000)
@[simp] theorem bUu:sJ []=0:=rfl
theorem bFf{s:dF}(h:60<s.sorts.length∨250<s.below.length∨250<s.ops.length+s.funs.length∨100<s.values.length∨3000<sJ (s.ops++s.funs)):few s=false:=by
 unfold few;simp only[nS,decide_eq_false_iff_not];omega
theorem bLh{s:dF}(h:s.sorts.length≤60∧s.below.length≤250∧s.ops.length+s.funs.length≤250∧s.values.length≤100∧sJ (s.ops++s.funs)≤3000):few s=true:=by
 unfold few;simp only[aB,decide_eq_true_eq];omega
theorem aOo{l:List LOp}{k:Nat}(h:k<l.length):sJ (l.take (k+1))=sJ (l.take k)+cCf (l.getD k default):=by
 rw[eZ (d:=default) h];simp[sJ]
theorem bCs{l:List LOp}{k:Nat}:sJ (l.take k)≤sJ l:=by
 have h:sJ (l.take k++l.drop k)=sJ l:=by rw[eQ]
 unfold sJ at *
 rw[bO,List.sum_append]at h;omega
theorem bZo(s:dF)(hs:OkS s): CT 38 [.agg (bX s)] (.b (few s)):=by
 refine gX (rx:=true) (th:=fun _=>none) cI Tryz.func38 g0 ?_
 ·simp -implicitDefEqProofs (disch:=omega) only[Tryz.f38,go_sem,List.replicate,simprocAttr];have h1:=hs.sorts;have h2:=hs.below;have h3:=hs.ops;have h4:=hs.funs;have h5:=hs.values;(refine zs0 ?_;repeat' first|exact trivial|refine zJ ?_ ?_|refine zH fun hc=>?_);all_goals first|(refine aV ?_ (by rfl);rw[bFf (by omega)];done)|skip
  rw[← List.flatMap_append,← List.length_append];have hL:(s.ops++s.funs).length=s.ops.length+s.funs.length:=List.length_append;have hO:∀x∈s.ops++s.funs,OkO x:=fun x hx=>(cJ.1 hx).elim (hs.opsO x) (hs.funsO x);have hfin:sJ (s.ops++s.funs)≤3000→few s=true:=fun h=>bLh ⟨by omega,by omega,by omega,by omega,h⟩;have hfin2:3000<sJ (s.ops++s.funs)→few s=false:=fun h=>bFf (by omega);generalize s.ops++s.funs=L at hL hO hfin hfin2;refine gW (fun(k:Nat)=>(.k::.k::.j::.v (.i .i64 (sJ (L.take k):Nat))::.k::.j::(rp 34 .k (.v (.i .i64 k)::(rp 19 .j []))))) (fun k=>[.box false (sgC s),.dead,.arr false 7 (L.flatMap bG)]) (fun k=>k≤L.length∧sJ (L.take k)≤3000) (fun k=>L.length-k) (0) _ ⟨aR _,by simp[sJ]⟩ rfl (by simp[fO]) ?_;rintro k g j ⟨hk,hb⟩;have ho:k<L.length→(L.getD k default).args.length≤140737488355328∧(L.getD k default).pieces.length≤140737488355328∧(L.getD k default).strict.length≤140737488355328:=fun h=>⟨(hO _ (cC h)).args,(hO _ (cC h)).pieces,(hO _ (cC h)).strict⟩;have hs1:k<L.length→sJ (L.take (k+1))=sJ (L.take k)+((L.getD k default).args.length+(L.getD k default).pieces.length+(L.getD k default).strict.length):=fun h=>aOo h;have hle:=bCs (l:=L) (k:=k+1);refine zg ?_;(refine zs0 ?_;repeat' first|exact trivial|refine zJ ?_ ?_|refine zH fun hc=>?_)
  ·refine aV ?_ (by rfl);have:=hs1 (by omega);rw[hfin2 (by omega)]
  ·have h1:=hs1 (by omega);refine⟨k+1,_,⟨by omega,by omega⟩,by omega,rfl,?_⟩;rw[h1];simp
  ·refine aV ?_ (by rfl);have hk2:k=L.length:=by omega
   subst hk2;rw[fR]at hb;rw[hfin hb]
end Go.Proofs.YtdjcggcjlphdoaaGreatDoor
namespace Go.Proofs.YtdjcggcjlphdoaaGreatDoor
open Go Go.Vo
open Nat (reduceAdd reduceSub reduceMul reduceLeDiff reduceLT reduceEqDiff)
open Int (reduceNeg)
def C1(x:Str):Bool:=eK x && !qH.contains x
theorem aFh(x:Str):iD.contains x=qH.contains x:=by
 have h1:iD.all (fun x=>qH.contains x)=true:=by decide +kernel
 have h2:qH.all (fun x=>iD.contains x)=true:=by decide +kernel
 rw[dK];simp only[bF]at h1 h2;exact⟨fun h=>h1 x (by simpa using h),fun h=>h2 x (by simpa using h)⟩
def B4(s:dF):Bool:=s.sorts.all C1&&decide (s.sorts.length≤40)&&decide s.sorts.Nodup
theorem aLm{n:Nat}:((n:Int)≤40)↔n≤40:=by omega
theorem bZg(s:dF)(hs:OkS s): CT 108 [.agg (bX s)] (.b (B4 s)):=by
 refine aZ cI Tryz.func108 g0 ?_
 ·skip;have h1:=hs.sorts;refine gW (fun(k:Nat)=>(.k::.k::.j::.k::.j::.k::.k::.k::.v (.i .i64 k)::(rp 12 .j (rp 9 .k [])))) (fun k=>[.box false (sgC s)]) (fun k=>k≤s.sorts.length∧∀j,j<k→C1 (s.sorts.getD j [])=true) (fun k=>s.sorts.length-k) (0) _ ⟨aR _,fun j h=>by omega⟩ rfl (by simp[fO]) ?_;rintro k g j ⟨hk,ha⟩;have hpl:k<s.sorts.length→(s.sorts.getD k []).length≤140737488355328:=fun h=>hs.sortsS _ (cC h);refine zg ?_;(repeat'(first|refine gT ?_ ?_|refine gF ?_ ?_|refine gC ?_ ?_|((first|refine cE (P8 (s.sorts.getD k []) (hpl (by omega))) ?_|refine cE (bLq) ?_|refine cE (E2 qH (s.sorts.getD k []) (by decide)) ?_|refine cE (bBl s.sorts h1) ?_);simp -implicitDefEqProofs (disch:=omega) only[go_sem,simprocAttr])|refine aU (by omega) ?_|(intro hr;have hc:=hr;(try simp only[zdz]at hc);simp -implicitDefEqProofs (disch:=omega) only[hr,go_sem,simprocAttr];(try clear hr))))
  ·refine aV ?_ (by rfl);rw[B4,gM (d:=[]) (j:=k) (by omega) (by simp only[C1, *,Bool.not_true,Bool.and_false])];rfl
  ·exact⟨k+1,_,⟨by omega,cR ha (by simp only[C1, *,Bool.not_false,Bool.and_true])⟩,by omega,rfl,by simp⟩
  ·refine aV ?_ (by rfl);rw[B4,gM (d:=[]) (j:=k) (by omega) (by simp only[C1, *,Bool.false_and])];rfl
  ·refine aV ?_ (by rfl);have hall:s.sorts.all C1=true:=mG (d:=[]) (fun j hj=>ha j (by omega));rw[B4,hall,zt (aLm.1 hc)];rfl
  ·refine aV ?_ (by rfl);rw[aLm]at hc;rw[B4,zf hc];simp
def aIe(s:dF)(o:LOp):Bool:=o.args.all (jZ s)&&decide (o.args.length≤8)
theorem bGk(s:dF)(o:LOp)(hs:s.sorts.length≤140737488355328)(ho:o.args.length≤140737488355328): CT 182 [.agg (bX s),elO o] (.b (aIe s o)):=by
 refine aZ cI Tryz.func182 g0 ?_
 ·skip;refine gW (fun(k:Nat)=>[.k,.k,.k,.k,.j,.k,.j,.k,.k,.k,.v (.i .i64 k),.j,.j,.j,.j,.j,.j,.j,.j,.k,.k,.k,.k]) (fun k=>[.box false (sgC s),.box false (bG o)]) (fun k=>k≤o.args.length∧∀j,j<k→jZ s (o.args.getD j [])=true) (fun k=>o.args.length-k) (0) _ ⟨aR _,fun j h=>by omega⟩ rfl (by simp[fO]) ?_;rintro k g j ⟨hk,ha⟩;refine zg ?_;(refine zs1 (bBm s (o.args.getD k []) hs) ?_;repeat' first|exact trivial|refine zJ ?_ ?_|refine zH fun hc=>?_)
  ·refine aV ?_ (by rfl);rw[aIe,gM (d:=[]) (j:=k) (by omega) hc];rfl
  ·exact⟨k+1,_,⟨by omega,cR ha hc⟩,by omega,rfl,by simp⟩
  ·refine aV ?_ (by rfl);have hall:o.args.all (jZ s)=true:=mG (d:=[]) (fun j hj=>ha j (by omega));rw[aIe,hall];simp;omega
theorem aTo{α:Type}{l:List α}{i:Nat}{d:α}(h:i<l.length):l.getD i d=l[i]:=by simp[List.getD,h]
def wC(o:LOp):Bool:=o.strict.all (J6 o)&&decide o.strict.Nodup
theorem bTv(o:LOp)(ho:OkO o): CT 184 [elO o] (.b (wC o)):=by
 refine aZ cI Tryz.func184 g0 ?_
 ·skip;have h1:=ho.strict;have h2:=ho.args;refine cO (fun(k:Nat)=>(.k::.k::.j::.j::.j::.k::.j::.k::.k::.k::.v (.i .i64 k)::(rp 27 .j []))) (fun k=>[.box false (bG o)]) (fun k=>k≤o.strict.length∧∀j,j<k→(J6 o (o.strict.getD j 0)=true∧(o.strict.take j).contains (o.strict.getD j 0)=false)) (fun k=>o.strict.length-k) (0) ⟨aR _,fun j h=>by omega⟩ rfl (by simp[fO]) ?_;rintro k j ⟨hk,ha⟩;refine zg ?_;(refine zs0 ?_;repeat' first|exact trivial|refine zJ ?_ ?_|refine zH fun hc=>?_)
  ·refine aV ?_ (by rfl);rw[wC,gM (d:=0) (j:=k) (by omega) (by unfold J6;rw[zf (p:=o.strict.getD k 0≤_) (by omega),Bool.and_false])];rfl
  ·refine cO (fun(m:Nat)=>(.k::.k::.j::.k::.k::.k::.j::(rp 22 .k (.v (.i .i64 m)::(rp 7 .j [.k]))))) (fun m=>[.box false (bG o)]) (fun m=>m≤k∧∀j,j<m→(o.strict.take k).getD j 0≠o.strict.getD k 0) (fun m=>k-m) (0) ⟨aR _,fun j h=>by omega⟩ rfl (by simp[fO]) ?_;rintro m j ⟨hm,hb⟩;have hlt:(o.strict.take k).length=k:=by simp;omega
   refine zh hlt ?_;(refine zx0 hlt ?_;repeat' first|exact trivial|refine zJ ?_ ?_|refine zH fun hc=>?_)
   ·refine aV ?_ (by rfl);have hcon:(o.strict.take k).contains (o.strict.getD k 0)=true:=by
     have hm2:=cC (l:=o.strict.take k) (d:=0) (k:=m) (by omega);rw[hc]at hm2;simpa using hm2
    rw[wC,zf (fun hn=>by rw[oS hn (by omega)]at hcon;cases hcon),Bool.and_false]
   ·exact⟨m+1,⟨by omega,cR hb hc⟩,by omega,by simp⟩
   ·have hmk:m=k:=by omega
    subst hmk;have hno:(o.strict.take m).contains (o.strict.getD m 0)=false:=by
     rw[← aBk];intro hcon;have hm2:o.strict.getD m 0∈o.strict.take m:=by simpa using hcon
     obtain⟨i,hi,he⟩:=dG.1 hm2;exact hb i (by omega) (by rw[aTo hi];exact he)
    exact⟨m+1,⟨by omega,cR ha ⟨by unfold J6;rw[zt (by omega),zt (by omega)];rfl,hno⟩⟩,by omega,by simp⟩
  ·refine aV ?_ (by rfl);rw[wC,gM (d:=0) (j:=k) (by omega) (by unfold J6;rw[zf (p:=1≤_) (by omega),Bool.false_and])];rfl
  ·refine aV ?_ (by rfl);have h3:k=o.strict.length:=by omega
   have hall:o.strict.all (J6 o)=true:=mG (d:=0) (fun j hj=>(ha j (by omega)).1);rw[wC,hall,zt (xO (d:=0) (fun j hj=>(ha j (by omega)).2))];rfl
def nH(n:Int):Bool := !(decide (n<33)||decide (126<n)||xS n||aUs n||decide (n=95)||decide (n=34)||decide (n=39)||decide (n=92))
def vV(s:Str):Bool:=decide (1≤s.length)&&decide (s.length≤20)&&(eK s||s.all fun c=>nH c.toNat)
theorem bTm(s:Str)(hs:s.length≤140737488355328): CT 232 [.s s] (.b (vV s)):=by
 refine aZ cI Tryz.func232 g0 ?_
 ·skip;(refine zs1 (P8 s hs) ?_;repeat' first|exact trivial|refine zJ ?_ ?_|refine zH fun hc=>?_)
  ·refine aV ?_ (by rfl);rw[vV,zf (p:=s.length≤20) (by omega)];simp
  ·refine aV ?_ (by rfl);rw[vV,zt (p:=s.length≤20) (by omega),zt (p:=1≤s.length) (by omega),hc];rfl
  ·refine cO (fun(k:Nat)=>(.k::.k::.j::.j::.j::(rp 12 .k (.v (.i .i64 k)::(rp 36 .j []))))) (fun k=>[]) (fun k=>k≤s.length∧∀j,j<k→nH (at_ s j)=true) (fun k=>s.length-k) (0) ⟨aR _,fun j h=>by omega⟩ rfl (by simp[fO]) ?_;rintro k j ⟨hk,ha⟩;have hb:eK s=false:=hc;have hr:=aLt s k;simp only[at_]at hr;refine zg ?_;(refine zs2 bRb bRa ?_;repeat' first|exact trivial|refine zJ ?_ ?_|refine zH fun hc=>?_);all_goals first|(refine aV ?_ (by rfl);rw[vV,hb,mT (q:=nH) (j:=k) (by omega) (by simp only[nH,at_, *,decide_true,aY,aX,Bool.not_true]),aF,Bool.and_false];done)|skip
   ·exact⟨k+1,⟨by omega,cR ha (by simp only[nH,at_, *,decide_false,aF,Bool.not_false])⟩,by omega,by simp⟩
   ·refine aV ?_ (by rfl);have h1:k=s.length:=by omega
    rw[vV,aMl (q:=nH) (h1▸ha),zt (p:=s.length≤20) (by omega),zt (p:=1≤s.length) (by omega),aY];rfl
  ·refine aV ?_ (by rfl);rw[vV,zf (p:=1≤s.length) (by omega)];simp
end Go.Proofs.YtdjcggcjlphdoaaGreatDoor
namespace Go.Proofs.YtdjcggcjlphdoaaGreatDoor
open Go Go.Vo
open Nat (reduceAdd reduceSub reduceMul reduceLeDiff reduceLT reduceEqDiff)
open Int (reduceNeg)
attribute [go_sem] ite_self aD decide_true decide_false not_true_eq_false not_false_eq_true Bool.not_true Bool.not_false
def sW(r:Option LOp):AV:=match r with
 |some o=>.tup [elO o,.b true]
 |none=>.tup [elO default,.b false]
def X5(s:dF)(x:Str):Option LOp:=s.ops.find? fun o=>decide (o.name=x)
def K8(s:dF)(x:Str):Option LOp:=s.funs.find? fun o=>decide (o.name=x)
theorem sE{l:List LOp}{x:Str}:((l.map LOp.name).findIdx? fun y=>decide (x=y))=l.findIdx? fun o=>decide (o.name=x):=by
 rw[List.findIdx?_map];congr 1;funext o;simp[eq_comm]
theorem aKp{l:List LOp}{x:Str}:(∃i o,(l.findIdx? fun o=>decide (o.name=x))=some i∧l.find? (fun o=>decide (o.name=x))=some o∧(l.map elO)[i]? = some (elO o))∨((l.findIdx? fun o=>decide (o.name=x))=none∧l.find? (fun o=>decide (o.name=x))=none):=by
 induction l with
 |nil=>right;simp
 |cons a l ih=>
  by_cases h:a.name=x
  ·left;exact⟨0,a,by simp[iK,h],by simp[h],by simp⟩
  ·rcases ih with⟨i,o,h1,h2,h3⟩|⟨h1,h2⟩
   ·left;exact⟨i+1,o,by simp[iK,h,h1],by simp[h,h2],by simpa using h3⟩
   ·right;exact⟨by simp[iK,h,h1],by simp[h,h2]⟩
theorem bRh(s:dF)(x:Str): CT 165 [cD s,.s x] (sW (X5 s x)):=by
 refine aZ cI Tryz.func165 g0 ?_
 ·skip;rcases aKp (l:=s.ops) (x:=x)with⟨i,o,h1,h2,h3⟩|⟨h1,h2⟩
  ·refine zh (zA2 @sE (zA2 h1 h3)) ?_;exact aV (by simp only[sW,X5,h2];rfl) (by simp only[pers,persL,jW,jR,rV,dW])
  ·refine zh (zA2 @sE h1) ?_;have:sW (X5 s x)=.tup [elO default,.b false]:=by simp only[sW,X5,h2]
   rw[this];exact .inr ⟨⟨⟨rfl,rfl,rfl,rfl,rfl,rfl,rfl,trivial⟩,rfl,trivial⟩,by decide,fun i hi=>by cases hi⟩
theorem bZd(s:dF)(x:Str): CT 218 [cD s,.s x] (sW (K8 s x)):=by
 refine aZ cI Tryz.func218 g0 ?_
 ·skip;rcases aKp (l:=s.funs) (x:=x)with⟨i,o,h1,h2,h3⟩|⟨h1,h2⟩
  ·refine zh (zA2 @sE (zA2 h1 h3)) ?_;exact aV (by simp only[sW,K8,h2];rfl) (by simp only[pers,persL,jW,jR,rV,dW])
  ·refine zh (zA2 @sE h1) ?_;have:sW (K8 s x)=.tup [elO default,.b false]:=by simp only[sW,K8,h2]
   rw[this];exact .inr ⟨⟨⟨rfl,rfl,rfl,rfl,rfl,rfl,rfl,trivial⟩,rfl,trivial⟩,by decide,fun i hi=>by cases hi⟩
end Go.Proofs.YtdjcggcjlphdoaaGreatDoor
namespace Go.Proofs.YtdjcggcjlphdoaaGreatDoor
open Go Go.Vo
open Nat (reduceAdd reduceSub reduceMul reduceLeDiff reduceLT reduceEqDiff)
open Int (reduceNeg)
end Go.Proofs.YtdjcggcjlphdoaaGreatDoor
namespace Go.Proofs.YtdjcggcjlphdoaaGreatDoor
open Go Go.Vo
open Nat (reduceAdd reduceSub reduceMul reduceLeDiff reduceLT reduceEqDiff)
open Int (reduceNeg)
end Go.Proofs.YtdjcggcjlphdoaaGreatDoor
namespace Go.Proofs.YtdjcggcjlphdoaaGreatDoor
open Go Go.Vo
open Nat (reduceAdd reduceSub reduceMul reduceLeDiff reduceLT reduceEqDiff)
open Int (reduceNeg)
end Go.Proofs.YtdjcggcjlphdoaaGreatDoor
namespace Go.Proofs.YtdjcggcjlphdoaaGreatDoor
open Go Go.Vo
open Nat (reduceAdd reduceSub reduceMul reduceLeDiff reduceLT reduceEqDiff)
open Int (reduceNeg)
end Go.Proofs.YtdjcggcjlphdoaaGreatDoor
namespace Go.Proofs.YtdjcggcjlphdoaaGreatDoor
open Go Go.Vo
open Nat (reduceAdd reduceSub reduceMul reduceLeDiff reduceLT reduceEqDiff)
open Int (reduceNeg)
end Go.Proofs.YtdjcggcjlphdoaaGreatDoor
namespace Go.Proofs.YtdjcggcjlphdoaaGreatDoor
open Go Go.Vo
open Nat (reduceAdd reduceSub reduceMul reduceLeDiff reduceLT reduceEqDiff)
open Int (reduceNeg)
end Go.Proofs.YtdjcggcjlphdoaaGreatDoor
namespace Go.Proofs.YtdjcggcjlphdoaaGreatDoor
open Go Go.Vo
open Nat (reduceAdd reduceSub reduceMul reduceLeDiff reduceLT reduceEqDiff)
open Int (reduceNeg)
end Go.Proofs.YtdjcggcjlphdoaaGreatDoor
namespace Go.Proofs.YtdjcggcjlphdoaaGreatDoor
open Go Go.Vo
open Nat (reduceAdd reduceSub reduceMul reduceLeDiff reduceLT reduceEqDiff)
open Int (reduceNeg)
end Go.Proofs.YtdjcggcjlphdoaaGreatDoor
namespace Go.Proofs.YtdjcggcjlphdoaaGreatDoor
open Go Go.Vo
open Nat (reduceAdd reduceSub reduceMul reduceLeDiff reduceLT reduceEqDiff)
open Int (reduceNeg)
end Go.Proofs.YtdjcggcjlphdoaaGreatDoor
namespace Go.Proofs.YtdjcggcjlphdoaaGreatDoor
open Go Go.Vo
open Nat (reduceAdd reduceSub reduceMul reduceLeDiff reduceLT reduceEqDiff)
open Int (reduceNeg)
def okR(p:Str×Str):Bool:=if p.2=[]then vV p.1 else decide (p.1=[])
def aGm(o:LOp):Bool:=if o.pieces=[]then decide (o.prec=0)&&decide (o.assoc=0)else decide (o.pieces.length≤20)&&decide (pB o.pieces=o.args)&&decide (0≤o.prec)&&decide (o.prec≤20)&&decide (0≤o.assoc)&&decide (o.assoc≤2)&&(decide (0<o.prec)||decide (o.assoc=0))
def rU(o:LOp):Bool:=o.pieces.all okR&&aGm o
theorem bTw(o:LOp)(ho:OkO o): CT 183 [elO o] (.b (rU o)):=by
 refine aZ cI Tryz.func183 g0 ?_
 ·skip;have hp:=ho.piecesT;have hx:=ho.args;refine cO (fun(s:Nat×AV×List AObj)=>(.k::.k::.j::.v (s.2.1)::.k::.j::.k::.k::.k::.v (.i .i64 (s.1:Nat))::(rp 27 .j (rp 52 .k [])))) (fun s=>.box false (bG o)::s.2.2) (fun s=>s.1≤o.pieces.length∧(∀j,j<s.1→okR (o.pieces.getD j ([],[]))=true)∧gD 1 1 s.2.2 s.2.1 ((pB (o.pieces.take s.1)).map .s) (pB (o.pieces.take s.1)).length) (fun s=>o.pieces.length-s.1) ((0,.e0,[])) ⟨aR _,fun j h=>by simp at h,eX⟩ rfl (by simp[fO]) ?_;rintro⟨k,out,g⟩ j ⟨hk,ha,ho2⟩;dsimp only at hk ha ho2;have hpl:k<o.pieces.length→(o.pieces.getD k ([],[])).1.length≤140737488355328:=fun h=>(ho.piecesS _ (cC h)).1;have hal:=vG (l:=o.pieces.take k);rw[bS]at hal;refine zg ?_;(repeat'(first|refine gT ?_ ?_|refine gF ?_ ?_|refine gC ?_ ?_|((refine bM (bTm (o.pieces.getD k ([],[])).1 (hpl (by omega))) ?_ ?_;(focus(simp -implicitDefEqProofs (disch:=omega) only[zdA,go_sem,↓reduceIte,reduceAdd,reduceSub,reduceMul,reduceLeDiff,reduceLT,reduceEqDiff,reduceNeg,Nat.reduceBEq];done)));simp -implicitDefEqProofs (disch:=omega) only[go_sem,↓reduceIte,reduceAdd,reduceSub,reduceMul,reduceLeDiff,reduceLT,reduceEqDiff,reduceNeg,Nat.reduceBEq])|refine aU (by omega) ?_|(intro hr;have hc:=hr;(try simp only[zdz]at hc);simp -implicitDefEqProofs (disch:=omega) only[hr,go_sem,↓reduceIte,reduceAdd,reduceSub,reduceMul,reduceLeDiff,reduceLT,reduceEqDiff,reduceNeg,Nat.reduceBEq];(try clear hr))));all_goals first|(exfalso;omega)|skip
  all_goals first|(refine aV ?_ (by rfl);rw[rU,gM (d:=([],[])) (j:=k) (by omega) (by simp_all[okR,← List.length_eq_zero_iff])];rfl)|skip
  all_goals first|(refine⟨(k+1,out,_),⟨by omega,cR ha (by simp_all[okR,← List.length_eq_zero_iff]),?_⟩,by simp;omega,rfl,rfl,by simp⟩;dsimp only;rw[pA (by omega),if_pos (List.eq_nil_of_length_eq_zero (by assumption)),List.append_nil];exact ho2.more _)|skip
  ·refine eI (pre:=[_]) (news:=[.s (o.pieces.getD k ([],[])).2]) (m:=1) ho2 rfl rfl bLn zo9 sz9 by9 rfl (by decide) (by simp -implicitDefEqProofs (disch:=omega) only[go_sem,↓reduceIte,reduceAdd,reduceSub,reduceMul,reduceLeDiff,reduceLT,reduceEqDiff,reduceNeg,Nat.reduceBEq]) (by simp -implicitDefEqProofs (disch:=omega) only[go_sem,↓reduceIte,reduceAdd,reduceSub,reduceMul,reduceLeDiff,reduceLT,reduceEqDiff,reduceNeg,Nat.reduceBEq]) ⟨by omega,by omega⟩ ?_;intro out' g' ho' _;refine zg ?_;refine⟨(k+1,out',g'),⟨by omega,cR ha (by simp_all[okR,← List.length_eq_zero_iff]),?_⟩,by simp;omega,rfl,by simp⟩;dsimp only;rw[pA (by omega),if_neg (by rw[← List.length_eq_zero_iff];assumption),bO,List.length_append];exact ho'
  ·have he:o.pieces=[]:=List.eq_nil_of_length_eq_zero (by omega);refine aV ?_ (by rfl);simp_all[rU,aGm]
  ·have he:o.pieces=[]:=List.eq_nil_of_length_eq_zero (by omega);refine aV ?_ (by rfl);simp_all[rU,aGm]
  ·have hk2:k=o.pieces.length:=by omega
   have hne:o.pieces ≠ []:=fun e=>by simp_all
   have hall:o.pieces.all okR=true:=mG (d:=([],[])) (fun j hj=>ha j (by omega));rw[aS (by omega)]at ho2;have hal:=vG (l:=o.pieces);have h20:=oI.1 hc;clear ha hpl;rcases ho2 with⟨rfl,hnil,_⟩|⟨i0,rfl,hg,_⟩
   ·have hnil:pB o.pieces=[]:=by simpa using hnil
    (refine zs1 (bRg [] o.args (by simp) hx) ?_;repeat' first|exact trivial|refine zJ ?_ ?_|refine zH fun hc=>?_);all_goals refine aV ?_ (by rfl)
    all_goals simp only[rU,hall,aGm,if_neg hne,hnil,Bool.true_and]
    all_goals first|(simp_all;done)|(simp_all;omega)
   ·(refine zx1 hg (bRg (pB o.pieces) o.args (by omega) hx) ?_;repeat' first|exact trivial|refine zJ ?_ ?_|refine zH fun hc=>?_);all_goals refine aV ?_ (by rfl)
    all_goals simp only[rU,hall,aGm,if_neg hne,Bool.true_and]
    all_goals first|(simp_all;done)|(simp_all;omega)
  ·refine aV ?_ (by rfl);have hne:o.pieces ≠ []:=fun e=>by simp_all
   have h20:¬o.pieces.length≤20:=fun h=>hc (oI.2 h);simp only[rU,aGm,if_neg hne,zf h20,Bool.false_and,Bool.and_false]
end Go.Proofs.YtdjcggcjlphdoaaGreatDoor
namespace Go.Proofs.YtdjcggcjlphdoaaGreatDoor
open Go Go.Vo
open Nat (reduceAdd reduceSub reduceMul reduceLeDiff reduceLT reduceEqDiff)
open Int (reduceNeg)
def lB(s:dF)(b:Str×Str):Bool:=jZ s b.1 && !decide (b.1=rG)&&s.sorts.contains b.2
def qF(s:dF)(b:Str×Str):Bool := !(climb s.below b.2).contains b.1
def yO(s:dF):Bool:=s.below.all (lB s)&&decide s.below.Nodup&&s.below.all (qF s)&&decide (s.below.length≤200)
theorem aEy{n:Nat}:((n:Int)≤200)↔n≤200:=by omega
theorem wR{s:dF}{k:Nat}(hk:k<s.below.length)(h:lB s (s.below.getD k ([],[]))=false):yO s=false:=by
 rw[yO,gM hk h];rfl
theorem bPh{a b:Str×Str}:(decide (a.1=b.1)&&(decide (a.2=b.2)&&true))=decide (a=b):=by
 rw[dK];simp[Prod.ext_iff]
theorem bZf(s:dF)(hs:OkS s)(hb:s.below.length≤1000): CT 109 [.agg (bX s)] (.b (yO s)):=by
 refine aZ cI Tryz.func109 g0 ?_
 ·skip;have h1:=hs.sorts;have h2:=hs.below;refine gW (fun(k:Nat)=>(.k::.k::.j::.j::.j::.k::.j::(rp 5 .k (.v (.i .i64 k)::(rp 36 .j (rp 19 .k [])))))) (fun k=>[.box false (sgC s)]) (fun k=>k≤s.below.length∧∀j,j<k→(lB s (s.below.getD j ([],[]))=true∧(s.below.take j).contains (s.below.getD j ([],[]))=false)) (fun k=>s.below.length-k) (0) _ ⟨aR _,fun j h=>by omega⟩ rfl (by simp[fO]) ?_;rintro k g j ⟨hk,ha⟩;refine zg ?_;(refine zs2 (bBm s (s.below.getD k ([],[])).1 h1) (E2 s.sorts (s.below.getD k ([],[])).2 h1) ?_;repeat' first|exact trivial|refine zJ ?_ ?_|refine zH fun hc=>?_)
  ·refine aV ?_ (by rfl);rw[wR (k:=k) (by omega) (by simp only[lB, *,Bool.and_false])]
  ·have hone:lB s (s.below.getD k ([],[]))=true:=by simp only[lB,rG, *,decide_false,Bool.not_false,dW]
   refine cO (fun(t:Nat×List AObj)=>(.k::.k::.j::.k::.k::.k::.j::(rp 33 .k (.v (.i .i64 (t.1:Nat))::(rp 7 .j (rp 20 .k [])))))) (fun t=>.box false (sgC s)::(g++(.box false [.s (s.below.getD k ([],[])).1,.s (s.below.getD k ([],[])).2]::t.2))) (fun t=>t.1≤k∧∀j,j<t.1→(s.below.take k).getD j ([],[])≠s.below.getD k ([],[])) (fun t=>k-t.1) ((0,[])) ⟨aR _,fun j h=>by simp at h⟩ rfl (by simp[fO]) ?_;rintro⟨m,g2⟩ j ⟨hm,hb2⟩;dsimp only at hm hb2;have hlt:(s.below.take k).length=k:=by simp;omega
   refine zh hlt ?_;(repeat'(first|refine gT ?_ ?_|refine gF ?_ ?_|refine gC ?_ ?_|refine aU (by omega) ?_|(intro hr;have hc:=hr;(try simp only[zdz]at hc);simp -implicitDefEqProofs (disch:=omega) only[hr,hlt,go_sem,simprocAttr];(try clear hr))))
   ·refine aV ?_ (by rfl);rw[bPh]at hc;have he:=of_decide_eq_true hc;have hm2:=cC (l:=s.below.take k) (d:=([],[])) (k:=m) (by omega);rw[← he]at hm2;have hcon:(s.below.take k).contains (s.below.getD k ([],[]))=true:=by simpa using hm2
    rw[yO,zf (fun hn=>by rw[oS hn (by omega)]at hcon;cases hcon),Bool.and_false];rfl
   ·rw[bPh]at hc;have he:=of_decide_eq_false hc;exact⟨(m+1,_),⟨by dsimp only;omega,cR hb2 (fun e=>he e.symm)⟩,by dsimp only;omega,rfl,by simp⟩
   ·have hmk:m=k:=by omega
    subst hmk;have hno:(s.below.take m).contains (s.below.getD m ([],[]))=false:=by
     rw[← aBk];intro hcon;have hm2:s.below.getD m ([],[])∈s.below.take m:=by simpa using hcon
     obtain⟨i,hi,he⟩:=dG.1 hm2;exact hb2 i (by omega) (by rw[aTo hi];exact he)
    exact⟨m+1,_,⟨by omega,cR ha ⟨hone,hno⟩⟩,by omega,rfl,by simp⟩
  ·refine aV ?_ (by rfl);rw[wR (k:=k) (by omega) (by simp only[lB,rG, *,decide_true,Bool.not_true,Bool.and_false,Bool.false_and])]
  ·refine aV ?_ (by rfl);rw[wR (k:=k) (by omega) (by simp only[lB, *,Bool.false_and])]
  ·have hall:s.below.all (lB s)=true:=mG (d:=([],[])) (fun j hj=>(ha j (by omega)).1);have hnd:s.below.Nodup:=xO (d:=([],[])) (fun j hj=>(ha j (by omega)).2);clear ha;refine gW (fun(k:Nat)=>(.k::.k::.j::(rp 5 .k (.j::(rp 43 .k (.v (.i .i64 k)::(rp 11 .j [.k,.k,.k,.k]))))))) (fun k=>[.box false (sgC s)]) (fun k=>k≤s.below.length∧∀j,j<k→qF s (s.below.getD j ([],[]))=true) (fun k=>s.below.length-k) (0) _ ⟨aR _,fun j h=>by omega⟩ rfl (by simp[fO]) ?_;rintro k g j ⟨hk,ha⟩;have hcl:=yJ s.below (s.below.getD k ([],[])).2;refine zg ?_;(refine zs2 (bGm s (s.below.getD k ([],[])).2) (E2 (climb s.below (s.below.getD k ([],[])).2) (s.below.getD k ([],[])).1) ?_;repeat' first|exact trivial|refine zJ ?_ ?_|refine zH fun hc=>?_)
   ·refine aV ?_ (by rfl);rw[yO,gM (p:=qF s) (d:=([],[])) (j:=k) (by omega) (by simp only[qF,hc,Bool.not_true]),Bool.and_false];rfl
   ·exact⟨k+1,_,⟨by omega,cR ha (by simp only[qF,hc,Bool.not_false])⟩,by omega,rfl,by simp⟩
   ·refine aV ?_ (by rfl);have hup:s.below.all (qF s)=true:=mG (d:=([],[])) (fun j hj=>ha j (by omega));rw[yO,hall,hup,zt hnd];simp[aEy]
end Go.Proofs.YtdjcggcjlphdoaaGreatDoor
namespace Go.Proofs.YtdjcggcjlphdoaaGreatDoor
open Go Go.Vo
open Nat (reduceAdd reduceSub reduceMul reduceLeDiff reduceLT reduceEqDiff)
open Int (reduceNeg)
def opR(s:dF)(o:LOp):Bool:=eK (zU o.name) && !jO.contains o.name&&aIe s o&&s.sorts.contains o.sort&&rU o&&wC o
def aXl(s:dF)(o:LOp):Bool:=eK o.name && !jO.contains o.name&&aIe s o&&jZ s o.sort&&decide (o.pieces.length=0)&&decide (o.prec=0)&&decide (o.assoc=0)&&decide (o.strict.length=0)
def mW(s:dF):List Str:=s.ops.map LOp.name++s.funs.map LOp.name
def aZp(s:dF):Bool:=s.ops.all (opR s)&&s.funs.all (aXl s)&&decide ((mW s).length≤200)&&decide (mW s).Nodup
theorem bPk{s:dF}{k:Nat}(hk:k<s.ops.length)(h:opR s (s.ops.getD k default)=false):aZp s=false:=by
 rw[aZp,gM hk h];rfl
theorem bKt{s:dF}{k:Nat}(hk:k<s.funs.length)(h:aXl s (s.funs.getD k default)=false):aZp s=false:=by
 rw[aZp,gM (p:=aXl s) hk h];simp
theorem bZe(s:dF)(hs:OkS s)(hn:s.ops.length+s.funs.length≤1000): CT 110 [.agg (bX s)] (.b (aZp s)):=by
 refine aZ cI Tryz.func110 g0 ?_
 ·skip;have h1:=hs.sorts;refine cO (fun(t:Nat×AV×List AObj)=>(.k::.k::.j::.v (t.2.1)::.k::.j::(rp 5 .k (.v (.i .i64 (t.1:Nat))::(rp 42 .j (rp 64 .k [])))))) (fun t=>.box false (sgC s)::t.2.2) (fun t=>t.1≤s.ops.length∧(∀j,j<t.1→opR s (s.ops.getD j default)=true)∧gD 1 1 t.2.2 t.2.1 (((s.ops.take t.1).map LOp.name).map .s) t.1) (fun t=>s.ops.length-t.1) ((0,.e0,[])) ⟨aR _,fun j h=>by simp at h,eX⟩ rfl (by simp[fO]) ?_;rintro⟨k,out,g⟩ j ⟨hk,ha,ho⟩;dsimp only at hk ha ho;have o1:k<s.ops.length→OkO (s.ops.getD k default):=fun h=>hs.opsO _ (cC h);refine zg ?_;(refine zs0 ?_;repeat' first|exact trivial|refine zJ ?_ ?_|refine zH fun hc=>?_)
  ·refine eI (pre:=[.box false (sgC s)]) (g:=g++[.box false (bG (s.ops.getD k default))]) (more:=[.arr false 1 ([.s (s.ops.getD k default).name])]) (news:=[.s (s.ops.getD k default).name]) (m:=1) ((ho).more _) rfl (by simp -implicitDefEqProofs (disch:=omega) only[go_sem,↓reduceIte,reduceAdd,reduceSub,reduceMul,reduceLeDiff,reduceLT,reduceEqDiff,reduceNeg,Nat.reduceBEq]) bLn zo9 sz9 by9 rfl (by decide) (by simp -implicitDefEqProofs (disch:=omega) only[go_sem,↓reduceIte,reduceAdd,reduceSub,reduceMul,reduceLeDiff,reduceLT,reduceEqDiff,reduceNeg,Nat.reduceBEq]) (by simp -implicitDefEqProofs (disch:=omega) only[go_sem,↓reduceIte,reduceAdd,reduceSub,reduceMul,reduceLeDiff,reduceLT,reduceEqDiff,reduceNeg,Nat.reduceBEq]) ⟨by omega,by omega⟩ ?_;intro out' g' ho' hkeep;have hbox:=hkeep g.length (.box false (bG (s.ops.getD k default))) (by rw[Y8];rfl) (fun c=>nofun);clear hkeep;have ho1:=o1 (by omega);refine zh hbox ?_;(repeat'(first|refine gT ?_ ?_|refine gF ?_ ?_|refine gC ?_ ?_|((first|(refine bM (bGl (s.ops.getD k default).name ho1.name) ?_ ?_;(focus(simp -implicitDefEqProofs (disch:=omega) only[hbox,zdA,go_sem,↓reduceIte,reduceAdd,reduceSub,reduceMul,reduceLeDiff,reduceLT,reduceEqDiff,reduceNeg,Nat.reduceBEq];done)))|(refine bM (bLs (s.ops.getD k default).name) ?_ ?_;(focus(simp -implicitDefEqProofs (disch:=omega) only[hbox,zdA,go_sem,↓reduceIte,reduceAdd,reduceSub,reduceMul,reduceLeDiff,reduceLT,reduceEqDiff,reduceNeg,Nat.reduceBEq];done)))|(refine bM (bGk s (s.ops.getD k default) h1 ho1.args) ?_ ?_;(focus(simp -implicitDefEqProofs (disch:=omega) only[hbox,zdA,go_sem,↓reduceIte,reduceAdd,reduceSub,reduceMul,reduceLeDiff,reduceLT,reduceEqDiff,reduceNeg,Nat.reduceBEq];done)))|(refine bM (E2 s.sorts (s.ops.getD k default).sort h1) ?_ ?_;(focus(simp -implicitDefEqProofs (disch:=omega) only[hbox,zdA,go_sem,↓reduceIte,reduceAdd,reduceSub,reduceMul,reduceLeDiff,reduceLT,reduceEqDiff,reduceNeg,Nat.reduceBEq];done)))|(refine bM (bTw (s.ops.getD k default) ho1) ?_ ?_;(focus(simp -implicitDefEqProofs (disch:=omega) only[hbox,zdA,go_sem,↓reduceIte,reduceAdd,reduceSub,reduceMul,reduceLeDiff,reduceLT,reduceEqDiff,reduceNeg,Nat.reduceBEq];done)))|(refine bM (bTv (s.ops.getD k default) ho1) ?_ ?_;(focus(simp -implicitDefEqProofs (disch:=omega) only[hbox,zdA,go_sem,↓reduceIte,reduceAdd,reduceSub,reduceMul,reduceLeDiff,reduceLT,reduceEqDiff,reduceNeg,Nat.reduceBEq];done))));simp -implicitDefEqProofs (disch:=omega) only[hbox,go_sem,↓reduceIte,reduceAdd,reduceSub,reduceMul,reduceLeDiff,reduceLT,reduceEqDiff,reduceNeg,Nat.reduceBEq])|refine aU (by omega) ?_|(intro hr;have hc:=hr;(try simp only[zdz]at hc);simp -implicitDefEqProofs (disch:=omega) only[hr,hbox,go_sem,↓reduceIte,reduceAdd,reduceSub,reduceMul,reduceLeDiff,reduceLT,reduceEqDiff,reduceNeg,Nat.reduceBEq];(try clear hr))));all_goals first|(refine aV ?_ (by rfl);rw[bPk (k:=k) (by omega) (by simp only[opR, *,decide_true,decide_false,Bool.and_false,Bool.false_and,Bool.and_true,Bool.true_and,Bool.not_true,Bool.not_false])];done)|skip
   refine⟨(k+1,out',g'),⟨by dsimp only;omega,cR ha (by simp only[opR, *,decide_true,decide_false,Bool.and_false,Bool.false_and,Bool.and_true,Bool.true_and,Bool.not_true,Bool.not_false]),?_⟩,by dsimp only;omega,rfl,rfl,by simp⟩;dsimp only;rw[eZ (d:=default) (by omega),bO,bO];exact ho'
  ·have hk2:k=s.ops.length:=by omega
   have hall:s.ops.all (opR s)=true:=mG (d:=default) (fun j hj=>ha j (by omega));rw[hk2,fR]at ho;clear ha hk o1;refine cO (fun(t:Nat×AV×List AObj)=>(.k::.k::.j::.v (t.2.1)::.k::.k::.k::.j::(rp 49 .k (.v (.i .i64 (t.1:Nat))::(rp 53 .j (rp 7 .k [])))))) (fun t=>.box false (sgC s)::t.2.2) (fun t=>t.1≤s.funs.length∧(∀j,j<t.1→aXl s (s.funs.getD j default)=true)∧gD 1 1 t.2.2 t.2.1 ((s.ops.map LOp.name).map .s++((s.funs.take t.1).map LOp.name).map .s) (s.ops.length+t.1)) (fun t=>s.funs.length-t.1) ((0,out,g)) ⟨aR _,fun j h=>by simp at h,by simpa using ho⟩ rfl (by simp[fO]) ?_;clear ho hk2;rintro⟨k,out,g⟩ j ⟨hk,ha,ho⟩;dsimp only at hk ha ho;have o1:k<s.funs.length→OkO (s.funs.getD k default):=fun h=>hs.funsO _ (cC h);refine zg ?_;(refine zs0 ?_;repeat' first|exact trivial|refine zJ ?_ ?_|refine zH fun hc=>?_)
   ·refine eI (pre:=[.box false (sgC s)]) (g:=g++[.box false (bG (s.funs.getD k default))]) (more:=[.arr false 1 ([.s (s.funs.getD k default).name])]) (news:=[.s (s.funs.getD k default).name]) (m:=1) ((ho).more _) rfl (by simp -implicitDefEqProofs (disch:=omega) only[go_sem,↓reduceIte,reduceAdd,reduceSub,reduceMul,reduceLeDiff,reduceLT,reduceEqDiff,reduceNeg,Nat.reduceBEq]) bLn zo9 sz9 by9 rfl (by decide) (by simp -implicitDefEqProofs (disch:=omega) only[go_sem,↓reduceIte,reduceAdd,reduceSub,reduceMul,reduceLeDiff,reduceLT,reduceEqDiff,reduceNeg,Nat.reduceBEq]) (by simp -implicitDefEqProofs (disch:=omega) only[go_sem,↓reduceIte,reduceAdd,reduceSub,reduceMul,reduceLeDiff,reduceLT,reduceEqDiff,reduceNeg,Nat.reduceBEq]) ⟨by omega,by omega⟩ ?_;intro out' g' ho' hkeep;have hbox:=hkeep g.length (.box false (bG (s.funs.getD k default))) (by rw[Y8];rfl) (fun c=>nofun);clear hkeep;have ho1:=o1 (by omega);refine zh hbox ?_;(refine zx4 hbox (P8 (s.funs.getD k default).name ho1.name) (bLs (s.funs.getD k default).name) (bGk s (s.funs.getD k default) h1 ho1.args) (bBm s (s.funs.getD k default).sort h1) ?_;repeat' first|exact trivial|refine zJ ?_ ?_|refine zH fun hc=>?_);all_goals try simp only[aVn,Nat.pos_iff_ne_zero,Q4]at *
    all_goals first|(refine aV ?_ (by rfl);rw[bKt (k:=k) (by omega) (by simp only[aXl, *,decide_true,decide_false,Bool.and_false,Bool.false_and,Bool.and_true,Bool.true_and,Bool.not_true,Bool.not_false])];done)|skip
    refine⟨(k+1,out',g'),⟨by dsimp only;omega,cR ha (by simp only[aXl, *,decide_true,decide_false,Bool.and_false,Bool.false_and,Bool.and_true,Bool.true_and,Bool.not_true,Bool.not_false]),?_⟩,by dsimp only;omega,rfl,rfl,by simp⟩;dsimp only;rw[eZ (d:=default) (by omega),bO,bO,← cK];exact ho'
   ·have hk2:k=s.funs.length:=by omega
    have hf:s.funs.all (aXl s)=true:=mG (d:=default) (fun j hj=>ha j (by omega));rw[hk2,fR]at ho;clear ha hk o1 hc hk2;have hnl:(mW s).length=s.ops.length+s.funs.length:=by simp[mW]
    have hop:aZp s=(decide ((mW s).length≤200)&&decide (mW s).Nodup):=by rw[aZp,hall,hf];rfl
    have hcell:(s.ops.map LOp.name).map AV.s++(s.funs.map LOp.name).map AV.s=(mW s).map .s:=by simp[mW]
    rw[hcell,← hnl]at ho;rcases ho with⟨rfl,hnil,_⟩|⟨i0,rfl,hg,_⟩
    ·have hnil:mW s=[]:=by simpa using hnil
     simp -implicitDefEqProofs (disch:=omega) only[go_sem,↓reduceIte,reduceAdd,reduceSub,reduceMul,reduceLeDiff,reduceLT,reduceEqDiff,reduceNeg,Nat.reduceBEq];(repeat'(first|refine gT ?_ ?_|refine gF ?_ ?_|refine gC ?_ ?_|((refine bM (bBl [] (by simp)) ?_ ?_;(focus(simp -implicitDefEqProofs (disch:=omega) only[zdA,go_sem,↓reduceIte,reduceAdd,reduceSub,reduceMul,reduceLeDiff,reduceLT,reduceEqDiff,reduceNeg,Nat.reduceBEq];done)));simp -implicitDefEqProofs (disch:=omega) only[go_sem,↓reduceIte,reduceAdd,reduceSub,reduceMul,reduceLeDiff,reduceLT,reduceEqDiff,reduceNeg,Nat.reduceBEq])|refine aU (by omega) ?_|(intro hr;have hc:=hr;(try simp only[zdz]at hc);simp -implicitDefEqProofs (disch:=omega) only[hr,go_sem,↓reduceIte,reduceAdd,reduceSub,reduceMul,reduceLeDiff,reduceLT,reduceEqDiff,reduceNeg,Nat.reduceBEq];(try clear hr))));all_goals refine aV ?_ (by rfl)
     all_goals first|(exfalso;omega)|(rw[hop,hnil];rfl)
    ·refine zh hg ?_;(refine zx1 hg (bBl (mW s)) ?_;repeat' first|exact trivial|refine zJ ?_ ?_|refine zH fun hc=>?_);all_goals refine aV ?_ (by rfl)
     all_goals simp only[aEy]at hc
     all_goals rw[hop]
     all_goals first|rw[zt hc,Bool.true_and]|rw[zf hc,Bool.false_and]
end Go.Proofs.YtdjcggcjlphdoaaGreatDoor
namespace Go.Proofs.YtdjcggcjlphdoaaGreatDoor
open Go Go.Vo
open Nat (reduceAdd reduceSub reduceMul reduceLeDiff reduceLT reduceEqDiff)
open Int (reduceNeg)
def aBs(s:dF):Bool:=decide (s.sorts.length≤40)&&decide (s.below.length≤200)&&decide (s.ops.length+s.funs.length≤200)&&B4 s&&yO s&&aZp s&&s.values.all (jZ s)&&decide s.values.Nodup
theorem exists_eq(s:dF)(x:Str):jZ s x=existsA s x:=by
 have:=aFh x;unfold jZ existsA keysOf;rw[dK];have h2:=dK.1 this;simp only[eS]at h2;simp[h2]
theorem aCt{t:Str}:oQ t=vV t:=by
 unfold oQ vV xX;have hc:(fun c:UInt8=>oC c.toNat)=fun c=>nH c.toNat:=by
  funext c;simp only[oC,nH,part,lC]
 rw[hc];have hn:eK t=true→1≤t.length:=by
  intro h;cases t with
  |nil=>revert h;decide
  |cons a l=>simp
 cases h:eK t
 ·simp
 ·have:=hn h;simp[this];by_cases h2:t.length≤20<;>simp[h2]
theorem aZe(p:Str×Str):qR p=okR p:=by
 unfold qR okR;rw[aCt];have h0:vV []=false:=by decide
 by_cases h2:p.2=[]
 ·simp[h2]
 ·by_cases h1:p.1=[]
  ·simp[h2,h1,h0]
  ·simp[h2,h1]
theorem bXe(s:dF)(o:LOp):aTk s o=opR s o:=by
 have hp:(fun p=>qR p)=okR:=by funext p;exact aZe p
 have hx:s.sorts.contains o.sort=s.sorts.contains o.sort:=rfl;have he:o.args.all (existsA s)=o.args.all (jZ s):=by congr 1;funext x;exact(exists_eq s x).symm
 unfold aTk opR opHead aIe rU wC aGm aRn aIc rO;rw[show qR=okR from hp,he];rw[dK];by_cases hz:o.pieces=[]
 ·simp only[hz,List.all_nil,cH,aD,if_true,aB,decide_eq_true_eq,cM,dB];constructor
  ·rintro h;simp_all;omega
  ·rintro h;simp_all
 ·have:o.pieces.isEmpty=false:=by simpa using hz
  have hl:0<o.pieces.length:=List.length_pos_iff.2 hz;simp only[hz,this,hl,if_false,aB,decide_eq_true_eq,cM,dB,aE,false_or,true_or,and_true];constructor
  ·rintro h;simp_all
  ·rintro h;simp_all
theorem bQg(s:dF)(o:LOp):Y4 s o=aXl s o:=by
 have he:o.args.all (existsA s)=o.args.all (jZ s):=by congr 1;funext x;exact(exists_eq s x).symm
 unfold Y4 aXl aIe;rw[he,exists_eq];rw[dK];simp only[aB,decide_eq_true_eq,dB];constructor
 ·rintro h;simp_all
 ·rintro h;simp_all
theorem aYh(s:dF):B4 s=(s.sorts.all C2&&decide (s.sorts.length≤40)&&decide s.sorts.Nodup):=by
 unfold B4;have:C1=C2:=by funext x;simp only[C2,C1,aFh]
 rw[this]
theorem aVx(s:dF)(b:Str×Str):(lB s b&&qF s b)=rY s b:=by
 unfold lB qF rY aFl;rw[exists_eq];by_cases h:s.sorts.contains b.2=true
 ·have h2:existsA s b.2=true:=by
   rw[← exists_eq];unfold jZ;rw[h,aY]
  rw[h,h2,if_pos rfl];rw[dK];simp only[aB,dB,decide_eq_true_eq,decide_eq_false_iff_not];exact⟨fun⟨⟨⟨a,b⟩,c⟩,d⟩=>⟨⟨⟨b,a⟩,c⟩,d⟩,fun⟨⟨⟨a,b⟩,c⟩,d⟩=>⟨⟨⟨b,a⟩,c⟩,d⟩⟩
 ·have h:=cT.2 h;rw[h];simp
theorem bMv{α:Type}{p q:α→Bool}{l:List α}:(l.all p&&l.all q)=l.all fun x=>p x&&q x:=by
 induction l with
 |nil=>rfl
 |cons x l ih=>
  simp only[fJ,← ih];cases p x<;>cases q x<;>cases l.all p<;>cases l.all q<;>rfl
theorem bCv(s:dF):yO s=(s.below.all (rY s)&&decide s.below.Nodup&&decide (s.below.length≤200)):=by
 have h:s.below.all (rY s)=(s.below.all (lB s)&&s.below.all (qF s)):=by
  rw[bMv];congr 1;funext b;exact(aVx s b).symm
 rw[h,yO];cases s.below.all (lB s)<;>cases s.below.all (qF s)<;>simp
theorem aXs(s:dF):aBs s=fM s:=by
 have h1:s.ops.all (aTk s)=s.ops.all (opR s):=by congr 1;funext x;exact bXe s x
 have h2:s.funs.all (Y4 s)=s.funs.all (aXl s):=by congr 1;funext x;exact bQg s x
 have h3:s.values.all (existsA s)=s.values.all (jZ s):=by congr 1;funext x;exact(exists_eq s x).symm
 have h4:(mW s).length=s.ops.length+s.funs.length:=by simp[mW]
 have h5:qB s=mW s:=rfl;unfold aBs fM oO pO qL;rw[aYh,bCv,aZp,h1,h2,h3,h4,h5];rw[dK];simp only[aB];constructor
 ·rintro⟨⟨⟨⟨⟨⟨⟨a,b⟩,c⟩,⟨d,e⟩,f⟩,⟨g,h⟩,i⟩,⟨⟨j,k⟩,l⟩,m⟩,n⟩,o⟩;exact⟨⟨⟨⟨⟨⟨a,b⟩,c⟩,h⟩,o⟩,⟨f,d⟩,m⟩,⟨⟨g,n⟩,j⟩,k⟩
 ·rintro⟨⟨⟨⟨⟨⟨a,b⟩,c⟩,h⟩,o⟩,⟨f,d⟩,m⟩,⟨⟨g,n⟩,j⟩,k⟩;exact⟨⟨⟨⟨⟨⟨⟨a,b⟩,c⟩,⟨d,a⟩,f⟩,⟨g,h⟩,b⟩,⟨⟨j,k⟩,c⟩,m⟩,n⟩,o⟩
theorem cFb{n:Nat}:(40<(n:Int))↔¬n≤40:=by omega
theorem bXu{n:Nat}:(200<(n:Int))↔¬n≤200:=by omega
theorem bQe{n m:Nat}:(200<(n:Int)+m)↔¬n+m≤200:=by omega
theorem bZn(s:dF)(hm:Small s)(hs:OkS s): CT 55 [.agg (bX s)] (.b (fM s)):=by
 refine aZ cI Tryz.func55 g0 ?_
 ·skip;have h1:=hm.sorts;have h2:=hm.below;have h3:=hm.ops;have h4:=hm.funs;have h5:=hm.values;rw[← aXs];(refine zs3 (bZg s hs) (bZf s hs h2) (bZe s hs) ?_;repeat' first|exact trivial|refine zJ ?_ ?_|refine zH fun hc=>?_);all_goals try simp only[cFb,bXu,bQe,Q4]at *
  all_goals first|(refine aV ?_ (by rfl);simp only[aBs, *,decide_true,decide_false,Bool.and_false,Bool.false_and,Bool.and_true,Bool.true_and,Bool.not_true,Bool.not_false];done)|skip
  refine cO (fun(k:Nat)=>(.k::.k::.j::.k::.j::(rp 38 .k (.v (.i .i64 k)::(rp 8 .j [.k,.k,.k]))))) (fun k=>[.box false (sgC s)]) (fun k=>k≤s.values.length∧∀j,j<k→jZ s (s.values.getD j [])=true) (fun k=>s.values.length-k) (0) ⟨aR _,fun j h=>by omega⟩ rfl (by simp[fO]) ?_;rintro k j ⟨hk,ha⟩;refine zg ?_;(refine zs2 (bBm s (s.values.getD k [])) (bBl s.values) ?_;repeat' first|exact trivial|refine zJ ?_ ?_|refine zH fun hc=>?_)
  ·refine aV ?_ (by rfl);have hno:s.values.all (jZ s)=false:=gM (d:=[]) (j:=k) (by omega) hc;rw[aBs,hno];simp
  ·exact⟨k+1,⟨by omega,cR ha hc⟩,by omega,by simp⟩
  ·refine aV ?_ (by rfl);have hall:s.values.all (jZ s)=true:=mG (d:=[]) (fun j hj=>ha j (by omega));simp only[aBs, *,decide_true,decide_false,Bool.and_false,Bool.false_and,Bool.and_true,Bool.true_and,Bool.not_true,Bool.not_false]
end Go.Proofs.YtdjcggcjlphdoaaGreatDoor
namespace Go.Proofs.YtdjcggcjlphdoaaGreatDoor
open Go Go.Vo
open Nat (reduceAdd reduceSub reduceMul reduceLeDiff reduceLT reduceEqDiff)
open Int (reduceNeg)
theorem aUh{s:dF}(h:few s=true):Small s:=by
 simp only[few,aB,decide_eq_true_eq]at h;exact⟨by omega,by omega,by omega,by omega,by omega⟩
end Go.Proofs.YtdjcggcjlphdoaaGreatDoor
namespace Go.Proofs.YtdjcggcjlphdoaaGreatDoor
open Go Go.Vo
open Nat (reduceAdd reduceSub reduceMul reduceLeDiff reduceLT reduceEqDiff)
open Int (reduceNeg)
def sP(s:dF)(x y:Str):Bool:=decide (y=rG)||(climb s.below x).contains y
theorem E5{s:dF}{x y:Str}(h:existsA s x=true):sP s x y=mP s x y:=by simp only[sP,mP,aFl,h,if_true]
theorem bBk(s:dF)(x y:Str)(hm:Small s): CT 172 [.agg (bX s),.s x,.s y] (.b (sP s x y)):=by
 refine aZ cI Tryz.func172 g0 ?_
 ·skip;have hl:=yJ s.below x;have h2:=hm.below;(refine zs2 (bGm s x) (E2 (climb s.below x) y) ?_;repeat' first|exact trivial|refine zJ ?_ ?_|refine zH fun hc=>?_);all_goals(refine aV ?_ (by rfl))
  all_goals simp_all[sP,rG]
theorem bZb(s:dF)(x y:Str)(hm:Small s): CT 234 [.agg (bX s),.s x,.s y] (.b (sP s x y||sP s y x)):=by
 refine aZ cI Tryz.func234 g0 ?_
 ·skip;(refine zs2 (bBk s x y hm) (bBk s y x hm) ?_;repeat' first|exact trivial|refine zJ ?_ ?_|refine zH fun hc=>?_);all_goals(refine aV ?_ (by rfl))
  all_goals simp_all
end Go.Proofs.YtdjcggcjlphdoaaGreatDoor
namespace Go.Proofs.YtdjcggcjlphdoaaGreatDoor
open Go Go.Vo
open Nat (reduceAdd reduceSub reduceMul reduceLeDiff reduceLT reduceEqDiff)
open Int (reduceNeg)
theorem bKz{α:Type}{l:List α}{p:α→Bool}{k:Nat}{d:α}(hk:k<l.length)(h:p (l.getD k d)=true)(hb:∀j,j<k→(!p (l.getD j d))=true):l.find? p=some (l.getD k d):=by
 rw[List.find?_eq_some_iff_getElem];refine⟨h,k,hk,by simp[List.getD,hk],fun j hj=>?_⟩;have:=hb j hj;simpa[List.getD,show j<l.length by omega]using this
theorem bKy{α:Type}{l:List α}{p:α→Bool}{d:α}(hb:∀j,j<l.length→(!p (l.getD j d))=true):l.find? p=none:=by
 rw[F7];intro x hx;obtain⟨j,hj,rfl⟩:=dG.1 hx;have:=hb j hj;simpa[List.getD,hj]using this
theorem aEg{h:List AObj}{b:Bool}:Fin h (.tup [.agg [.s [],.e0,.s [],.e0,.i .i64 0,.i .i64 0,.e0],.b b]) (.tup [elO default,.b b]):=
 .inr ⟨⟨⟨rfl,rfl,rfl,rfl,rfl,rfl,rfl,trivial⟩,rfl,trivial⟩,by simp[elO,bG,cX,finIdsL,avs,avb,avi],by simp[elO,bG,cX,finIdsL,avs,avb,avi]⟩
def iV(r:Option LOp):AV:=match r with
 |some o=>.tup [elO o,.b true]
 |none=>.tup [elO default,.b false]
theorem aLk(l:List LOp)(x:Str)(hl:l.length≤140737488355328): CT 170 [avo l,.s x] (iV (l.find? fun o=>decide (o.name=x))):=by
 refine cW cI Tryz.func170 g0 ?_
 ·simp -implicitDefEqProofs (disch:=omega) only[Tryz.f170,go_sem,List.replicate,simprocAttr,avo];refine gW (fun(k:Nat)=>(rp 5 .k (.j::.k::.j::.k::.k::.v (.i .i64 k)::(rp 9 .j [.k])))) (fun k=>[.box false [.s [],.e0,.s [],.e0,.i .i64 0,.i .i64 0,.e0]]) (fun k=>k≤l.length∧∀j,j<k→(!decide ((l.getD j default).name=x))=true) (fun k=>l.length-k) (0) _ ⟨aR _,fun j h=>by omega⟩ rfl (by simp[fO]) ?_;rintro k g j ⟨hk,ha⟩;refine zg ?_;(refine zs0 ?_;repeat' first|exact trivial|refine zJ ?_ ?_|refine zH fun hc=>?_)
  ·have e:(l.find? fun o=>decide (o.name=x))=some (l.getD k default):=bKz (by omega) (zt hc) ha;rw[e];exact aV rfl (by simp only[iV,elO,pers,persL,aCu,bG,avs,avb,avi,jW,rV,jR,dW])
  ·exact⟨k+1,_,⟨by omega,cR ha (by rw[zf hc];rfl)⟩,by omega,rfl,by simp⟩
  ·have e:(l.find? fun o=>decide (o.name=x))=none:=bKy (d:=default) (fun j hj=>ha j (by omega));rw[e];exact aEg
end Go.Proofs.YtdjcggcjlphdoaaGreatDoor

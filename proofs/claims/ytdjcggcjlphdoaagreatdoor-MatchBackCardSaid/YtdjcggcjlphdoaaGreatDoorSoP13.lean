/-
  Contracts of the library (sorting, fields, a byte in a string) at this program: laid by the kit's tool; no condition.
-/
import Derived.Shelf.Small.Strs
import Derived.Shelf.Strconv.Itoa3
import Derived.Shelf.Strings.Fields
import Derived.Test.YtdjcggcjlphdoaaGreatDoorProg
import Derived.Test.YtdjcggcjlphdoaaGreatDoorSoP12
import Derived.Sort.Walk0
set_option linter.unusedVariables false
set_option maxRecDepth 100000
set_option linter.unusedSimpArgs false
set_option maxHeartbeats 4000000
namespace Go.Proofs
open Go.Shelf
def Tryz.lays137_ren:Go.Shelf.Ren:=⟨fun|137=>255|217=>271|266=>280|n=>n,fun|9=>9|5=>5|3=>3|n=>n,fun|n=>n⟩
theorem Tryz.lays137:Go.Proofs.Lays.n137 Tryz.prog Tryz.lays137_ren:={
 mixed:=by kernel_rfl
 f137:=Tryz.func255.trans (congrArg some (by kernel_rfl))
 f217:=Tryz.func271.trans (congrArg some (by kernel_rfl))
 f266:=Tryz.func280.trans (congrArg some (by kernel_rfl))
 t3:=Tryz.underlying3
 a3:=Tryz.isAgg3
 z3:=Tryz.sizeOf3
 v3:=Tryz.zeroValue3
 t5:=Tryz.underlying5
 a5:=Tryz.isAgg5
 z5:=Tryz.sizeOf5
 v5:=Tryz.zeroValue5
 t9:=Tryz.underlying9
 a9:=Tryz.isAgg9
 z9:=Tryz.sizeOf9
 v9:=Tryz.zeroValue9}
open Go.RowKit in
theorem Tryz.strings_IndexByte(s:ByteArray)(c:Int)(w:World) :
 Calls Tryz.prog 255 #[.string s,.int .u8 c] w fun e w'=>e=.returned (.int .i64 (Lib.indexByte s.data.toList c.toNat.toUInt8))∧w'=w:=Any.strings_IndexByte Tryz.lays137 s c w
def Tryz.lays157_ren:Go.Shelf.Ren:=⟨fun|157=>213|229=>252|199=>253|261=>270|311=>278|312=>279|n=>n,fun|9=>9|31=>22|3=>3|5=>5|4=>4|119=>240|0=>0|40=>242|152=>264|21=>21|154=>266|51=>267|141=>269|196=>278|193=>275|198=>281|49=>279|194=>276|201=>284|226=>287|46=>237|227=>288|n=>n,fun|0=>0|6=>1|n=>n⟩
theorem Tryz.lays157:Go.Proofs.Lays.n157 Tryz.prog Tryz.lays157_ren:={
 mixed:=by kernel_rfl
 f157:=Tryz.func213.trans (congrArg some (by kernel_rfl))
 f199:=Tryz.func253.trans (congrArg some (by kernel_rfl))
 f229:=Tryz.func252.trans (congrArg some (by kernel_rfl))
 f261:=Tryz.func270.trans (congrArg some (by kernel_rfl))
 f311:=Tryz.func278.trans (congrArg some (by kernel_rfl))
 f312:=Tryz.func279.trans (congrArg some (by kernel_rfl))
 t0:=Tryz.underlying0
 a0:=Tryz.isAgg0
 z0:=Tryz.sizeOf0
 v0:=Tryz.zeroValue0
 t3:=Tryz.underlying3
 a3:=Tryz.isAgg3
 z3:=Tryz.sizeOf3
 v3:=Tryz.zeroValue3
 t4:=Tryz.underlying4
 a4:=Tryz.isAgg4
 z4:=Tryz.sizeOf4
 v4:=Tryz.zeroValue4
 t5:=Tryz.underlying5
 a5:=Tryz.isAgg5
 z5:=Tryz.sizeOf5
 v5:=Tryz.zeroValue5
 t9:=Tryz.underlying9
 a9:=Tryz.isAgg9
 z9:=Tryz.sizeOf9
 v9:=Tryz.zeroValue9
 t21:=Tryz.underlying21
 a21:=Tryz.isAgg21
 z21:=Tryz.sizeOf21
 v21:=Tryz.zeroValue21
 t31:=Tryz.underlying22
 a31:=Tryz.isAgg22
 z31:=Tryz.sizeOf22
 v31:=Tryz.zeroValue22
 t40:=Tryz.underlying242
 a40:=Tryz.isAgg242
 z40:=Tryz.sizeOf242
 v40:=Tryz.zeroValue242
 t46:=Tryz.underlying237
 a46:=Tryz.isAgg237
 z46:=Tryz.sizeOf237
 v46:=Tryz.zeroValue237
 t49:=Tryz.underlying279
 a49:=Tryz.isAgg279
 z49:=Tryz.sizeOf279
 v49:=Tryz.zeroValue279
 t51:=Tryz.underlying267
 a51:=Tryz.isAgg267
 z51:=Tryz.sizeOf267
 v51:=Tryz.zeroValue267
 t119:=Tryz.underlying240
 a119:=Tryz.isAgg240
 z119:=Tryz.sizeOf240
 t141:=Tryz.underlying269
 a141:=Tryz.isAgg269
 z141:=Tryz.sizeOf269
 v141:=Tryz.zeroValue269
 t152:=Tryz.underlying264
 a152:=Tryz.isAgg264
 z152:=Tryz.sizeOf264
 v152:=Tryz.zeroValue264
 t154:=Tryz.underlying266
 a154:=Tryz.isAgg266
 z154:=Tryz.sizeOf266
 v154:=Tryz.zeroValue266
 t193:=Tryz.underlying275
 a193:=Tryz.isAgg275
 z193:=Tryz.sizeOf275
 v193:=Tryz.zeroValue275
 t194:=Tryz.underlying276
 a194:=Tryz.isAgg276
 z194:=Tryz.sizeOf276
 v194:=Tryz.zeroValue276
 t196:=Tryz.underlying278
 a196:=Tryz.isAgg278
 z196:=Tryz.sizeOf278
 v196:=Tryz.zeroValue278
 t198:=Tryz.underlying281
 a198:=Tryz.isAgg281
 z198:=Tryz.sizeOf281
 v198:=Tryz.zeroValue281
 t201:=Tryz.underlying284
 a201:=Tryz.isAgg284
 z201:=Tryz.sizeOf284
 v201:=Tryz.zeroValue284
 t226:=Tryz.underlying287
 a226:=Tryz.isAgg287
 z226:=Tryz.sizeOf287
 v226:=Tryz.zeroValue287
 t227:=Tryz.underlying288
 a227:=Tryz.isAgg288
 z227:=Tryz.sizeOf288
 v227:=Tryz.zeroValue288
 g0:=by kernel_rfl
 g6:=by kernel_rfl}
end Go.Proofs
namespace Go.Proofs.YtdjcggcjlphdoaaGreatDoor
open Go Go.Vo
open Nat (reduceAdd reduceSub reduceMul reduceLeDiff reduceLT reduceEqDiff)
open Int (reduceNeg)
theorem bYa(l:List LOp)(hl:l.length≤1172812402961): CT 87 [avo l] (.own 1 ((l.map LOp.name).map .s) l.length):=by
 refine bQ cZ Tryz.func87 g0 ?_
 ·skip;refine dF (fun(s:Nat×AV×List AObj)=>(.k::.k::.k::.v (s.2.1)::.k::.j::.k::.k::.v (.i .i64 (s.1:Nat))::(rp 9 .j [.k]))) (fun s=>s.2.2) (fun s=>s.1≤l.length∧jI 1 0 s.2.2 s.2.1 (((l.take s.1).map LOp.name).map .s) s.1) (fun s=>l.length-s.1) ((0,.e0,[])) ⟨bJ _,kX⟩ rfl (by simp[hZ]) ?_;rintro⟨k,out,g⟩ j ⟨hk,ho⟩;dsimp only at hk ho;refine zg ?_;(refine zs0 ?_;repeat' first|exact trivial|refine zJ ?_ ?_|refine zH fun hc=>?_)
  ·refine gM (pre:=[]) (news:=[.s (l.getD k default).name]) (m:=1) ho rfl rfl cBr zo9 sz9 by9 rfl (by decide) (by simp -implicitDefEqProofs (disch:=omega) only[go_sem,simprocAttr]) (by simp -implicitDefEqProofs (disch:=omega) only[go_sem,simprocAttr]) ⟨by omega,by omega⟩ ?_;intro out' g' ho' _;refine zg ?_;refine⟨(k+1,out',g'),⟨by omega,?_⟩,by simp;omega,rfl,by simp⟩;rw[fO (d:=default) (by omega),cG,cG];exact ho'
  ·have h1:k=l.length:=by omega
   subst h1;exact aBe (pre:=[]) (by simpa using ho) mA
def tZ(x:Str)(L:List Str)(b:Str×Str):List Str:=if b.1=x∧L.contains b.2=false then L++[b.2]else L
def rO(l:List (Str×Str))(x:Str)(L:List Str):List Str:=l.foldl (tZ x) L
def climbG(l:List (Str×Str)):Nat→Nat→List Str→List Str
 |0,_,L=>L
 |f+1,i,L=>if i<L.length then climbG l f (i+1) (rO l (L.getD i []) L)else L
def climb(l:List (Str×Str))(a:Str):List Str:=climbG l (l.length+1) 0 [a]
theorem D9(x:Str)(L:List Str)(b:Str×Str):(tZ x L b=L)∨(b.1=x∧L.contains b.2=false∧tZ x L b=L++[b.2]):=by
 unfold tZ;split
 ·rename_i h;exact .inr ⟨h.1,h.2,rfl⟩
 ·exact .inl rfl
structure Climbs(l:List (Str×Str))(a:Str)(L:List Str):Prop where
 nd:L.Nodup
 sub:∀x∈L,x=a∨∃b∈l,b.2=x
 me:a∈L
theorem Climbs.step{l:List (Str×Str)}{a x:Str}{L:List Str}{b:Str×Str}(h:Climbs l a L)(hb:b∈l):Climbs l a (tZ x L b):=by
 rcases D9 x L b with e|⟨_,h2,e⟩
 ·rw[e];exact h
 ·rw[e];refine⟨?_,?_,by simp[h.me]⟩
  ·rw[mB];refine⟨h.nd,by simp,?_⟩;intro y hy z hz hyz;simp only[aV]at hz;have:b.2∉L:=by simpa using h2
   exact this (hz▸hyz▸hy)
  ·intro y hy;rcases bM.1 hy with hy|hy
   ·exact h.sub y hy
   ·simp only[aV]at hy;exact .inr ⟨b,hb,hy.symm⟩
theorem yO{α:Type}[DecidableEq α]:∀{L M:List α},L.Nodup→(∀x∈L,x∈M)→L.length≤M.length
 | [],M,_,_=>bJ _
 |x :: L,M,hn,hs=>by
  rw[kT]at hn;have hx:=hs x (by simp);have:=yO (L:=L) (M:=M.erase x) hn.2 (fun y hy=>by
   have hne:y≠x:=fun e=>hn.1 (e▸hy);exact(List.mem_erase_of_ne hne).2 (hs y (by simp[hy])))
  rw[List.length_erase_of_mem hx]at this;have hpos:0<M.length:=iI hx;simp only[aQ];omega
theorem Climbs.len{l:List (Str×Str)}{a:Str}{L:List Str}(h:Climbs l a L):L.length≤l.length+1:=by
 have:=yO (M:=a::l.map (·.2)) h.nd (fun x hx=>by
  rcases h.sub x hx with h1|⟨b,h1,h2⟩
  ·simp[h1]
  ·simp only[cH,dS];exact .inr ⟨b,h1,h2⟩)
 simpa using this
theorem aAg{x:Str}{L:List Str}{b:Str×Str}{i:Nat}(hi:i<L.length):(tZ x L b).getD i []=L.getD i []∧i<(tZ x L b).length:=by
 rcases D9 x L b with e|⟨_,_,e⟩
 ·rw[e];exact⟨rfl,hi⟩
 ·rw[e];simp[List.getD,aG hi];omega
theorem aJt{l:List (Str×Str)}{i:Nat}{L:List Str}(h:L.length≤i):∀f,climbG l f i L=L
 |0=>rfl
 |f+1=>by simp only[climbG];rw[if_neg (by omega)]
theorem tY{l:List (Str×Str)}{x:Str}{L:List Str}{k:Nat}(h:k<l.length):rO (l.take (k+1)) x L=tZ x (rO (l.take k) x L) (l.getD k ([],[])):=by
 rw[fO (d:=([],[])) h];simp[rO,List.foldl_append]
structure S4(l:List (Str×Str))(a:Str)(i:Nat)(L:List Str):Prop where
 le:i≤L.length
 c:Climbs l a L
 eq:climbG l (l.length+1-i) i L=climb l a
theorem S4.start(l:List (Str×Str))(a:Str):S4 l a 0 [a]:=⟨by simp,⟨by simp,by simp,by simp⟩,rfl⟩
theorem S4.next{l:List (Str×Str)}{a:Str}{i:Nat}{L:List Str}(h:S4 l a i L)(hi:i<L.length)(hc:Climbs l a (rO l (L.getD i []) L))(hl:i<(rO l (L.getD i []) L).length):S4 l a (i+1) (rO l (L.getD i []) L):=by
 refine⟨hl,hc,?_⟩;have:=h.c.len;have e:l.length+1-i=(l.length+1-(i+1))+1:=by omega
 rw[← h.eq,e,climbG,if_pos hi]
theorem bZq(s:dX)(a:Str)(hb:s.below.length≤1000000): CT 95 [.agg (dT s),.s a] (.own 1 ((climb s.below a).map .s) (climb s.below a).length):=by
 refine bQ cZ Tryz.func95 g0 ?_
 ·skip;refine dF (fun(t:Nat×List Str×AV×List AObj)=>(rp 5 .k (.v (t.2.2.1)::.v (.i .i64 (t.1:Nat))::.k::.j::.k::.k::(rp 33 .j [.k])))) (fun t=>.box false (sgC s)::t.2.2.2) (fun t=>S4 s.below a t.1 t.2.1∧jI 1 1 t.2.2.2 t.2.2.1 (t.2.1.map .s) t.2.1.length) (fun t=>s.below.length+1-t.1) ((0,[a],.hs 1 0 1 false,[.arr false 1 [.s a]])) ⟨S4.start _ _,.inr ⟨0,rfl,rfl,rfl⟩⟩ rfl (by simp[hZ]) ?_;rintro⟨i,L,out,g⟩ j ⟨hI,ho⟩;dsimp only at hI ho;have hlen:=hI.c.len;have hle:=hI.le;rcases ho with⟨_,hnil,_⟩|⟨i0,rfl,hg,_⟩
  ·exfalso;have h1:L=[]:=by simpa using hnil
   have:=hI.c.me;simp[h1]at this
  refine zh hg ?_;(refine zx0 hg ?_;repeat' first|exact trivial|refine zJ ?_ ?_|refine zH fun hc=>?_)
  ·have hcl:i<L.length:=by simpa using hc
   refine dF (fun(t:Nat×List Str×AV×List AObj)=>(rp 5 .k (.v (t.2.2.1)::.k::.k::.j::(rp 11 .k (.v (.i .i64 (t.1:Nat))::(rp 23 .j [.k])))))) (fun t=>.box false (sgC s)::t.2.2.2) (fun t=>t.1≤s.below.length∧t.2.1=rO (s.below.take t.1) (L.getD i []) L∧Climbs s.below a t.2.1∧(t.2.1.getD i []=L.getD i []∧i<t.2.1.length)∧jI 1 1 t.2.2.2 t.2.2.1 (t.2.1.map .s) t.2.1.length) (fun t=>s.below.length-t.1) ((0,L,.hs (i0+1) 0 L.length false,g)) ⟨bJ _,rfl,hI.c,⟨rfl,hcl⟩,.inr ⟨i0,rfl,hg,by simp⟩⟩ rfl (by simp[hZ]) ?_;rintro⟨k,M,out,g⟩ j ⟨hk,hM,hc2,⟨hget,hlt⟩,ho⟩;dsimp only at hk hM hc2 hget hlt ho;have hlenM:=hc2.len;have ho1:=ho;rcases ho with⟨_,hnil,_⟩|⟨i1,rfl,hg1,_⟩
   ·exfalso;have h1:M=[]:=by simpa using hnil
    simp[h1]at hlt
   have hi1:=bP hg1;have hg2:∀m,(g++m)[i1]? = some (.arr false 1 (M.map .s)):=fun m=>by rw[aG hi1];exact hg1
   refine zh hg2 ?_;(refine zx1 hg2 (T9 M (s.below.getD k ([],[])).2) ?_;repeat' first|exact trivial|refine zJ ?_ ?_|refine zH fun hc=>?_)
   ·have e:tZ (L.getD i []) M (s.below.getD k ([],[]))=M++[(s.below.getD k ([],[])).2]:=if_pos ⟨by rw[← hget];assumption,hc⟩;have hp:=aAg (x:=L.getD i []) (b:=s.below.getD k ([],[])) hlt;have hst:=hc2.step (x:=L.getD i []) (cT (d:=([],[])) (show k<s.below.length by omega));rw[e]at hp hst;refine⟨(k+1,M++[(s.below.getD k ([],[])).2],.hs (g.length+2+1) 0 (M.length+1) false,_),⟨by omega,?_,hst,⟨hp.1.trans hget,hp.2⟩,.inr ⟨g.length+2,by simp,?_,by simp⟩⟩,by simp;omega,rfl,by simp⟩
    ·rw[tY (by omega),← hM,e]
    ·simp
   ·have e:tZ (L.getD i []) M (s.below.getD k ([],[]))=M:=if_neg (by rw[hc];simp);refine⟨(k+1,M,_,_),⟨by omega,?_,hc2,⟨hget,hlt⟩,ho1.more _⟩,by simp;omega,rfl,by simp⟩;rw[tY (by omega),← hM,e]
   ·have e:tZ (L.getD i []) M (s.below.getD k ([],[]))=M:=if_neg (by rw[hget]at hc;exact fun h=>hc h.1);refine⟨(k+1,M,_,_),⟨by omega,?_,hc2,⟨hget,hlt⟩,ho1.more _⟩,by simp;omega,rfl,by simp⟩;rw[tY (by omega),← hM,e]
   ·have h1:s.below.take k=s.below:=bE (by omega);rw[h1]at hM;subst hM;exact⟨(i+1,_,_,_),⟨hI.next hcl hc2 hlt,ho1⟩,by simp;omega,rfl,by simp⟩
  ·have hd:=hI.eq;rw[aJt (by omega)]at hd;subst hd;exact aBe (pre:=[_]) (.inr ⟨i0,rfl,hg,by simp⟩) mA
theorem bVh:(22:Nat)≠3:=by decide
theorem cFn{h:List AObj}:jZ Tryz.prog h .cap #[22] [.e0]=some (.i .i64 0,h):=bLc cIx
theorem cAq{dr:Option DR}{d:Option Nat}{os:List gA}{K:List AV→List AObj→Prop}{env:List AV}{h:List AObj}{s x:Operand}:fG Tryz.prog G0 dr (.call ⟨.builtin .append,#[s,x],#[22,3]⟩) d os K env h=aKr Tryz.prog G0 dr (Tryz.prog.underlying 3) (sX Tryz.prog h 22 (aev G0 env s) (aev G0 env x)) d os K env:=M4 bVh
theorem cFm:((0:Nat):Int)=0:=rfl
theorem aLp{a:AV}:∀{n:Nat},(List.replicate n [a]).flatten=List.replicate n a
 |0=>rfl
 |n+1=>by rw[gV,fB,aLp];rfl
attribute [go_sem] cFn cFm Int.sub_zero aLp List.length_replicate false_and bJ
attribute [go_sem ↓] cAq
theorem bZf(n:Nat)(hn:n≤1000000): CT 159 [.e0,.i .i64 n] (.own 1 [] 0):=by
 refine bQ cZ Tryz.func159 g0 ?_
 ·skip;(refine zs0 ?_;repeat' first|exact trivial|refine zJ ?_ ?_|refine zH fun hc=>?_)
  ·exfalso;omega
  ·rw[if_pos (by omega),if_neg (by omega)];refine zg ?_;exact .inr ⟨⟨rfl,rfl,_,rfl,by simp,by simp,rfl⟩,by simp[dJ],by simp[dJ,kH]⟩
  ·exact .inr ⟨⟨rfl,rfl⟩,by simp[dJ],by simp[dJ]⟩
theorem aIv{l:List (List Str)}{k:Nat}(h:k<l.length):(l.map avs)[k]? = some (avs (l.getD k [])):=by simp[h]
attribute [go_sem] aIv
def aCm(l:List (List Str)):Nat:=l.flatten.length
@[simp] theorem cBj:aCm []=0:=rfl
theorem K6{l:List (List Str)}{k:Nat}(h:k<l.length):aCm (l.take (k+1))=aCm (l.take k)+(l.getD k []).length:=by
 rw[fO (d:=[]) h];simp[aCm]
theorem aTh{l:List (List Str)}{k:Nat}:aCm (l.take k)≤aCm l:=by
 have h:(l.take k++l.drop k).flatten.length=l.flatten.length:=by rw[cI]
 unfold aCm;rw[jM,List.length_append]at h;omega
theorem aTi{l:List (List Str)}{k:Nat}(h:k<l.length):aCm (l.take k)+(l.getD k []).length≤aCm l:=by
 rw[← K6 h];exact aTh
theorem bZr(l:List (List Str))(hl:l.length≤1000)(hs:aCm l≤1000000): CT 94 [.sl (l.map avs) l.length] (.own 1 (l.flatten.map .s) l.flatten.length):=by
 refine bQ cZ Tryz.func94 g0 ?_
 ·skip;refine dF (fun(k:Nat)=>(.k::.k::.k::.v (.i .i64 (aCm (l.take k):Nat))::.k::.j::(rp 5 .k (.v (.i .i64 k)::(rp 11 .j (rp 13 .k [])))))) (fun k=>[]) (fun k=>k≤l.length) (fun k=>l.length-k) (0) (bJ _) rfl (by simp[hZ]) ?_;rintro k j hk;have hat:k<l.length→aCm (l.take k)+(l.getD k []).length≤aCm l:=aTi;have hkk:=aTh (l:=l) (k:=k);refine zg ?_;(refine zs0 ?_;repeat' first|exact trivial|refine zJ ?_ ?_|refine zH fun hc=>?_)
  ·exfalso;omega
  ·refine⟨k+1,by omega,by omega,?_,by simp⟩;rw[K6 (by omega)];simp
  ·have h1:k=l.length:=by omega
   subst h1;refine bLd (bZf (aCm l) (by omega)) (by simp -implicitDefEqProofs (disch:=omega) only[bMm,go_sem,simprocAttr]) ?_;refine zg ?_;refine dF (fun(t:Nat×AV×List AObj)=>(rp 6 .k (.v (t.2.1)::.k::.j::(rp 18 .k (.v (.i .i64 (t.1:Nat))::(rp 7 .j [.k])))))) (fun t=>t.2.2) (fun t=>t.1≤l.length∧jI 1 0 t.2.2 t.2.1 ((l.take t.1).flatten.map .s) (aCm (l.take t.1))) (fun t=>l.length-t.1) ((0,.hs 0 0 0 false,[.arr false 1 []])) ⟨bJ _,.inr ⟨0,rfl,rfl,rfl⟩⟩ rfl (by simp[hZ]) ?_;rintro⟨k,out,g⟩ j ⟨hk,ho⟩;dsimp only at hk ho;have hat:k<l.length→aCm (l.take k)+(l.getD k []).length≤aCm l:=aTi;refine zg ?_;(refine zs0 ?_;repeat' first|exact trivial|refine zJ ?_ ?_|refine zH fun hc=>?_)
   ·refine gM (more:=[]) (pre:=[]) (news:=(l.getD k []).map .s) (m:=(l.getD k []).length) ho rfl (by simp) cBr zo9 sz9 by9 rfl (by decide) (by simp -implicitDefEqProofs (disch:=omega) only[go_sem,simprocAttr]) (by simp -implicitDefEqProofs (disch:=omega) only[go_sem,simprocAttr]) ⟨by omega,by omega⟩ ?_;intro out' g' ho' _;refine zg ?_;refine⟨(k+1,out',g'),⟨by omega,?_⟩,by simp;omega,rfl,by simp⟩;dsimp only;rw[K6 (by omega),fO (d:=[]) (by omega),jM,cG];simpa using ho'
   ·have h1:k=l.length:=by omega
    subst h1;rw[gD]at ho;exact aBe (pre:=[]) ho mA
structure Small(s:dX):Prop where
 sorts:s.sorts.length≤100
 below:s.below.length≤1000
 ops:s.ops.length≤1000
 funs:s.funs.length≤1000
 values:s.values.length≤1000
def keysOf(s:dX):List Str:=kL++s.sorts
def ups(s:dX)(a:Str):AV:=avs (climb s.below a)
def aCf(s:dX):AV:=.mapv ((keysOf s).map .s) ((keysOf s).map (ups s))
def bDy(l:List LOp):AV:=.mapv ((l.map LOp.name).map .s) (l.map elO)
def fF(s:dX):List AV:=dT s++[aCf s,bDy s.ops,bDy s.funs]
def cM(s:dX):AV:=.box (fF s) 0
structure aCl(s:dX):Prop where
 keys:(keysOf s).Nodup
 ops:(s.ops.map LOp.name).Nodup
 funs:(s.funs.map LOp.name).Nodup
theorem M9{s:dX}:∀{l:List Str},persL (l.map (ups s))=true
 | []=>rfl
 |x::l=>by simp only[aK,persL,ups,N3,M9,eZ]
theorem N2:∀{l:List LOp},persL (l.map elO)=true
 | []=>rfl
 |x::l=>by simp[elO,persL,pers,eU,avs,avi,avb,mA,uH,mE,N2]
attribute [go_sem] M9 N2
theorem aFx(s:dX)(hs:Small s)(hd:aCl s): CT 45 [.agg (dT s)] (cM s):=by
 refine bQ cZ Tryz.func45 g0 ?_
 ·skip;have h1:=hs.sorts;have h2:=hs.below;have h3:=hs.ops;have h4:=hs.funs;(repeat'(first|refine gT ?_ ?_|refine gF ?_ ?_|refine gC ?_ ?_|(refine cE (bYb) ?_;simp -implicitDefEqProofs (disch:=omega) only[go_sem,simprocAttr])|refine bX (by omega) ?_|(intro hr;have hc:=hr;(try simp only[zdz]at hc);simp -implicitDefEqProofs (disch:=omega) only[hr,go_sem,simprocAttr];(try clear hr))));refine dA (bZr [kL,s.sorts] (by simp) ?_) ?_ ?_
  ·simp[aCm,kL];omega
  ·simp -implicitDefEqProofs (disch:=omega) only[kL,go_sem,simprocAttr]
  ·simp -implicitDefEqProofs (disch:=omega) only[go_sem,simprocAttr];have hK:[kL,s.sorts].flatten=keysOf s:=by simp[keysOf]
   have hKl:(keysOf s).length≤107:=by simp[keysOf,kL];omega
   rw[hK];refine kI (fun(k:Nat)=>(rp 5 .k (.j::(rp 16 .k (.v (.i .i64 k)::(rp 12 .j (rp 31 .k []))))))) (fun k=>[.box false (sgC s),.map false (((keysOf s).take k).map .s) (((keysOf s).take k).map (ups s)),.map false [] [],.map false [] [],.box false [.sl (s.sorts.map .s) s.sorts.length,.sl (s.below.flatMap fX) s.below.length,.sl (s.ops.flatMap eU) s.ops.length,.sl (s.funs.flatMap eU) s.funs.length,.sl (s.values.map .s) s.values.length,.mp 1,.mp 2,.mp 3],.arr false 1 (kL.map .s),.arr false 1 [.hs 5 0 kL.length false,.sl (s.sorts.map .s) s.sorts.length],.arr false 1 ((keysOf s).map .s)]) (fun k=>k≤(keysOf s).length) (fun k=>(keysOf s).length-k) (0) _ (bJ _) rfl (by simp[hZ]) ?_;rintro k g j hk;simp -implicitDefEqProofs (disch:=omega) only[go_sem,simprocAttr];(repeat'(first|refine gT ?_ ?_|refine gF ?_ ?_|refine gC ?_ ?_|refine bX (by omega) ?_|(intro hr;have hc:=hr;(try simp only[zdz]at hc);simp -implicitDefEqProofs (disch:=omega) only[hr,go_sem,simprocAttr];(try clear hr))))
   ·refine dA (bZq s ((keysOf s).getD k []) (by omega)) ?_ ?_
    ·simp -implicitDefEqProofs (disch:=omega) only[go_sem,simprocAttr]
    ·have hno:=pI (uJ (d:=[]) hd.keys (show k<(keysOf s).length by omega));simp -implicitDefEqProofs (disch:=omega) only[nD,aMt,hno,go_sem,simprocAttr];refine⟨k+1,_,by omega,by omega,congr (congrArg List.cons rfl) (congr (congrArg List.cons ?_) rfl),by simp⟩;rw[fO (d:=[]) (by omega),cG,cG];rfl
   ·have hk2:k=(keysOf s).length:=by omega
    subst hk2;refine kI (fun(k:Nat)=>(rp 7 .k (.j::(rp 30 .k (.v (.i .i64 k)::(rp 11 .j (rp 16 .k []))))))) (fun k=>[.box false (sgC s),.map false ((keysOf s).map .s) ((keysOf s).map (ups s)),.map false (((s.ops.take k).map LOp.name).map .s) ((s.ops.take k).map elO),.map false [] [],.box false [.sl (s.sorts.map .s) s.sorts.length,.sl (s.below.flatMap fX) s.below.length,.sl (s.ops.flatMap eU) s.ops.length,.sl (s.funs.flatMap eU) s.funs.length,.sl (s.values.map .s) s.values.length,.mp 1,.mp 2,.mp 3],.arr false 1 (kL.map .s),.arr false 1 [.hs 5 0 kL.length false,.sl (s.sorts.map .s) s.sorts.length],.arr false 1 ((keysOf s).map .s)]) (fun k=>k≤s.ops.length) (fun k=>s.ops.length-k) (0) _ (bJ _) rfl (by simp[hZ]) ?_;rintro k g j hk;simp -implicitDefEqProofs (disch:=omega) only[go_sem,simprocAttr];(repeat'(first|refine gT ?_ ?_|refine gF ?_ ?_|refine gC ?_ ?_|refine bX (by omega) ?_|(intro hr;have hc:=hr;(try simp only[zdz]at hc);simp -implicitDefEqProofs (disch:=omega) only[hr,go_sem,simprocAttr];(try clear hr))))
    ·have hkn:(s.ops.getD k default).name=(s.ops.map LOp.name).getD k []:=by simp[List.getD,show k<s.ops.length by omega]
     have hno:=pI (uJ (d:=[]) hd.ops (show k<(s.ops.map LOp.name).length by simp;omega));rw[← hkn,← List.map_take]at hno;simp -implicitDefEqProofs (disch:=omega) only[nD,aMt,hno,go_sem,simprocAttr];refine⟨k+1,_,by omega,by omega,congr (congrArg List.cons rfl) (congr (congrArg List.cons rfl) (congr (congrArg List.cons ?_) rfl)),by simp⟩;rw[fO (d:=default) (by omega),cG,cG,cG];rfl
    ·have hk2:k=s.ops.length:=by omega
     subst hk2;refine kI (fun(k:Nat)=>(rp 9 .k (.j::(rp 43 .k (.v (.i .i64 k)::(rp 11 .j [.k])))))) (fun k=>[.box false (sgC s),.map false ((keysOf s).map .s) ((keysOf s).map (ups s)),.map false ((s.ops.map LOp.name).map .s) (s.ops.map elO),.map false (((s.funs.take k).map LOp.name).map .s) ((s.funs.take k).map elO),.box false [.sl (s.sorts.map .s) s.sorts.length,.sl (s.below.flatMap fX) s.below.length,.sl (s.ops.flatMap eU) s.ops.length,.sl (s.funs.flatMap eU) s.funs.length,.sl (s.values.map .s) s.values.length,.mp 1,.mp 2,.mp 3],.arr false 1 (kL.map .s),.arr false 1 [.hs 5 0 kL.length false,.sl (s.sorts.map .s) s.sorts.length],.arr false 1 ((keysOf s).map .s)]) (fun k=>k≤s.funs.length) (fun k=>s.funs.length-k) (0) _ (bJ _) rfl (by simp[hZ]) ?_;rintro k g j hk;simp -implicitDefEqProofs (disch:=omega) only[go_sem,simprocAttr];(repeat'(first|refine gT ?_ ?_|refine gF ?_ ?_|refine gC ?_ ?_|refine bX (by omega) ?_|(intro hr;have hc:=hr;(try simp only[zdz]at hc);simp -implicitDefEqProofs (disch:=omega) only[hr,go_sem,simprocAttr];(try clear hr))))
     ·have hkn:(s.funs.getD k default).name=(s.funs.map LOp.name).getD k []:=by simp[List.getD,show k<s.funs.length by omega]
      have hno:=pI (uJ (d:=[]) hd.funs (show k<(s.funs.map LOp.name).length by simp;omega));rw[← hkn,← List.map_take]at hno;simp -implicitDefEqProofs (disch:=omega) only[nD,aMt,hno,go_sem,simprocAttr];refine⟨k+1,_,by omega,by omega,congr (congrArg List.cons rfl) (congr (congrArg List.cons rfl) (congr (congrArg List.cons rfl) (congr (congrArg List.cons ?_) rfl))),by simp⟩;rw[fO (d:=default) (by omega),cG,cG,cG];rfl
     ·refine .inr ⟨?_,by simp[dJ,cM],by simp[dJ,cM]⟩;simp only[cM,oM];simp -implicitDefEqProofs (disch:=omega) only[fF,aCf,bDy,go_sem,simprocAttr]
theorem wR{l:List (Str×Str)}{a x:Str}:∀(m:List (Str×Str)) (L:List Str),(∀b∈m,b∈l)→Climbs l a L→Climbs l a (rO m x L)
 | [],L,_,h=>h
 |b::m,L,hm,h=>wR m _ (fun c hc=>hm c (by simp[hc])) (h.step (hm b (by simp)))
theorem zO{l:List (Str×Str)}{a:Str}:∀(f i:Nat) (L:List Str),Climbs l a L→Climbs l a (climbG l f i L)
 |0,i,L,h=>h
 |f+1,i,L,h=>by
  simp only[climbG];split
  ·exact zO f _ _ (wR l L (fun _ h=>h) h)
  ·exact h
theorem aGh(l:List (Str×Str))(a:Str):Climbs l a (climb l a):=zO _ _ _ ⟨by simp,by simp,by simp⟩
theorem aGg(l:List (Str×Str))(a:Str):(climb l a).length≤l.length+1:=(aGh l a).len
theorem aAx{l:List Str}{x:Str}(h:l.contains x=true):∃i,(l.findIdx? fun y=>decide (x=y))=some i∧∀{β:Type} (f:Str→β),(l.map f)[i]? = some (f x):=by
 cases hf:l.findIdx? fun y=>decide (x=y)with
 |none=>
  rw[fW]at hf;have hm:x∈l:=by simpa using h
  have:=hf x hm;simp at this
 |some i=>
  rw[jA]at hf;obtain⟨hi,hx,_⟩:=hf;have hx:x=l[i]:=by simpa using hx
  exact⟨i,rfl,fun f=>by simp[hi,← hx]⟩
attribute [go_sem] nD aMt
theorem aZo{s:dX}:(fF s)[0]? = some (avs s.sorts):=rfl
theorem aZn{s:dX}:(fF s)[5]? = some (.mapv ((keysOf s).map .s) ((keysOf s).map (ups s))):=rfl
theorem aZm{s:dX}:(fF s)[6]? = some (.mapv ((s.ops.map LOp.name).map .s) (s.ops.map elO)):=rfl
theorem aZl{s:dX}:(fF s)[7]? = some (.mapv ((s.funs.map LOp.name).map .s) (s.funs.map elO)):=rfl
attribute [go_sem] cM aZo aZn aZm aZl
def jE(s:dX)(a:Str):Bool:=(keysOf s).contains a
theorem mM{s:dX}:pers (cM s)=true:=by
 simp only[cM,fF,pers,persL,dT,avs,avb,avo,aH,aJ,mA,mE,aLx,aCf,bDy,M9,N2,eZ]
theorem aPy{s:dX}:persL (fF s)=true:=by
 have:=mM (s:=s);simpa[cM,pers]using this
attribute [go_sem] aPy
theorem aFw(s:dX)(x:Str): CT 90 [cM s,.s x] (.b (jE s x)):=by
 refine bQ cZ Tryz.func90 g0 ?_
 ·skip;by_cases hx:(keysOf s).contains x=true
  ·obtain⟨i,hf,hv⟩:=aAx hx;simp -implicitDefEqProofs (disch:=omega) only[hf,hv,go_sem,simprocAttr];exact bV (by rw[jE,hx]) rfl
  ·have hx:=dD.2 hx;refine zh (wB hx) ?_;exact bV (by rw[jE,hx]) rfl
def U3:Str:=[65,110,121]
def aRs(s:dX)(x:Str):List Str:=if jE s x then climb s.below x else []
def nQ(s:dX)(x y:Str):Bool:=decide (y=U3)||(aRs s x).contains y
theorem aQw(s:dX)(x y:Str)(hs:Small s): CT 118 [cM s,.s x,.s y] (.b (nQ s x y)):=by
 refine bQ cZ Tryz.func118 g0 ?_
 ·skip;have hl:=aGg s.below x;have h2:=hs.below;by_cases hx:(keysOf s).contains x=true
  ·obtain⟨i,hf,hv⟩:=aAx hx;(repeat'(first|refine gT ?_ ?_|refine gF ?_ ?_|refine gC ?_ ?_|(refine cE (T9 (climb s.below x) y (by omega)) ?_;simp -implicitDefEqProofs (disch:=omega) only[hf,hv,ups,go_sem,simprocAttr])|refine bX (by omega) ?_|(intro hr;have hc:=hr;(try simp only[zdz]at hc);simp -implicitDefEqProofs (disch:=omega) only[hr,hf,hv,ups,go_sem,simprocAttr];(try clear hr))));all_goals(refine bV ?_ (by rfl))
   all_goals simp_all[nQ,aRs,jE,U3]
  ·have hx:=dD.2 hx;(refine zx1 (wB hx) (T9 [] y (by simp)) ?_;repeat' first|exact trivial|refine zJ ?_ ?_|refine zH fun hc=>?_);all_goals(refine bV ?_ (by rfl))
   all_goals simp_all[nQ,aRs,jE,U3]
def bEo(s:dX)(x y:Str):Bool:=nQ s x y||nQ s y x
theorem cFb(s:dX)(x y:Str)(hs:Small s): CT 161 [cM s,.s x,.s y] (.b (bEo s x y)):=by
 refine bQ cZ Tryz.func161 g0 ?_
 ·skip;(refine zs2 (aQw s x y hs) (aQw s y x hs) ?_;repeat' first|exact trivial|refine zJ ?_ ?_|refine zH fun hc=>?_);all_goals(refine bV ?_ (by rfl))
  all_goals simp_all[bEo]
def aJh(s:Str)(c:Int):Int:=Lib.indexByte s c.toNat.toUInt8
def aNx:Str:=[97,100,100,32,115,117,98,32,109,117,108,32,100,105,118,32,109,111,100,32,110,101,103,32,108,116,32,108,101,32,103,116,32,103,101,32,101,113,32,110,101,32,97,110,100,32,111,114,32,110,111,116,32,112,105,99,107,32,99,97,116,32,108,101,110,103,116,104,32,116,101,120,116,32,106,111,105,110,32,103,101,116,32,112,117,116,32,104,97,115,32,100,101,108,32,107,101,121,115,32,115,105,122,101,32,105,115,32,105,115,118,97,108,117,101]
def Q7:List Str:=Lib.fields aNx
theorem cGj{X:Ctx}{w:World}{h:List AObj}{l:Str}{v:Value}(r:RV X w h (.s l) v):v=.string ⟨l.toArray⟩:=by
 cases r with
 |s=>rfl
 |dead hr _ _=>simp[AV.refs]at hr
theorem bIm{vs:Array Value}(h:2=vs.size):∃a b,vs = #[a,b]:=by
 match vs,h with
 |⟨[a,b]⟩,_=>exact⟨a,b,rfl⟩
theorem bJg{vs:Array Value}(h:1=vs.size):∃a,vs = #[a]:=by
 match vs,h with
 |⟨[a]⟩,_=>exact⟨a,rfl⟩
theorem bYx(s:Str)(c:Int):CT 255 [.s s,.i .u8 c] (.i .i64 (aJh s c)):=by
 refine⟨by kernel_rfl,g0,?_⟩;intro F w vs hF hgl hl hr;obtain⟨v0,v1,rfl⟩:=bIm hl;have h0:=cGj (hr 0 _ v0 rfl rfl);have h1:=sW (hr 1 _ v1 rfl rfl);subst h0 h1;refine(Tryz.strings_IndexByte ⟨s.toArray⟩ c w).mono ?_;rintro e w' ⟨rfl,rfl⟩;exact⟨_,F,[],rfl,.refl _,fun _ h=>h,fun _ h=>.inl h,hF,RR.val (.i _ _),fI,by simp⟩
theorem bHf{F:Nat→Prop}{w:World}{g:Nat}{cells:List AV}(r:RV (.none F) w [] (.box cells 0) (.pointer (some ⟨g,0,Option.none⟩))){j:Nat}{k:IntKind}{n:Int}(h:cells[j]? = some (.i k n)):w.cell? ⟨g,j,none⟩=some (.int k n):=by
 generalize hv:Value.pointer (some ⟨g,0,Option.none⟩)=v at r;cases r with
 | @box _ _ b o cs T fr hF hb hl h1 hr=>
   simp only[Value.pointer.injEq,aB,Addr.mk.injEq,and_true]at hv;obtain⟨rfl,h0⟩:=hv;have ho:o=0:=by omega
   subst ho;have hj:=bP h;have hc:cs[0+j]? = some cs[0+j]:=bW (by omega);have:=sW (hr j _ _ h hc);simp only[dM]at this hc;simp[World.cell?,hb,hc,this]
 |dead hr hd _=>simp[AV.refs]at hr
theorem aRn{F:Nat→Prop}{w:World}(hgl:∀k a,G0 k=some a→GRel (.none F) w [] k a)(c:Nat)(hc:c<256):w.cell? ⟨0,c,none⟩=some (.int .u8 (if Lib.isSp (UInt8.ofNat c)then 1 else 0)):=by
 have r:=(hgl 0 (.box C7 0) rfl).1;refine bHf r ?_;have h:=Lib.asciiSpaceTab_at c hc;have hl:=Lib.asciiSpaceTab_length;rw[← h];exact aEu (by omega)
theorem cFa(s:Str)(hs:s.length≤4000000000)(ha:s.all (fun b=>decide (b.toNat<128))=true):CT 213 [.s s] (.own 1 ((Lib.fields s).map .s) (Lib.fields s).length):=by
 refine⟨by kernel_rfl,g0,?_⟩;intro F w vs hF hgl hl hr;obtain⟨v0,rfl⟩:=bJg hl;have h0:=cGj (hr 0 _ v0 rfl rfl);subst h0;refine(Any.strings_Fields_core Tryz.lays157 (by kernel_rfl) ⟨s.toArray⟩ w (by simp[ByteArray.size];omega) (fun j b hj=>?_) (fun c hc=>aRn hgl c hc)).mono ?_
 ·have hm:=eD hj;have:=bF.1 ha b hm;simpa using this
 ·rintro e w' ⟨rfl,rfl⟩;refine⟨_,F,[w.heap.size],rfl,(iD.alloc _ _).grew,fun _ h=>h,fun _ h=>.inl h,fun b hb=>fS (hF b hb) (iD.alloc w _).grew.size,?_,by simp,?_⟩
  ·refine .inl ⟨w.heap.size,0,_,_,(Lib.fields s).length,rfl,rfl,(iD.alloc _ _).at,by simp,bK _,by simp,?_,?_⟩
   ·intro j v hv;simp at hv;obtain⟨x,_,rfl⟩:=hv;rfl
   ·intro j a v ha hv;simp at ha hv;obtain⟨x,h1,rfl⟩:=ha;obtain⟨y,h2,rfl⟩:=hv;rw[h1]at h2;cases h2;exact .s _
  ·intro b hb;simp only[aV]at hb;subst hb;refine⟨fun f=>?_,bK _⟩;have:=hF _ f;omega
theorem aRh:Q7.length=28:=by decide +kernel
theorem bHe(s:Str):Q7.contains s=sN.contains s:=by
 have h1:Q7.all (fun x=>sN.contains x)=true:=by decide +kernel
 have h2:sN.all (fun x=>Q7.contains x)=true:=by decide +kernel
 rw[fA];simp only[bF]at h1 h2;exact⟨fun h=>h1 s (by simpa using h),fun h=>h2 s (by simpa using h)⟩
theorem bWv:CT 213 [.s [97,100,100,32,115,117,98,32,109,117,108,32,100,105,118,32,109,111,100,32,110,101,103,32,108,116,32,108,101,32,103,116,32,103,101,32,101,113,32,110,101,32,97,110,100,32,111,114,32,110,111,116,32,112,105,99,107,32,99,97,116,32,108,101,110,103,116,104,32,116,101,120,116,32,106,111,105,110,32,103,101,116,32,112,117,116,32,104,97,115,32,100,101,108,32,107,101,121,115,32,115,105,122,101,32,105,115,32,105,115,118,97,108,117,101]] (.own 1 (Q7.map .s) Q7.length):=cFa aNx (by decide) (by decide +kernel)
theorem bQq(s:Str): CT 154 [.s s] (.b (sN.contains s)):=by
 refine bQ cZ Tryz.func154 g0 ?_
 ·skip;refine dA bWv (by rfl) ?_;refine zg ?_;(refine zs1 (T9 Q7 s (by rw[aRh];omega)) ?_;repeat' first|exact trivial|refine zJ ?_ ?_|refine zH fun hc=>?_);refine bV ?_ (by rfl);rw[bHe]
def O5(s:dX)(x:Str×Str):Bool:=decide (x.1≠U3)&&jE s x.1&&s.sorts.contains x.2 && !(aRs s x.2).contains x.1
theorem cFf(s:dX)(x:Str×Str)(hs:Small s): CT 89 [cM s,elB x] (.b (O5 s x)):=by
 refine bQ cZ Tryz.func89 g0 ?_
 ·skip;have hl:=aGg s.below x.2;have h2:=hs.below;have h1:=hs.sorts;by_cases hx:(keysOf s).contains x.2=true
  ·obtain⟨i,hf,hv⟩:=aAx hx;(repeat'(first|refine gT ?_ ?_|refine gF ?_ ?_|refine gC ?_ ?_|((first|(refine dA (aFw s x.1) ?_ ?_;(focus(simp -implicitDefEqProofs (disch:=omega) only[hf,hv,ups,zdA,go_sem,simprocAttr];done)))|(refine dA (T9 s.sorts x.2 (by omega)) ?_ ?_;(focus(simp -implicitDefEqProofs (disch:=omega) only[hf,hv,ups,zdA,go_sem,simprocAttr];done)))|(refine dA (T9 (climb s.below x.2) x.1 (by omega)) ?_ ?_;(focus(simp -implicitDefEqProofs (disch:=omega) only[hf,hv,ups,zdA,go_sem,simprocAttr];done))));simp -implicitDefEqProofs (disch:=omega) only[hf,hv,ups,go_sem,simprocAttr])|refine bX (by omega) ?_|(intro hr;have hc:=hr;(try simp only[zdz]at hc);simp -implicitDefEqProofs (disch:=omega) only[hr,hf,hv,ups,go_sem,simprocAttr];(try clear hr))));all_goals(refine bV ?_ (by rfl))
   all_goals(simp_all[O5,aRs,jE,U3])
  ·have hx:=dD.2 hx;(refine zx3 (wB hx) (aFw s x.1) (T9 s.sorts x.2) (T9 [] x.1 (by simp)) ?_;repeat' first|exact trivial|refine zJ ?_ ?_|refine zH fun hc=>?_);all_goals(refine bV ?_ (by rfl))
   all_goals(simp_all[O5,aRs,jE,U3])
def rS(n:Int):Bool := !(decide (n<33)||decide (126<n)||part n||(decide (n=34)||decide (n=39)||decide (n=92)))
def E7(s:Str):Bool:=decide (1≤s.length)&&decide (s.length≤20)&&s.all fun c=>rS c.toNat
theorem bHm(s:Str)(k:Nat):0≤at_ s k∧at_ s k<256:=by
 unfold at_;have:=(s.getD k 0).toNat_lt;omega
theorem cKs(s:Str)(k:Nat):decide (0≤aJh [34,39,92] (at_ s k))=(decide (at_ s k=34)||decide (at_ s k=39)||decide (at_ s k=92)):=by
 have h:∀n:Nat,n<256→decide (0≤aJh [34,39,92] (n:Int))=(decide ((n:Int)=34)||decide ((n:Int)=39)||decide ((n:Int)=92)):=by decide +kernel
 exact h _ (s.getD k 0).toNat_lt
theorem bZa(s:Str)(hs:s.length≤140737488355328): CT 216 [.s s] (.b (E7 s)):=by
 refine bQ cZ Tryz.func216 g0 ?_
 ·skip;(refine zs0 ?_;repeat' first|exact trivial|refine zJ ?_ ?_|refine zH fun hc=>?_);any_goals(refine bV ?_ (by rfl);simp_all[E7]<;>omega)
  refine dF (fun(k:Nat)=>(.k::.k::.j::.j::.j::(rp 9 .k (.v (.i .i64 k)::(rp 21 .j []))))) (fun k=>[]) (fun k=>k≤s.length∧∀j,j<k→rS (at_ s j)=true) (fun k=>s.length-k) (0) ⟨bJ _,fun j h=>by omega⟩ rfl (by simp[hZ]) ?_;rintro k j ⟨hk,ha⟩;have hr:=bHm s k;have h3:=cKs s k;simp only[at_]at h3 hr;refine zg ?_;(refine zx2 h3 bWt (bYx [34,39,92] ((s.getD k 0).toNat:Int)) ?_;repeat' first|exact trivial|refine zJ ?_ ?_|refine zH fun hc=>?_)
  ·refine bV ?_ (by rfl);have h4:=h3.symm.trans (zt hc);rw[E7,oT (j:=k) (by omega) (by simp only[rS,at_,h4,bD,aN]),aM]
  ·have h4:=h3.symm.trans (zf hc);exact⟨k+1,⟨by omega,fD ha (by simp only[rS,at_,h4,aF];simp_all)⟩,by omega,by simp⟩
  ·refine bV ?_ (by rfl);rw[E7,oT (j:=k) (by omega) (by simp only[rS,at_,hc,bD,bC,aN]),aM]
  ·refine bV ?_ (by rfl);rw[E7,oT (j:=k) (by omega) (by simp only[rS,at_,hc,decide_true,bD,bC,aN]),aM]
  ·refine bV ?_ (by rfl);rw[E7,oT (j:=k) (by omega) (by simp only[rS,at_,hc,decide_true,bD,bC,aN]),aM]
  ·refine bV ?_ (by rfl);have h1:k=s.length:=by omega
   rw[E7,bAs (h1▸ha)];simp;omega
def uF(t:Str):Bool:=E7 t||eQ t&&decide (t.length≤20)
def yK(p:Str×Str):Bool:=decide (decide (p.2=[])=uF p.1) && !(!decide (p.2=[]) && !decide (p.1=[]))
def wW(l:List (Str×Str)):List Str:=(l.filter fun p => !decide (p.2=[])).map (·.2)
def tX(o:LOp):Bool:=o.pieces.isEmpty||(o.pieces.all yK&&decide (o.pieces.length≤20)&&decide (wW o.pieces=o.args))
theorem xN{l:List (Str×Str)}{k:Nat}(h:k<l.length):wW (l.take (k+1))=wW (l.take k)++(if(l.getD k ([],[])).2=[]then []else [(l.getD k ([],[])).2]):=by
 rw[fO (d:=([],[])) h];simp only[wW,List.filter_append,cG];congr 1;by_cases h2:(l.getD k ([],[])).2=[]
 ·rw[if_pos h2,List.filter_cons_of_neg (by simp only[h2];decide)];rfl
 ·rw[if_neg h2,List.filter_cons_of_pos (by simp only[h2];decide)];rfl
theorem Z8{l:List (Str×Str)}:(wW l).length≤l.length:=by
 unfold wW;rw[dP];exact List.length_filter_le _ _
theorem sL{n:Nat}:((n:Int)≤20)↔n≤20:=by omega
theorem aPh{o:LOp}{k:Nat}(hk:k<o.pieces.length)(h:yK (o.pieces.getD k ([],[]))=false):tX o=false:=by
 have h1:o.pieces.all yK=false:=aEn hk h;have h2:o.pieces ≠ []:=fun e=>by simp[e]at hk
 simp[tX,h1,h2]
theorem bZi(o:LOp)(ho:OkO o): CT 158 [elO o] (.b (tX o)):=by
 refine bQ cZ Tryz.func158 g0 ?_
 ·skip;have hp:=ho.piecesT;have hx:=ho.args;(refine zs0 ?_;repeat' first|exact trivial|refine zJ ?_ ?_|refine zH fun hc=>?_)
  ·refine bV ?_ (by rfl);have:o.pieces=[]:=List.eq_nil_of_length_eq_zero (by omega);simp[tX,this]
  ·refine dF (fun(s:Nat×AV×List AObj)=>(.k::.k::.j::.v (s.2.1)::.k::.j::.j::(rp 7 .k (.v (.i .i64 (s.1:Nat))::(rp 41 .j (rp 10 .k [])))))) (fun s=>.box false (eU o)::s.2.2) (fun s=>s.1≤o.pieces.length∧(∀j,j<s.1→yK (o.pieces.getD j ([],[]))=true)∧jI 1 1 s.2.2 s.2.1 ((wW (o.pieces.take s.1)).map .s) (wW (o.pieces.take s.1)).length) (fun s=>o.pieces.length-s.1) ((0,.e0,[])) ⟨bJ _,fun j h=>by simp at h,kX⟩ rfl (by simp[hZ]) ?_;rintro⟨k,out,g⟩ j ⟨hk,ha,ho2⟩;dsimp only at hk ha ho2;have hpl:k<o.pieces.length→(o.pieces.getD k ([],[])).1.length≤140737488355328:=fun h=>(ho.piecesS _ (cT h)).1;have hal:=Z8 (l:=o.pieces.take k);rw[List.length_take]at hal;refine zg ?_;(repeat'(first|refine gT ?_ ?_|refine gF ?_ ?_|refine gC ?_ ?_|((first|(refine dA (bZa (o.pieces.getD k ([],[])).1 (hpl (by omega))) ?_ ?_;(focus(simp -implicitDefEqProofs (disch:=omega) only[zdA,go_sem,simprocAttr];done)))|(refine dA (U0 (o.pieces.getD k ([],[])).1 (hpl (by omega))) ?_ ?_;(focus(simp -implicitDefEqProofs (disch:=omega) only[zdA,go_sem,simprocAttr];done))));simp -implicitDefEqProofs (disch:=omega) only[go_sem,simprocAttr])|refine bX (by omega) ?_|(intro hr;have hc:=hr;(try simp only[zdz]at hc);simp -implicitDefEqProofs (disch:=omega) only[hr,go_sem,simprocAttr];(try clear hr))));all_goals first|(exfalso;omega)|skip
   all_goals first|(refine bV ?_ (by rfl);rw[aPh (k:=k) (by omega) (by simp_all[yK,uF,eB,sL])];done)|skip
   all_goals first|(refine⟨(k+1,out,_),⟨by omega,fD ha (by simp_all[yK,uF,eB,sL]),?_⟩,by simp;omega,rfl,rfl,by simp⟩;dsimp only;rw[xN (by omega),if_pos (List.eq_nil_of_length_eq_zero (by assumption)),List.append_nil];exact ho2.more _)|skip
   ·refine gM (pre:=[_]) (news:=[.s (o.pieces.getD k ([],[])).2]) (m:=1) ho2 rfl rfl cBr zo9 sz9 by9 rfl (by decide) (by simp -implicitDefEqProofs (disch:=omega) only[go_sem,simprocAttr]) (by simp -implicitDefEqProofs (disch:=omega) only[go_sem,simprocAttr]) ⟨by omega,by omega⟩ ?_;intro out' g' ho' _;refine zg ?_;refine⟨(k+1,out',g'),⟨by omega,fD ha (by simp_all[yK,uF,eB,sL]),?_⟩,by simp;omega,rfl,by simp⟩;dsimp only;rw[xN (by omega),if_neg (by rw[← eB];assumption),cG,List.length_append];exact ho'
   ·refine gM (pre:=[_]) (news:=[.s (o.pieces.getD k ([],[])).2]) (m:=1) ho2 rfl rfl cBr zo9 sz9 by9 rfl (by decide) (by simp -implicitDefEqProofs (disch:=omega) only[go_sem,simprocAttr]) (by simp -implicitDefEqProofs (disch:=omega) only[go_sem,simprocAttr]) ⟨by omega,by omega⟩ ?_;intro out' g' ho' _;refine zg ?_;refine⟨(k+1,out',g'),⟨by omega,fD ha (by simp_all[yK,uF,eB,sL]),?_⟩,by simp;omega,rfl,by simp⟩;dsimp only;rw[xN (by omega),if_neg (by rw[← eB];assumption),cG,List.length_append];exact ho'
   ·have hk2:k=o.pieces.length:=by omega
    have hne:o.pieces ≠ []:=fun e=>by simp_all
    have hemp:o.pieces.isEmpty=false:=by simpa using hne
    have hall:o.pieces.all yK=true:=aOs (d:=([],[])) (fun j hj=>ha j (by omega));rw[bE (by omega)]at ho2;have hal:=Z8 (l:=o.pieces);rcases ho2 with⟨rfl,hnil,_⟩|⟨i0,rfl,hg,_⟩
    ·have hnil:wW o.pieces=[]:=by simpa using hnil
     (refine zs1 (bWw [] o.args (by simp) hx) ?_;repeat' first|exact trivial|refine zJ ?_ ?_|refine zH fun hc=>?_);refine bV ?_ (by rfl);rw[tX,hemp,hall,hnil,zt (sL.1 hc)];simp
    ·(refine zx1 hg (bWw (wW o.pieces) o.args (by omega) hx) ?_;repeat' first|exact trivial|refine zJ ?_ ?_|refine zH fun hc=>?_);refine bV ?_ (by rfl);rw[tX,hemp,hall,zt (sL.1 hc)];simp
   ·refine bV ?_ (by rfl);have hne:o.pieces ≠ []:=fun e=>by simp_all
    simp_all[tX,sL];omega
theorem vU{s:dX}:persL [cM s]=true:=by
 show(pers (cM s)&&true)=true;rw[mM];rfl
def aVn(o:LOp)(i:Int):Bool:=decide (1≤i)&&decide (i≤o.args.length)
theorem aUr(o:LOp):persL (eU o)=true:=by simp only[eU,persL,pers,N3,aDz,avb,mE,eZ]
theorem bZl(i:Int)(o:LOp): CT 155 [.i .i64 i,.box (eU o) 0] (.b (aVn o i)):=by
 refine bQ cZ Tryz.func155 g0 ?_
 ·skip;(refine zs0 ?_;repeat' first|exact trivial|refine zJ ?_ ?_|refine zH fun hc=>?_);all_goals(refine bV ?_ (by rfl))
  all_goals first|(simp_all[aVn];done)|(simp_all[aVn];omega)
def bIy(o:LOp):Bool:=decide (0≤o.prec)&&decide (o.prec≤20)&&(decide (0<o.pieces.length)||decide (o.prec=0))
def aZz(o:LOp):Bool:=decide (0≤o.assoc)&&decide (o.assoc≤2)&&(decide (0<o.prec)||decide (o.assoc=0))
def opHead(s:dX)(o:LOp):Bool:=eQ (sO o.name) && !sN.contains o.name&&decide (o.args.length≤8)&&o.args.all (jE s)&&s.sorts.contains o.sort
def cBm(s:dX)(o:LOp):Bool:=opHead s o&&bIy o&&aZz o&&o.strict.all (aVn o)&&decide o.strict.Nodup&&tX o
def bFf(s:dX)(o:LOp):Bool:=eQ o.name && !sN.contains o.name&&decide (o.args.length≤8)&&o.args.all (jE s)&&jE s o.sort&&(decide (o.pieces.length=0)&&decide (o.prec=0)&&decide (o.assoc=0)&&decide (o.strict.length=0))
theorem bRi{n:Nat}:(8<(n:Int))↔¬n≤8:=by omega
theorem bGz{n:Nat}:((n:Int)≤8)↔n≤8:=by omega
theorem bRh{n:Nat}:(0<(n:Int))↔0<n:=by omega
theorem cFl{n:Nat}:((n:Int)=0)↔n=0:=by omega
theorem cFd(s:dX)(o:LOp)(hs:Small s)(ho:OkO o): CT 93 [cM s,elO o] (.b (bFf s o)):=by
 refine bQ cZ Tryz.func93 g0 ?_
 ·skip;(refine zs4 (U0 o.name ho.name) (bQq o.name) (bGh o.args 90 [cM s] [] (jE s) ho.args vU rfl (fun k hk=>aFw s (o.args.getD k []))) (aFw s o.sort) ?_;repeat' first|exact trivial|refine zJ ?_ ?_|refine zH fun hc=>?_);all_goals(refine bV ?_ (by rfl))
  all_goals simp only[bGz,cFl]at *
  all_goals simp only[bFf, *,decide_true,decide_false,bA,aI,aM,aO,aN,aS,bD,bC,aF,cU]
theorem cFe(s:dX)(o:LOp)(hs:Small s)(ho:OkO o): CT 92 [cM s,elO o] (.b (cBm s o)):=by
 refine bQ cZ Tryz.func92 g0 ?_
 ·skip;have hb:=jT (aBw o.name) ho.name;have h1:=hs.sorts;(repeat'(first|refine gT ?_ ?_|refine gF ?_ ?_|refine gC ?_ ?_|((first|(refine dA (bLb o.name ho.name) ?_ ?_;(focus(simp -implicitDefEqProofs (disch:=omega) only[zdA,go_sem,simprocAttr];done)))|(refine dA (U0 (sO o.name) hb) ?_ ?_;(focus(simp -implicitDefEqProofs (disch:=omega) only[zdA,go_sem,simprocAttr];done)))|(refine dA (bQq o.name) ?_ ?_;(focus(simp -implicitDefEqProofs (disch:=omega) only[zdA,go_sem,simprocAttr];done)))|(refine dA (bGh o.args 90 [cM s] [] (jE s) ho.args vU rfl (fun k hk=>aFw s (o.args.getD k []))) ?_ ?_;(focus(simp -implicitDefEqProofs (disch:=omega) only[zdA,go_sem,simprocAttr];done)))|(refine dA (T9 s.sorts o.sort (by omega)) ?_ ?_;(focus(simp -implicitDefEqProofs (disch:=omega) only[zdA,go_sem,simprocAttr];done)))|(refine dA (bZk o.strict 155 [] [.box (eU o) 0] (aVn o) ho.strict rfl (by simp only[persL,pers,aUr,eZ]) (fun k hk=>bZl (o.strict.getD k 0) o)) ?_ ?_;(focus(simp -implicitDefEqProofs (disch:=omega) only[zdA,go_sem,simprocAttr];done)))|(refine dA (bZj o.strict ho.strict) ?_ ?_;(focus(simp -implicitDefEqProofs (disch:=omega) only[zdA,go_sem,simprocAttr];done)))|(refine dA (bZi o ho) ?_ ?_;(focus(simp -implicitDefEqProofs (disch:=omega) only[zdA,go_sem,simprocAttr];done))));simp -implicitDefEqProofs (disch:=omega) only[go_sem,simprocAttr])|refine bX (by omega) ?_|(intro hr;have hc:=hr;(try simp only[zdz]at hc);simp -implicitDefEqProofs (disch:=omega) only[hr,go_sem,simprocAttr];(try clear hr))));all_goals(refine bV ?_ (by rfl))
  all_goals try simp only[bRi,bRh,Decidable.not_not]at *
  all_goals first|(exfalso;omega)|skip
  all_goals simp only[cBm,opHead,bIy,aZz, *,decide_true,decide_false,bA,aI,aM,aO,aN,aS,bD,bC,aF,cU]
  all_goals first|(simp;done)|(simp_all;done)|(simp_all;omega)
attribute [go_sem] List.replicate_zero fP
def aFi(x:Str):Bool:=eQ x && !kL.contains x
def rW(s:dX):List Str:=s.ops.map LOp.name++s.funs.map LOp.name
def xX(s:dX):Bool:=decide (s.sorts.length≤40)&&decide (s.below.length≤200)&&decide (s.ops.length+s.funs.length≤200)&&decide s.below.Nodup&&decide s.values.Nodup
def xW(s:dX):Bool:=decide s.sorts.Nodup&&s.sorts.all aFi&&decide (rW s).Nodup
def J7(s:dX):Bool:=s.below.all (O5 s)&&s.values.all (jE s)&&s.ops.all (cBm s)&&s.funs.all (bFf s)
def kV(s:dX):Bool:=xX s&&xW s&&J7 s
theorem P6{s:dX}(h1:s.sorts.Nodup)(h2:s.sorts.all aFi=true)(h3:(rW s).Nodup):aCl s:=by
 refine⟨?_,?_,?_⟩
 ·unfold keysOf;rw[mB];refine⟨by decide,h1,?_⟩;intro a ha b hb hab;subst hab;have:=bF.1 h2 a hb;simp only[aFi,aA,eF]at this;have h4:kL.contains a=true:=by simpa using ha
  rw[h4]at this;cases this.2
 ·unfold rW at h3;exact(mB.1 h3).1
 ·unfold rW at h3;exact(mB.1 h3).2.1
theorem jR{s:dX}(h:kV s=true):aCl s:=by
 simp only[kV,xW,aA,decide_eq_true_eq]at h;exact P6 h.1.2.1.1 h.1.2.1.2 h.1.2.2
theorem aWz(s:dX)(ho:OkS s):∀k,k<s.sorts.length→CT 83 ([]++[.s (s.sorts.getD k [])]++[]) (.b (aFi (s.sorts.getD k []))):=fun k hk=>cFh _ (ho.sortsS _ (cT hk))
theorem aUs{a b:List AV}:persL (a++b)=(persL a&&persL b):=by
 induction a with
 |nil=>simp[persL]
 |cons x l ih=>simp[persL,ih,wH]
theorem bYe(s:dX)(h:(rW s).length≤140737488355328):CT 82 [.sl ((s.ops.map LOp.name).map .s++(s.funs.map LOp.name).map .s) (s.ops.length+s.funs.length)] (.b (decide (rW s).Nodup)):=by
 have:=bQp (rW s) h;simpa only[avs,rW,cG,List.length_append,dP]using this
theorem bMb{α β γ:Type}{f:β→γ}{g:α→β}{a b:List α}:((a.map g).map f++(b.map g).map f).take (a.length+b.length)=(a.map g).map f++(b.map g).map f:=bE (by simp)
attribute [go_sem] aUs bMb
theorem aQx(s:dX)(hs:Small s)(ho:OkS s): CT 44 [.agg (dT s)] (.b (kV s)):=by
 refine bQ cZ Tryz.func44 g0 ?_
 ·skip;have h1:=hs.sorts;have h2:=hs.below;have h3:=hs.ops;have h4:=hs.funs;have h5:=hs.values;(refine zs2 (cFi s.below ho.below) (bQp s.values ho.values) ?_;repeat' first|exact trivial|refine zJ ?_ ?_|refine zH fun hc=>?_);all_goals first|(refine bV ?_ (by rfl);simp only[kV,xX];simp_all;done)|(refine bV ?_ (by rfl);simp only[kV,xX];simp_all;omega)|skip
  (repeat'(first|refine gT ?_ ?_|refine gF ?_ ?_|refine gC ?_ ?_|((first|(refine dA (bQp s.sorts ho.sorts) ?_ ?_;(focus(simp -implicitDefEqProofs (disch:=omega) only[zdA,go_sem,simprocAttr];done)))|(refine dA (bGh s.sorts 83 [] [] aFi ho.sorts rfl rfl (aWz s ho)) ?_ ?_;(focus(simp -implicitDefEqProofs (disch:=omega) only[zdA,go_sem,simprocAttr];done)))|(refine dA (bYa s.ops ho.opsT) ?_ ?_;(focus(simp -implicitDefEqProofs (disch:=omega) only[zdA,go_sem,simprocAttr];done)))|(refine dA (bYa s.funs ho.funsT) ?_ ?_;(focus(simp -implicitDefEqProofs (disch:=omega) only[zdA,go_sem,simprocAttr];done)))|(refine dA (bYe s (by simp only[rW,List.length_append,dP];omega)) ?_ ?_;(focus(simp -implicitDefEqProofs (disch:=omega) only[zdA,go_sem,simprocAttr];done))));simp -implicitDefEqProofs (disch:=omega) only[go_sem,simprocAttr])|refine bX (by omega) ?_|(intro hr;have hc:=hr;(try simp only[zdz]at hc);simp -implicitDefEqProofs (disch:=omega) only[hr,go_sem,simprocAttr];(try clear hr))));all_goals first|(refine bV ?_ (by rfl);simp only[kV,xW, *,decide_true,decide_false,aM,aO];done)|skip
  (repeat'(first|refine gT ?_ ?_|refine gF ?_ ?_|refine gC ?_ ?_|((first|(refine dA (aFx s hs (P6 (by assumption) (by assumption) (by assumption))) ?_ ?_;(focus(simp -implicitDefEqProofs (disch:=omega) only[zdA,go_sem,simprocAttr];done)))|(refine dA (cFg s.below 89 [cM s] [] (O5 s) ho.below vU rfl (fun k hk=>cFf s (s.below.getD k ([],[])) hs)) ?_ ?_;(focus(simp -implicitDefEqProofs (disch:=omega) only[zdA,go_sem,simprocAttr];done)))|(refine dA (bGh s.values 90 [cM s] [] (jE s) ho.values vU rfl (fun k hk=>aFw s (s.values.getD k []))) ?_ ?_;(focus(simp -implicitDefEqProofs (disch:=omega) only[zdA,go_sem,simprocAttr];done)))|(refine dA (bXo s.ops 92 [cM s] [] (cBm s) ho.ops vU rfl (fun k hk=>cFe s (s.ops.getD k default) hs (ho.opsO (s.ops.getD k default) (cT hk)))) ?_ ?_;(focus(simp -implicitDefEqProofs (disch:=omega) only[zdA,go_sem,simprocAttr];done)))|(refine dA (bXo s.funs 93 [cM s] [] (bFf s) ho.funs vU rfl (fun k hk=>cFd s (s.funs.getD k default) hs (ho.funsO (s.funs.getD k default) (cT hk)))) ?_ ?_;(focus(simp -implicitDefEqProofs (disch:=omega) only[zdA,go_sem,simprocAttr];done))));simp -implicitDefEqProofs (disch:=omega) only[go_sem,simprocAttr])|refine bX (by omega) ?_|(intro hr;have hc:=hr;(try simp only[zdz]at hc);simp -implicitDefEqProofs (disch:=omega) only[hr,go_sem,simprocAttr];(try clear hr))));all_goals first|(refine bV ?_ (by rfl);simp only[kV,xW,J7, *,decide_true,decide_false,aM,aO];done)|skip
  all_goals refine bV ?_ (by rfl)
  all_goals simp only[kV,xX,xW,J7, *,decide_true,bA,aI]
  all_goals(simp;omega)
def cIb(o:LOp):Nat:=o.args.length+o.pieces.length+o.strict.length
def sM(l:List LOp):Nat:=(l.map cIb).sum
def few(s:dX):Bool:=decide (s.sorts.length≤60)&&decide (s.below.length≤250)&&decide (s.ops.length+s.funs.length≤250)&&decide (s.values.length≤100)&&decide (sM (s.ops++s.funs)≤3000)
@[simp] theorem cAh:sM []=0:=rfl
theorem bKa{s:dX}(h:60<s.sorts.length∨250<s.below.length∨250<s.ops.length+s.funs.length∨100<s.values.length∨3000<sM (s.ops++s.funs)):few s=false:=by
 unfold few;simp only[nZ,decide_eq_false_iff_not];omega
theorem bPz{s:dX}(h:s.sorts.length≤60∧s.below.length≤250∧s.ops.length+s.funs.length≤250∧s.values.length≤100∧sM (s.ops++s.funs)≤3000):few s=true:=by
 unfold few;simp only[aA,decide_eq_true_eq];omega
theorem aRg{l:List LOp}{k:Nat}(h:k<l.length):sM (l.take (k+1))=sM (l.take k)+cIb (l.getD k default):=by
 rw[fO (d:=default) h];simp[sM]
theorem bHd{l:List LOp}{k:Nat}:sM (l.take k)≤sM l:=by
 have h:sM (l.take k++l.drop k)=sM l:=by rw[cI]
 unfold sM at *
 rw[cG,List.sum_append]at h;omega
theorem cFj(s:dX)(hs:OkS s): CT 38 [.agg (dT s)] (.b (few s)):=by
 refine iS (rx:=true) (th:=fun _=>none) cZ Tryz.func38 g0 ?_
 ·simp -implicitDefEqProofs (disch:=omega) only[Tryz.f38,go_sem,List.replicate,simprocAttr];have h1:=hs.sorts;have h2:=hs.below;have h3:=hs.ops;have h4:=hs.funs;have h5:=hs.values;(refine zs0 ?_;repeat' first|exact trivial|refine zJ ?_ ?_|refine zH fun hc=>?_);all_goals first|(refine bV ?_ (by rfl);rw[bKa (by omega)];done)|skip
  rw[← List.flatMap_append,← List.length_append];have hL:(s.ops++s.funs).length=s.ops.length+s.funs.length:=List.length_append;have hO:∀x∈s.ops++s.funs,OkO x:=fun x hx=>(bM.1 hx).elim (hs.opsO x) (hs.funsO x);have hfin:sM (s.ops++s.funs)≤3000→few s=true:=fun h=>bPz ⟨by omega,by omega,by omega,by omega,h⟩;have hfin2:3000<sM (s.ops++s.funs)→few s=false:=fun h=>bKa (by omega);generalize s.ops++s.funs=L at hL hO hfin hfin2;refine kI (fun(k:Nat)=>(.k::.k::.j::.v (.i .i64 (sM (L.take k):Nat))::.k::.j::(rp 34 .k (.v (.i .i64 k)::(rp 19 .j []))))) (fun k=>[.box false (sgC s),.dead,.arr false 7 (L.flatMap eU)]) (fun k=>k≤L.length∧sM (L.take k)≤3000) (fun k=>L.length-k) (0) _ ⟨bJ _,by simp[sM]⟩ rfl (by simp[hZ]) ?_;rintro k g j ⟨hk,hb⟩;have ho:k<L.length→(L.getD k default).args.length≤140737488355328∧(L.getD k default).pieces.length≤140737488355328∧(L.getD k default).strict.length≤140737488355328:=fun h=>⟨(hO _ (cT h)).args,(hO _ (cT h)).pieces,(hO _ (cT h)).strict⟩;have hs1:k<L.length→sM (L.take (k+1))=sM (L.take k)+((L.getD k default).args.length+(L.getD k default).pieces.length+(L.getD k default).strict.length):=fun h=>aRg h;have hle:=bHd (l:=L) (k:=k+1);refine zg ?_;(refine zs0 ?_;repeat' first|exact trivial|refine zJ ?_ ?_|refine zH fun hc=>?_)
  ·refine bV ?_ (by rfl);have:=hs1 (by omega);rw[hfin2 (by omega)]
  ·have h1:=hs1 (by omega);refine⟨k+1,_,⟨by omega,by omega⟩,by omega,rfl,?_⟩;rw[h1];simp
  ·refine bV ?_ (by rfl);have hk2:k=L.length:=by omega
   subst hk2;rw[gD]at hb;rw[hfin hb]
attribute [go_sem] ite_self aD decide_true decide_false not_true_eq_false not_false_eq_true aN aS
def tF(r:Option LOp):AV:=match r with
 |some o=>.tup [elO o,.b true]
 |none=>.tup [elO default,.b false]
def bDz(s:dX)(x:Str):Option LOp:=s.ops.find? fun o=>decide (o.name=x)
def aJm(s:dX)(x:Str):Option LOp:=s.funs.find? fun o=>decide (o.name=x)
theorem sH{l:List LOp}{x:Str}:((l.map LOp.name).findIdx? fun y=>decide (x=y))=l.findIdx? fun o=>decide (o.name=x):=by
 rw[List.findIdx?_map];congr 1;funext o;simp[eq_comm]
theorem aNb{l:List LOp}{x:Str}:(∃i o,(l.findIdx? fun o=>decide (o.name=x))=some i∧l.find? (fun o=>decide (o.name=x))=some o∧(l.map elO)[i]? = some (elO o))∨((l.findIdx? fun o=>decide (o.name=x))=none∧l.find? (fun o=>decide (o.name=x))=none):=by
 induction l with
 |nil=>right;simp
 |cons a l ih=>
  by_cases h:a.name=x
  ·left;exact⟨0,a,by simp[jB,h],by simp[h],by simp⟩
  ·rcases ih with⟨i,o,h1,h2,h3⟩|⟨h1,h2⟩
   ·left;exact⟨i+1,o,by simp[jB,h,h1],by simp[h,h2],by simpa using h3⟩
   ·right;exact⟨by simp[jB,h,h1],by simp[h,h2]⟩
theorem bWx(s:dX)(x:Str): CT 165 [cM s,.s x] (tF (bDz s x)):=by
 refine bQ cZ Tryz.func165 g0 ?_
 ·skip;rcases aNb (l:=s.ops) (x:=x)with⟨i,o,h1,h2,h3⟩|⟨h1,h2⟩
  ·refine zh (zA2 @sH (zA2 h1 h3)) ?_;exact bV (by simp only[tF,bDz,h2];rfl) (by simp only[pers,persL,mA,mE,uH,eZ])
  ·refine zh (zA2 @sH h1) ?_;have:tF (bDz s x)=.tup [elO default,.b false]:=by simp only[tF,bDz,h2]
   rw[this];exact .inr ⟨⟨⟨rfl,rfl,rfl,rfl,rfl,rfl,rfl,trivial⟩,rfl,trivial⟩,by decide,fun i hi=>by cases hi⟩
theorem cFc(s:dX)(x:Str): CT 218 [cM s,.s x] (tF (aJm s x)):=by
 refine bQ cZ Tryz.func218 g0 ?_
 ·skip;rcases aNb (l:=s.funs) (x:=x)with⟨i,o,h1,h2,h3⟩|⟨h1,h2⟩
  ·refine zh (zA2 @sH (zA2 h1 h3)) ?_;exact bV (by simp only[tF,aJm,h2];rfl) (by simp only[pers,persL,mA,mE,uH,eZ])
  ·refine zh (zA2 @sH h1) ?_;have:tF (aJm s x)=.tup [elO default,.b false]:=by simp only[tF,aJm,h2]
   rw[this];exact .inr ⟨⟨⟨rfl,rfl,rfl,rfl,rfl,rfl,rfl,trivial⟩,rfl,trivial⟩,by decide,fun i hi=>by cases hi⟩
theorem aMi{s:Str}(h:eQ s=true):s.length≤40:=by
 simp only[eQ,aA,decide_eq_true_eq]at h;omega
theorem aXq{s:dX}(h:few s=true):Small s:=by
 simp only[few,aA,decide_eq_true_eq]at h;exact⟨by omega,by omega,by omega,by omega,by omega⟩
theorem aXl{h:List AObj}{b:Bool}:Fin h (.tup [.agg [.s [],.e0,.s [],.e0,.i .i64 0,.i .i64 0,.e0],.b b]) (.tup [elO default,.b b]):=
 .inr ⟨⟨⟨rfl,rfl,rfl,rfl,rfl,rfl,rfl,trivial⟩,rfl,trivial⟩,by simp[elO,eU,dJ,finIdsL,avs,avb,avi],by simp[elO,eU,dJ,finIdsL,avs,avb,avi]⟩
end Go.Proofs.YtdjcggcjlphdoaaGreatDoor

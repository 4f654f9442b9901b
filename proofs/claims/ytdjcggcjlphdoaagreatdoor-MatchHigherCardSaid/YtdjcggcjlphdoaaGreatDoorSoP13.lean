/-
  Contracts of the library (sorting, fields, a byte in a string) at this program: laid by the kit's tool; no condition.
-/
import Derived.Shelf.Small.Strs
import Derived.Shelf.Strconv.Itoa3
import Derived.Shelf.Strings.Fields
import Derived.Test.YtdjcggcjlphdoaaGreatDoorProg
import Derived.Test.YtdjcggcjlphdoaaGreatDoorSoP12
import Derived.Sort.Walk0
set_option linter.unusedVariables false
set_option maxRecDepth 100000
set_option linter.unusedSimpArgs false
set_option maxHeartbeats 4000000
namespace Go.Proofs
open Go.Shelf
def Tryz.lays137_ren:Go.Shelf.Ren:=⟨fun | 137=>255 | 217=>271 | 266=>280 | n=>n,fun | 9=>9 | 5=>5 | 3=>3 | n=>n,fun | n=>n⟩
theorem Tryz.lays137:Go.Proofs.Lays.n137 Tryz.prog Tryz.lays137_ren:={
 mixed:=by kernel_rfl
 f137:=Tryz.func255.trans (congrArg some (by kernel_rfl))
 f217:=Tryz.func271.trans (congrArg some (by kernel_rfl))
 f266:=Tryz.func280.trans (congrArg some (by kernel_rfl))
 t3:=Tryz.underlying3
 a3:=Tryz.isAgg3
 z3:=Tryz.sizeOf3
 v3:=Tryz.zeroValue3
 t5:=Tryz.underlying5
 a5:=Tryz.isAgg5
 z5:=Tryz.sizeOf5
 v5:=Tryz.zeroValue5
 t9:=Tryz.underlying9
 a9:=Tryz.isAgg9
 z9:=Tryz.sizeOf9
 v9:=Tryz.zeroValue9 }
open Go.RowKit in
theorem Tryz.strings_IndexByte (s:ByteArray) (c:Int) (w:World) :
   Calls Tryz.prog 255 #[.string s,.int .u8 c] w fun e w'=>e=.returned (.int .i64 (Lib.indexByte s.data.toList c.toNat.toUInt8))∧w'=w:=Any.strings_IndexByte Tryz.lays137 s c w
def Tryz.lays157_ren:Go.Shelf.Ren:=⟨fun | 157=>213 | 229=>252 | 199=>253 | 261=>270 | 311=>278 | 312=>279 | n=>n,fun | 9=>9 | 31=>22 | 3=>3 | 5=>5 | 4=>4 | 119=>240 | 0=>0 | 40=>242 | 152=>264 | 21=>21 | 154=>266 | 51=>267 | 141=>269 | 196=>278 | 193=>275 | 198=>281 | 49=>279 | 194=>276 | 201=>284 | 226=>287 | 46=>237 | 227=>288 | n=>n,fun | 0=>0 | 6=>1 | n=>n⟩
theorem Tryz.lays157:Go.Proofs.Lays.n157 Tryz.prog Tryz.lays157_ren:={
 mixed:=by kernel_rfl
 f157:=Tryz.func213.trans (congrArg some (by kernel_rfl))
 f199:=Tryz.func253.trans (congrArg some (by kernel_rfl))
 f229:=Tryz.func252.trans (congrArg some (by kernel_rfl))
 f261:=Tryz.func270.trans (congrArg some (by kernel_rfl))
 f311:=Tryz.func278.trans (congrArg some (by kernel_rfl))
 f312:=Tryz.func279.trans (congrArg some (by kernel_rfl))
 t0:=Tryz.underlying0
 a0:=Tryz.isAgg0
 z0:=Tryz.sizeOf0
 v0:=Tryz.zeroValue0
 t3:=Tryz.underlying3
 a3:=Tryz.isAgg3
 z3:=Tryz.sizeOf3
 v3:=Tryz.zeroValue3
 t4:=Tryz.underlying4
 a4:=Tryz.isAgg4
 z4:=Tryz.sizeOf4
 v4:=Tryz.zeroValue4
 t5:=Tryz.underlying5
 a5:=Tryz.isAgg5
 z5:=Tryz.sizeOf5
 v5:=Tryz.zeroValue5
 t9:=Tryz.underlying9
 a9:=Tryz.isAgg9
 z9:=Tryz.sizeOf9
 v9:=Tryz.zeroValue9
 t21:=Tryz.underlying21
 a21:=Tryz.isAgg21
 z21:=Tryz.sizeOf21
 v21:=Tryz.zeroValue21
 t31:=Tryz.underlying22
 a31:=Tryz.isAgg22
 z31:=Tryz.sizeOf22
 v31:=Tryz.zeroValue22
 t40:=Tryz.underlying242
 a40:=Tryz.isAgg242
 z40:=Tryz.sizeOf242
 v40:=Tryz.zeroValue242
 t46:=Tryz.underlying237
 a46:=Tryz.isAgg237
 z46:=Tryz.sizeOf237
 v46:=Tryz.zeroValue237
 t49:=Tryz.underlying279
 a49:=Tryz.isAgg279
 z49:=Tryz.sizeOf279
 v49:=Tryz.zeroValue279
 t51:=Tryz.underlying267
 a51:=Tryz.isAgg267
 z51:=Tryz.sizeOf267
 v51:=Tryz.zeroValue267
 t119:=Tryz.underlying240
 a119:=Tryz.isAgg240
 z119:=Tryz.sizeOf240
 t141:=Tryz.underlying269
 a141:=Tryz.isAgg269
 z141:=Tryz.sizeOf269
 v141:=Tryz.zeroValue269
 t152:=Tryz.underlying264
 a152:=Tryz.isAgg264
 z152:=Tryz.sizeOf264
 v152:=Tryz.zeroValue264
 t154:=Tryz.underlying266
 a154:=Tryz.isAgg266
 z154:=Tryz.sizeOf266
 v154:=Tryz.zeroValue266
 t193:=Tryz.underlying275
 a193:=Tryz.isAgg275
 z193:=Tryz.sizeOf275
 v193:=Tryz.zeroValue275
 t194:=Tryz.underlying276
 a194:=Tryz.isAgg276
 z194:=Tryz.sizeOf276
 v194:=Tryz.zeroValue276
 t196:=Tryz.underlying278
 a196:=Tryz.isAgg278
 z196:=Tryz.sizeOf278
 v196:=Tryz.zeroValue278
 t198:=Tryz.underlying281
 a198:=Tryz.isAgg281
 z198:=Tryz.sizeOf281
 v198:=Tryz.zeroValue281
 t201:=Tryz.underlying284
 a201:=Tryz.isAgg284
 z201:=Tryz.sizeOf284
 v201:=Tryz.zeroValue284
 t226:=Tryz.underlying287
 a226:=Tryz.isAgg287
 z226:=Tryz.sizeOf287
 v226:=Tryz.zeroValue287
 t227:=Tryz.underlying288
 a227:=Tryz.isAgg288
 z227:=Tryz.sizeOf288
 v227:=Tryz.zeroValue288
 g0:=by kernel_rfl
 g6:=by kernel_rfl }
end Go.Proofs
namespace Go.Proofs.YtdjcggcjlphdoaaGreatDoor
open Go Go.Vo
open Nat (reduceAdd reduceSub reduceMul reduceLeDiff reduceLT reduceEqDiff)
open Int (reduceNeg)

theorem bKb (l:List LOp) (hl:l.length≤1172812402961): CT 87 [avo l] (.own 1 ((l.map LOp.name).map .s) l.length):=by
 refine bY cU Tryz.func87 g0 ?_
 · skip
   refine dB (fun (s:Nat × AV × List AObj)=>(.k::.k::.k::.v (s.2.1)::.k::.j::.k::.k::.v (.i .i64 (s.1:Nat))::(rp 9 .j [.k]))) (fun s=>s.2.2) (fun s=>s.1≤l.length∧gW 1 0 s.2.2 s.2.1 (((l.take s.1).map LOp.name).map .s) s.1) (fun s=>l.length - s.1) ((0,.e0,[])) ⟨bJ _,iI⟩ rfl (by simp [gX]) ?_
   rintro ⟨k,out,g⟩ j ⟨hk,ho⟩
   dsimp only at hk ho
   refine zg ?_
   (refine zs0 ?_; repeat' first | exact trivial | refine zJ ?_ ?_ | refine zH fun hc=>?_)
   · refine eK (pre:=[]) (news:=[.s (l.getD k default).name]) (m:=1) ho rfl rfl bIy zo9 sz9 by9 rfl (by decide) (by simp -implicitDefEqProofs (disch:=omega) only [go_sem,simprocAttr]) (by simp -implicitDefEqProofs (disch:=omega) only [go_sem,simprocAttr]) ⟨by omega,by omega⟩ ?_
     intro out' g' ho' _
     refine zg ?_
     refine ⟨(k+1,out',g'),⟨by omega,?_⟩,by simp; omega,rfl,by simp⟩
     rw [eN (d:=default) (by omega),cB,cB]
     exact ho'
   · have h1:k=l.length:=by omega
     subst h1
     exact O4 (pre:=[]) (by simpa using ho) kX
end Go.Proofs.YtdjcggcjlphdoaaGreatDoor
namespace Go.Proofs.YtdjcggcjlphdoaaGreatDoor
open Go Go.Vo
open Nat (reduceAdd reduceSub reduceMul reduceLeDiff reduceLT reduceEqDiff)
open Int (reduceNeg)

def qS (x:Str) (L:List Str) (b:Str × Str):List Str:=if b.1=x∧L.contains b.2=false then L++[b.2] else L
def pB (l:List (Str × Str)) (x:Str) (L:List Str):List Str:=l.foldl (qS x) L
def climbG (l:List (Str × Str)):Nat→Nat→List Str→List Str
 | 0,_,L=>L
 | f+1,i,L=>if i < L.length then climbG l f (i+1) (pB l (L.getD i []) L) else L
def climb (l:List (Str × Str)) (a:Str):List Str:=climbG l (l.length+1) 0 [a]

theorem xB (x:Str) (L:List Str) (b:Str × Str):(qS x L b=L)∨(b.1=x∧L.contains b.2=false∧qS x L b=L++[b.2]):=by
 unfold qS
 split
 · rename_i h; exact .inr ⟨h.1,h.2,rfl⟩
 · exact .inl rfl
structure Climbs (l:List (Str × Str)) (a:Str) (L:List Str):Prop where
 nd:L.Nodup
 sub:∀ x ∈ L,x=a∨∃ b ∈ l,b.2=x
 me:a ∈ L
theorem Climbs.step {l:List (Str × Str)} {a x:Str} {L:List Str} {b:Str × Str} (h:Climbs l a L) (hb:b ∈ l):Climbs l a (qS x L b):=by
 rcases xB x L b with e | ⟨_,h2,e⟩
 · rw [e]; exact h
 · rw [e]
   refine ⟨?_,?_,by simp [h.me]⟩
   · rw [mT]
     refine ⟨h.nd,by simp,?_⟩
     intro y hy z hz hyz
     simp only [bV] at hz
     have:b.2 ∉ L:=by simpa using h2
     exact this (hz ▸ hyz ▸ hy)
   · intro y hy
     rcases cR.1 hy with hy | hy
     · exact h.sub y hy
     · simp only [bV] at hy; exact .inr ⟨b,hb,hy.symm⟩
theorem uJ {α:Type} [DecidableEq α]:∀ {L M:List α},L.Nodup→(∀ x ∈ L,x ∈ M)→L.length≤M.length
 | [],M,_,_=>bJ _
 | x :: L,M,hn,hs=>by
   rw [pX] at hn
   have hx:=hs x (by simp)
   have:=uJ (L:=L) (M:=M.erase x) hn.2 (fun y hy=>by
     have hne:y ≠ x:=fun e=>hn.1 (e ▸ hy)
     exact (List.mem_erase_of_ne hne).2 (hs y (by simp [hy])))
   rw [List.length_erase_of_mem hx] at this
   have hpos:0 < M.length:=List.length_pos_of_mem hx
   simp only [bH]; omega
theorem Climbs.len {l:List (Str × Str)} {a:Str} {L:List Str} (h:Climbs l a L):L.length≤l.length+1:=by
 have:=uJ (M:=a::l.map (·.2)) h.nd (fun x hx=>by
   rcases h.sub x hx with h1 | ⟨b,h1,h2⟩
   · simp [h1]
   · simp only [dE,gK]; exact .inr ⟨b,h1,h2⟩)
 simpa using this
theorem L7 {x:Str} {L:List Str} {b:Str × Str} {i:Nat} (hi:i < L.length):(qS x L b).getD i []=L.getD i []∧i < (qS x L b).length:=by
 rcases xB x L b with e | ⟨_,_,e⟩
 · rw [e]; exact ⟨rfl,hi⟩
 · rw [e]; simp [List.getD,aJ hi]; omega
theorem aDc {l:List (Str × Str)} {i:Nat} {L:List Str} (h:L.length≤i):∀ f,climbG l f i L=L
 | 0=>rfl
 | f+1=>by simp only [climbG]; rw [if_neg (by omega)]

theorem qR {l:List (Str × Str)} {x:Str} {L:List Str} {k:Nat} (h:k < l.length):pB (l.take (k+1)) x L=qS x (pB (l.take k) x L) (l.getD k ([],[])):=by
 rw [eN (d:=([],[])) h]; simp [pB,List.foldl_append]

structure E6 (l:List (Str × Str)) (a:Str) (i:Nat) (L:List Str):Prop where
 le:i≤L.length
 c:Climbs l a L
 eq:climbG l (l.length+1 - i) i L=climb l a
theorem E6.start (l:List (Str × Str)) (a:Str):E6 l a 0 [a]:=⟨by simp,⟨by simp,by simp,by simp⟩,rfl⟩
theorem E6.next {l:List (Str × Str)} {a:Str} {i:Nat} {L:List Str} (h:E6 l a i L) (hi:i < L.length) (hc:Climbs l a (pB l (L.getD i []) L)) (hl:i < (pB l (L.getD i []) L).length):E6 l a (i+1) (pB l (L.getD i []) L):=by
 refine ⟨hl,hc,?_⟩
 have:=h.c.len
 have e:l.length+1 - i=(l.length+1 - (i+1))+1:=by omega
 rw [← h.eq,e,climbG,if_pos hi]

theorem bLn (s:eD) (a:Str) (hb:s.below.length≤1000000): CT 95 [.agg (dD s),.s a] (.own 1 ((climb s.below a).map .s) (climb s.below a).length):=by
 refine bY cU Tryz.func95 g0 ?_
 · skip
   refine dB (fun (t:Nat × List Str × AV × List AObj)=>(rp 5 .k (.v (t.2.2.1)::.v (.i .i64 (t.1:Nat))::.k::.j::.k::.k::(rp 33 .j [.k])))) (fun t=>.box false (sgC s)::t.2.2.2) (fun t=>E6 s.below a t.1 t.2.1∧gW 1 1 t.2.2.2 t.2.2.1 (t.2.1.map .s) t.2.1.length) (fun t=>s.below.length+1 - t.1) ((0,[a],.hs 1 0 1 false,[.arr false 1 [.s a]])) ⟨E6.start _ _,.inr ⟨0,rfl,rfl,rfl⟩⟩ rfl (by simp [gX]) ?_
   rintro ⟨i,L,out,g⟩ j ⟨hI,ho⟩
   dsimp only at hI ho
   have hlen:=hI.c.len
   have hle:=hI.le
   rcases ho with ⟨_,hnil,_⟩ | ⟨i0,rfl,hg,_⟩
   · exfalso
     have h1:L=[]:=by simpa using hnil
     have:=hI.c.me
     simp [h1] at this
   refine zh hg ?_
   (refine zx0 hg ?_; repeat' first | exact trivial | refine zJ ?_ ?_ | refine zH fun hc=>?_)
   · have hcl:i < L.length:=by simpa using hc
     refine dB (fun (t:Nat × List Str × AV × List AObj)=>(rp 5 .k (.v (t.2.2.1)::.k::.k::.j::(rp 11 .k (.v (.i .i64 (t.1:Nat))::(rp 23 .j [.k])))))) (fun t=>.box false (sgC s)::t.2.2.2) (fun t=>t.1≤s.below.length∧t.2.1=pB (s.below.take t.1) (L.getD i []) L∧Climbs s.below a t.2.1∧(t.2.1.getD i []=L.getD i []∧i < t.2.1.length)∧gW 1 1 t.2.2.2 t.2.2.1 (t.2.1.map .s) t.2.1.length) (fun t=>s.below.length - t.1) ((0,L,.hs (i0+1) 0 L.length false,g)) ⟨bJ _,rfl,hI.c,⟨rfl,hcl⟩,.inr ⟨i0,rfl,hg,by simp⟩⟩ rfl (by simp [gX]) ?_
     rintro ⟨k,M,out,g⟩ j ⟨hk,hM,hc2,⟨hget,hlt⟩,ho⟩
     dsimp only at hk hM hc2 hget hlt ho
     have hlenM:=hc2.len
     have ho1:=ho
     rcases ho with ⟨_,hnil,_⟩ | ⟨i1,rfl,hg1,_⟩
     · exfalso
       have h1:M=[]:=by simpa using hnil
       simp [h1] at hlt
     have hi1:=bO hg1
     have hg2:∀ m,(g++m)[i1]? = some (.arr false 1 (M.map .s)):=fun m=>by rw [aJ hi1]; exact hg1
     refine zh hg2 ?_
     (refine zx1 hg2 (G1 M (s.below.getD k ([],[])).2) ?_; repeat' first | exact trivial | refine zJ ?_ ?_ | refine zH fun hc=>?_)
     · have e:qS (L.getD i []) M (s.below.getD k ([],[]))=M++[(s.below.getD k ([],[])).2]:=if_pos ⟨by rw [← hget]; assumption,hc⟩
       have hp:=L7 (x:=L.getD i []) (b:=s.below.getD k ([],[])) hlt
       have hst:=hc2.step (x:=L.getD i []) (cQ (d:=([],[])) (show k < s.below.length by omega))
       rw [e] at hp hst
       refine ⟨(k+1,M++[(s.below.getD k ([],[])).2],.hs (g.length+2+1) 0 (M.length+1) false,_),⟨by omega,?_,hst,⟨hp.1.trans hget,hp.2⟩,.inr ⟨g.length+2,by simp,?_,by simp⟩⟩,by simp; omega,rfl,by simp⟩
       · rw [qR (by omega),← hM,e]
       · simp
     · have e:qS (L.getD i []) M (s.below.getD k ([],[]))=M:=if_neg (by rw [hc]; simp)
       refine ⟨(k+1,M,_,_),⟨by omega,?_,hc2,⟨hget,hlt⟩,ho1.more _⟩,by simp; omega,rfl,by simp⟩
       rw [qR (by omega),← hM,e]
     · have e:qS (L.getD i []) M (s.below.getD k ([],[]))=M:=if_neg (by rw [hget] at hc; exact fun h=>hc h.1)
       refine ⟨(k+1,M,_,_),⟨by omega,?_,hc2,⟨hget,hlt⟩,ho1.more _⟩,by simp; omega,rfl,by simp⟩
       rw [qR (by omega),← hM,e]
     · have h1:s.below.take k=s.below:=bD (by omega)
       rw [h1] at hM
       subst hM
       exact ⟨(i+1,_,_,_),⟨hI.next hcl hc2 hlt,ho1⟩,by simp; omega,rfl,by simp⟩
   · have hd:=hI.eq
     rw [aDc (by omega)] at hd
     subst hd
     exact O4 (pre:=[_]) (.inr ⟨i0,rfl,hg,by simp⟩) kX
end Go.Proofs.YtdjcggcjlphdoaaGreatDoor
namespace Go.Proofs.YtdjcggcjlphdoaaGreatDoor
open Go Go.Vo
open Nat (reduceAdd reduceSub reduceMul reduceLeDiff reduceLT reduceEqDiff)
open Int (reduceNeg)

theorem bIc:(22:Nat) ≠ 3:=by decide
theorem bQr {h:List AObj}:iU Tryz.prog h .cap #[22] [.e0]=some (.i .i64 0,h):=aZv bTp
theorem bMl {dr:Option DR} {d:Option Nat} {os:List fE} {K:List AV→List AObj→Prop} {env:List AV} {h:List AObj} {s x:Operand}:eB Tryz.prog G0 dr (.call ⟨.builtin .append,#[s,x],#[22,3]⟩) d os K env h=aDu Tryz.prog G0 dr (Tryz.prog.underlying 3) (qD Tryz.prog h 22 (aev G0 env s) (aev G0 env x)) d os K env:=zG bIc
theorem bQq:((0:Nat):Int)=0:=rfl
theorem aEi {a:AV}:∀ {n:Nat},(List.replicate n [a]).flatten=List.replicate n a
 | 0=>rfl
 | n+1=>by rw [fR,dY,aEi]; rfl
attribute [go_sem] bQr bQq Int.sub_zero aEi List.length_replicate false_and bJ
attribute [go_sem ↓] bMl
theorem bLd (n:Nat) (hn:n≤1000000): CT 159 [.e0,.i .i64 n] (.own 1 [] 0):=by
 refine bY cU Tryz.func159 g0 ?_
 · skip
   (refine zs0 ?_; repeat' first | exact trivial | refine zJ ?_ ?_ | refine zH fun hc=>?_)
   · exfalso; omega
   · rw [if_pos (by omega),if_neg (by omega)]
     refine zg ?_
     exact .inr ⟨⟨rfl,rfl,_,rfl,by simp,by simp,rfl⟩,by simp [cV],by simp [cV,jJ]⟩
   · exact .inr ⟨⟨rfl,rfl⟩,by simp [cV],by simp [cV]⟩
theorem aCk {l:List (List Str)} {k:Nat} (h:k < l.length):(l.map avs)[k]? = some (avs (l.getD k [])):=by simp [h]
attribute [go_sem] aCk
def R5 (l:List (List Str)):Nat:=l.flatten.length
@[simp] theorem bNb:R5 []=0:=rfl
theorem yQ {l:List (List Str)} {k:Nat} (h:k < l.length):R5 (l.take (k+1))=R5 (l.take k)+(l.getD k []).length:=by
 rw [eN (d:=[]) h]; simp [R5]
theorem aLa {l:List (List Str)} {k:Nat}:R5 (l.take k)≤R5 l:=by
 have h:(l.take k++l.drop k).flatten.length=l.flatten.length:=by rw [eF]
 unfold R5
 rw [wT,List.length_append] at h
 omega
theorem aLb {l:List (List Str)} {k:Nat} (h:k < l.length):R5 (l.take k)+(l.getD k []).length≤R5 l:=by
 rw [← yQ h]; exact aLa
theorem bLo (l:List (List Str)) (hl:l.length≤1000) (hs:R5 l≤1000000): CT 94 [.sl (l.map avs) l.length] (.own 1 (l.flatten.map .s) l.flatten.length):=by
 refine bY cU Tryz.func94 g0 ?_
 · skip
   refine dB (fun (k:Nat)=>(.k::.k::.k::.v (.i .i64 (R5 (l.take k):Nat))::.k::.j::(rp 5 .k (.v (.i .i64 k)::(rp 11 .j (rp 13 .k [])))))) (fun k=>[]) (fun k=>k≤l.length) (fun k=>l.length - k) (0) (bJ _) rfl (by simp [gX]) ?_
   rintro k j hk
   have hat:k < l.length→R5 (l.take k)+(l.getD k []).length≤R5 l:=aLb
   have hkk:=aLa (l:=l) (k:=k)
   refine zg ?_
   (refine zs0 ?_; repeat' first | exact trivial | refine zJ ?_ ?_ | refine zH fun hc=>?_)
   · exfalso; omega
   · refine ⟨k+1,by omega,by omega,?_,by simp⟩
     rw [yQ (by omega)]; simp
   · have h1:k=l.length:=by omega
     subst h1
     refine aZw (bLd (R5 l) (by omega)) (by simp -implicitDefEqProofs (disch:=omega) only [bAx,go_sem,simprocAttr]) ?_
     refine zg ?_
     refine dB (fun (t:Nat × AV × List AObj)=>(rp 6 .k (.v (t.2.1)::.k::.j::(rp 18 .k (.v (.i .i64 (t.1:Nat))::(rp 7 .j [.k])))))) (fun t=>t.2.2) (fun t=>t.1≤l.length∧gW 1 0 t.2.2 t.2.1 ((l.take t.1).flatten.map .s) (R5 (l.take t.1))) (fun t=>l.length - t.1) ((0,.hs 0 0 0 false,[.arr false 1 []])) ⟨bJ _,.inr ⟨0,rfl,rfl,rfl⟩⟩ rfl (by simp [gX]) ?_
     rintro ⟨k,out,g⟩ j ⟨hk,ho⟩
     dsimp only at hk ho
     have hat:k < l.length→R5 (l.take k)+(l.getD k []).length≤R5 l:=aLb
     refine zg ?_
     (refine zs0 ?_; repeat' first | exact trivial | refine zJ ?_ ?_ | refine zH fun hc=>?_)
     · refine eK (more:=[]) (pre:=[]) (news:=(l.getD k []).map .s) (m:=(l.getD k []).length) ho rfl (by simp) bIy zo9 sz9 by9 rfl (by decide) (by simp -implicitDefEqProofs (disch:=omega) only [go_sem,simprocAttr]) (by simp -implicitDefEqProofs (disch:=omega) only [go_sem,simprocAttr]) ⟨by omega,by omega⟩ ?_
       intro out' g' ho' _
       refine zg ?_
       refine ⟨(k+1,out',g'),⟨by omega,?_⟩,by simp; omega,rfl,by simp⟩
       dsimp only
       rw [yQ (by omega),eN (d:=[]) (by omega),wT,cB]
       simpa using ho'
     · have h1:k=l.length:=by omega
       subst h1
       rw [gY] at ho
       exact O4 (pre:=[]) ho kX
end Go.Proofs.YtdjcggcjlphdoaaGreatDoor
namespace Go.Proofs.YtdjcggcjlphdoaaGreatDoor
open Go Go.Vo
open Nat (reduceAdd reduceSub reduceMul reduceLeDiff reduceLT reduceEqDiff)
open Int (reduceNeg)

structure Small (s:eD):Prop where
 sorts:s.sorts.length≤100
 below:s.below.length≤1000
 ops:s.ops.length≤1000
 funs:s.funs.length≤1000
 values:s.values.length≤1000
def keysOf (s:eD):List Str:=jP++s.sorts
def ups (s:eD) (a:Str):AV:=avs (climb s.below a)
def Q9 (s:eD):AV:=.mapv ((keysOf s).map .s) ((keysOf s).map (ups s))
def aTr (l:List LOp):AV:=.mapv ((l.map LOp.name).map .s) (l.map elO)
def eA (s:eD):List AV:=dD s++[Q9 s,aTr s.ops,aTr s.funs]
def cC (s:eD):AV:=.box (eA s) 0
structure R3 (s:eD):Prop where
 keys:(keysOf s).Nodup
 ops:(s.ops.map LOp.name).Nodup
 funs:(s.funs.map LOp.name).Nodup

theorem zM {s:eD}:∀ {l:List Str},persL (l.map (ups s))=true
 | []=>rfl
 | x::l=>by simp only [aN,persL,ups,zP,zM,eE]
theorem zO:∀ {l:List LOp},persL (l.map elO)=true
 | []=>rfl
 | x::l=>by simp [elO,persL,pers,eR,avs,avi,avb,kX,qZ,kT,zO]
attribute [go_sem] zM zO
theorem aAd (s:eD) (hs:Small s) (hd:R3 s): CT 45 [.agg (dD s)] (cC s):=by
 refine bY cU Tryz.func45 g0 ?_
 · skip
   have h1:=hs.sorts
   have h2:=hs.below
   have h3:=hs.ops
   have h4:=hs.funs
   (repeat' (first | refine gT ?_ ?_ | refine gF ?_ ?_ | refine gC ?_ ?_ | (refine cE (bKc) ?_; simp -implicitDefEqProofs (disch:=omega) only [go_sem,simprocAttr]) | refine bG (by omega) ?_ | (intro hr; have hc:=hr; (try simp only [zdz] at hc); simp -implicitDefEqProofs (disch:=omega) only [hr,go_sem,simprocAttr]; (try clear hr))))
   refine bU (bLo [jP,s.sorts] (by simp) ?_) ?_ ?_
   · simp [R5,jP]; omega
   · simp -implicitDefEqProofs (disch:=omega) only [jP,go_sem,simprocAttr]
   · simp -implicitDefEqProofs (disch:=omega) only [go_sem,simprocAttr]
     have hK:[jP,s.sorts].flatten=keysOf s:=by simp [keysOf]
     have hKl:(keysOf s).length≤107:=by simp [keysOf,jP]; omega
     rw [hK]
     refine lI (fun (k:Nat)=>(rp 5 .k (.j::(rp 16 .k (.v (.i .i64 k)::(rp 12 .j (rp 31 .k []))))))) (fun k=>[.box false (sgC s),.map false (((keysOf s).take k).map .s) (((keysOf s).take k).map (ups s)),.map false [] [],.map false [] [],.box false [.sl (s.sorts.map .s) s.sorts.length,.sl (s.below.flatMap eY) s.below.length,.sl (s.ops.flatMap eR) s.ops.length,.sl (s.funs.flatMap eR) s.funs.length,.sl (s.values.map .s) s.values.length,.mp 1,.mp 2,.mp 3],.arr false 1 (jP.map .s),.arr false 1 [.hs 5 0 jP.length false,.sl (s.sorts.map .s) s.sorts.length],.arr false 1 ((keysOf s).map .s)]) (fun k=>k≤(keysOf s).length) (fun k=>(keysOf s).length - k) (0) _ (bJ _) rfl (by simp [gX]) ?_
     rintro k g j hk
     simp -implicitDefEqProofs (disch:=omega) only [go_sem,simprocAttr]
     (repeat' (first | refine gT ?_ ?_ | refine gF ?_ ?_ | refine gC ?_ ?_ | refine bG (by omega) ?_ | (intro hr; have hc:=hr; (try simp only [zdz] at hc); simp -implicitDefEqProofs (disch:=omega) only [hr,go_sem,simprocAttr]; (try clear hr))))
     · refine bU (bLn s ((keysOf s).getD k []) (by omega)) ?_ ?_
       · simp -implicitDefEqProofs (disch:=omega) only [go_sem,simprocAttr]
       · have hno:=nC (rA (d:=[]) hd.keys (show k < (keysOf s).length by omega))
         simp -implicitDefEqProofs (disch:=omega) only [jI,xS,hno,go_sem,simprocAttr]
         refine ⟨k+1,_,by omega,by omega,congr (congrArg List.cons rfl) (congr (congrArg List.cons ?_) rfl),by simp⟩
         rw [eN (d:=[]) (by omega),cB,cB]; rfl
     · have hk2:k=(keysOf s).length:=by omega
       subst hk2
       refine lI (fun (k:Nat)=>(rp 7 .k (.j::(rp 30 .k (.v (.i .i64 k)::(rp 11 .j (rp 16 .k []))))))) (fun k=>[.box false (sgC s),.map false ((keysOf s).map .s) ((keysOf s).map (ups s)),.map false (((s.ops.take k).map LOp.name).map .s) ((s.ops.take k).map elO),.map false [] [],.box false [.sl (s.sorts.map .s) s.sorts.length,.sl (s.below.flatMap eY) s.below.length,.sl (s.ops.flatMap eR) s.ops.length,.sl (s.funs.flatMap eR) s.funs.length,.sl (s.values.map .s) s.values.length,.mp 1,.mp 2,.mp 3],.arr false 1 (jP.map .s),.arr false 1 [.hs 5 0 jP.length false,.sl (s.sorts.map .s) s.sorts.length],.arr false 1 ((keysOf s).map .s)]) (fun k=>k≤s.ops.length) (fun k=>s.ops.length - k) (0) _ (bJ _) rfl (by simp [gX]) ?_
       rintro k g j hk
       simp -implicitDefEqProofs (disch:=omega) only [go_sem,simprocAttr]
       (repeat' (first | refine gT ?_ ?_ | refine gF ?_ ?_ | refine gC ?_ ?_ | refine bG (by omega) ?_ | (intro hr; have hc:=hr; (try simp only [zdz] at hc); simp -implicitDefEqProofs (disch:=omega) only [hr,go_sem,simprocAttr]; (try clear hr))))
       · have hkn:(s.ops.getD k default).name=(s.ops.map LOp.name).getD k []:=by simp [List.getD,show k < s.ops.length by omega]
         have hno:=nC (rA (d:=[]) hd.ops (show k < (s.ops.map LOp.name).length by simp; omega))
         rw [← hkn,← List.map_take] at hno
         simp -implicitDefEqProofs (disch:=omega) only [jI,xS,hno,go_sem,simprocAttr]
         refine ⟨k+1,_,by omega,by omega,congr (congrArg List.cons rfl) (congr (congrArg List.cons rfl) (congr (congrArg List.cons ?_) rfl)),by simp⟩
         rw [eN (d:=default) (by omega),cB,cB,cB]; rfl
       · have hk2:k=s.ops.length:=by omega
         subst hk2
         refine lI (fun (k:Nat)=>(rp 9 .k (.j::(rp 43 .k (.v (.i .i64 k)::(rp 11 .j [.k])))))) (fun k=>[.box false (sgC s),.map false ((keysOf s).map .s) ((keysOf s).map (ups s)),.map false ((s.ops.map LOp.name).map .s) (s.ops.map elO),.map false (((s.funs.take k).map LOp.name).map .s) ((s.funs.take k).map elO),.box false [.sl (s.sorts.map .s) s.sorts.length,.sl (s.below.flatMap eY) s.below.length,.sl (s.ops.flatMap eR) s.ops.length,.sl (s.funs.flatMap eR) s.funs.length,.sl (s.values.map .s) s.values.length,.mp 1,.mp 2,.mp 3],.arr false 1 (jP.map .s),.arr false 1 [.hs 5 0 jP.length false,.sl (s.sorts.map .s) s.sorts.length],.arr false 1 ((keysOf s).map .s)]) (fun k=>k≤s.funs.length) (fun k=>s.funs.length - k) (0) _ (bJ _) rfl (by simp [gX]) ?_
         rintro k g j hk
         simp -implicitDefEqProofs (disch:=omega) only [go_sem,simprocAttr]
         (repeat' (first | refine gT ?_ ?_ | refine gF ?_ ?_ | refine gC ?_ ?_ | refine bG (by omega) ?_ | (intro hr; have hc:=hr; (try simp only [zdz] at hc); simp -implicitDefEqProofs (disch:=omega) only [hr,go_sem,simprocAttr]; (try clear hr))))
         · have hkn:(s.funs.getD k default).name=(s.funs.map LOp.name).getD k []:=by simp [List.getD,show k < s.funs.length by omega]
           have hno:=nC (rA (d:=[]) hd.funs (show k < (s.funs.map LOp.name).length by simp; omega))
           rw [← hkn,← List.map_take] at hno
           simp -implicitDefEqProofs (disch:=omega) only [jI,xS,hno,go_sem,simprocAttr]
           refine ⟨k+1,_,by omega,by omega,congr (congrArg List.cons rfl) (congr (congrArg List.cons rfl) (congr (congrArg List.cons rfl) (congr (congrArg List.cons ?_) rfl))),by simp⟩
           rw [eN (d:=default) (by omega),cB,cB,cB]; rfl
         · refine .inr ⟨?_,by simp [cV,cC],by simp [cV,cC]⟩
           simp only [cC,nE]
           simp -implicitDefEqProofs (disch:=omega) only [eA,Q9,aTr,go_sem,simprocAttr]
end Go.Proofs.YtdjcggcjlphdoaaGreatDoor
namespace Go.Proofs.YtdjcggcjlphdoaaGreatDoor
open Go Go.Vo
open Nat (reduceAdd reduceSub reduceMul reduceLeDiff reduceLT reduceEqDiff)
open Int (reduceNeg)

theorem sM {l:List (Str × Str)} {a x:Str}:∀ (m:List (Str × Str)) (L:List Str),(∀ b ∈ m,b ∈ l)→Climbs l a L→Climbs l a (pB m x L)
 | [],L,_,h=>h
 | b::m,L,hm,h=>sM m _ (fun c hc=>hm c (by simp [hc])) (h.step (hm b (by simp)))
theorem uZ {l:List (Str × Str)} {a:Str}:∀ (f i:Nat) (L:List Str),Climbs l a L→Climbs l a (climbG l f i L)
 | 0,i,L,h=>h
 | f+1,i,L,h=>by
   simp only [climbG]
   split
   · exact uZ f _ _ (sM l L (fun _ h=>h) h)
   · exact h
theorem aAi (l:List (Str × Str)) (a:Str):Climbs l a (climb l a):=uZ _ _ _ ⟨by simp,by simp,by simp⟩
theorem aAh (l:List (Str × Str)) (a:Str):(climb l a).length≤l.length+1:=(aAi l a).len

theorem N5 {l:List Str} {x:Str} (h:l.contains x=true):∃ i,(l.findIdx? fun y=>decide (x=y))=some i∧∀ {β:Type} (f:Str→β),(l.map f)[i]? = some (f x):=by
 cases hf:l.findIdx? fun y=>decide (x=y) with
 | none=>
   rw [eW] at hf
   have hm:x ∈ l:=by simpa using h
   have:=hf x hm
   simp at this
 | some i=>
   rw [gR] at hf
   obtain ⟨hi,hx,_⟩:=hf
   have hx:x=l[i]:=by simpa using hx
   exact ⟨i,rfl,fun f=>by simp [hi,← hx]⟩
attribute [go_sem] jI xS
theorem aQi {s:eD}:(eA s)[0]? = some (avs s.sorts):=rfl
theorem aQh {s:eD}:(eA s)[5]? = some (.mapv ((keysOf s).map .s) ((keysOf s).map (ups s))):=rfl
theorem aQg {s:eD}:(eA s)[6]? = some (.mapv ((s.ops.map LOp.name).map .s) (s.ops.map elO)):=rfl
theorem aQf {s:eD}:(eA s)[7]? = some (.mapv ((s.funs.map LOp.name).map .s) (s.funs.map elO)):=rfl
attribute [go_sem] cC aQi aQh aQg aQf
def jD (s:eD) (a:Str):Bool:=(keysOf s).contains a
theorem oJ {s:eD}:pers (cC s)=true:=by
 simp only [cC,eA,pers,persL,dD,avs,avb,avo,aI,aK,kX,kT,aEo,Q9,aTr,zM,zO,eE]
theorem aIb {s:eD}:persL (eA s)=true:=by
 have:=oJ (s:=s)
 simpa [cC,pers] using this
attribute [go_sem] aIb
theorem aAc (s:eD) (x:Str): CT 90 [cC s,.s x] (.b (jD s x)):=by
 refine bY cU Tryz.func90 g0 ?_
 · skip
   by_cases hx:(keysOf s).contains x=true
   · obtain ⟨i,hf,hv⟩:=N5 hx
     simp -implicitDefEqProofs (disch:=omega) only [hf,hv,go_sem,simprocAttr]
     exact bR (by rw [jD,hx]) rfl
   · have hx:=cT.2 hx
     refine zh (rZ hx) ?_
     exact bR (by rw [jD,hx]) rfl
def wP:Str:=[65,110,121]
def aJq (s:eD) (x:Str):List Str:=if jD s x then climb s.below x else []
def lZ (s:eD) (x y:Str):Bool:=decide (y=wP) || (aJq s x).contains y
theorem aIw (s:eD) (x y:Str) (hs:Small s): CT 118 [cC s,.s x,.s y] (.b (lZ s x y)):=by
 refine bY cU Tryz.func118 g0 ?_
 · skip
   have hl:=aAh s.below x
   have h2:=hs.below
   by_cases hx:(keysOf s).contains x=true
   · obtain ⟨i,hf,hv⟩:=N5 hx
     (repeat' (first | refine gT ?_ ?_ | refine gF ?_ ?_ | refine gC ?_ ?_ | (refine cE (G1 (climb s.below x) y (by omega)) ?_; simp -implicitDefEqProofs (disch:=omega) only [hf,hv,ups,go_sem,simprocAttr]) | refine bG (by omega) ?_ | (intro hr; have hc:=hr; (try simp only [zdz] at hc); simp -implicitDefEqProofs (disch:=omega) only [hr,hf,hv,ups,go_sem,simprocAttr]; (try clear hr))))
     all_goals (refine bR ?_ (by rfl))
     all_goals simp_all [lZ,aJq,jD,wP]
   · have hx:=cT.2 hx
     (refine zx1 (rZ hx) (G1 [] y (by simp)) ?_; repeat' first | exact trivial | refine zJ ?_ ?_ | refine zH fun hc=>?_)
     all_goals (refine bR ?_ (by rfl))
     all_goals simp_all [lZ,aJq,jD,wP]
def aUc (s:eD) (x y:Str):Bool:=lZ s x y || lZ s y x
theorem bQe (s:eD) (x y:Str) (hs:Small s): CT 161 [cC s,.s x,.s y] (.b (aUc s x y)):=by
 refine bY cU Tryz.func161 g0 ?_
 · skip
   (refine zs2 (aIw s x y hs) (aIw s y x hs) ?_; repeat' first | exact trivial | refine zJ ?_ ?_ | refine zH fun hc=>?_)
   all_goals (refine bR ?_ (by rfl))
   all_goals simp_all [aUc]
end Go.Proofs.YtdjcggcjlphdoaaGreatDoor
namespace Go.Proofs.YtdjcggcjlphdoaaGreatDoor
open Go Go.Vo
open Nat (reduceAdd reduceSub reduceMul reduceLeDiff reduceLT reduceEqDiff)
open Int (reduceNeg)

def aCs (s:Str) (c:Int):Int:=Lib.indexByte s c.toNat.toUInt8
def aGd:Str:=[97,100,100,32,115,117,98,32,109,117,108,32,100,105,118,32,109,111,100,32,110,101,103,32,108,116,32,108,101,32,103,116,32,103,101,32,101,113,32,110,101,32,97,110,100,32,111,114,32,110,111,116,32,112,105,99,107,32,99,97,116,32,108,101,110,103,116,104,32,116,101,120,116,32,106,111,105,110,32,103,101,116,32,112,117,116,32,104,97,115,32,100,101,108,32,107,101,121,115,32,115,105,122,101,32,105,115,32,105,115,118,97,108,117,101]
def C6:List Str:=Lib.fields aGd

theorem bRi {X:Ctx} {w:World} {h:List AObj} {l:Str} {v:Value} (r:RV X w h (.s l) v):v=.string ⟨l.toArray⟩:=by
 cases r with
 | s=>rfl
 | dead hr _ _=>simp [AV.refs] at hr
theorem bGn {vs:Array Value} (h:2=vs.size):∃ a b,vs = #[a,b]:=by
 match vs,h with
 | ⟨[a,b]⟩,_=>exact ⟨a,b,rfl⟩
theorem bHx {vs:Array Value} (h:1=vs.size):∃ a,vs = #[a]:=by
 match vs,h with
 | ⟨[a]⟩,_=>exact ⟨a,rfl⟩

theorem bKw (s:Str) (c:Int):CT 255 [.s s,.i .u8 c] (.i .i64 (aCs s c)):=by
 refine ⟨by kernel_rfl,g0,?_⟩
 intro F w vs hF hgl hl hr
 obtain ⟨v0,v1,rfl⟩:=bGn hl
 have h0:=bRi (hr 0 _ v0 rfl rfl)
 have h1:=rC (hr 1 _ v1 rfl rfl)
 subst h0 h1
 refine (Tryz.strings_IndexByte ⟨s.toArray⟩ c w).mono ?_
 rintro e w' ⟨rfl,rfl⟩
 exact ⟨_,F,[],rfl,.refl _,fun _ h=>h,fun _ h=>.inl h,hF,RR.val (.i _ _),fJ,by simp⟩

theorem aWm {F:Nat→Prop} {w:World} {g:Nat} {cells:List AV} (r:RV (.none F) w [] (.box cells 0) (.pointer (some ⟨g,0,Option.none⟩))) {j:Nat} {k:IntKind} {n:Int} (h:cells[j]? = some (.i k n)):w.cell? ⟨g,j,none⟩=some (.int k n):=by
 generalize hv:Value.pointer (some ⟨g,0,Option.none⟩)=v at r
 cases r with
 | @box _ _ b o cs T fr hF hb hl h1 hr=>
   simp only [Value.pointer.injEq,aA,Addr.mk.injEq,and_true] at hv
   obtain ⟨rfl,h0⟩:=hv
   have ho:o=0:=by omega
   subst ho
   have hj:=bO h
   have hc:cs[0+j]? = some cs[0+j]:=bX (by omega)
   have:=rC (hr j _ _ h hc)
   simp only [dL] at this hc
   simp [World.cell?,hb,hc,this]
 | dead hr hd _=>simp [AV.refs] at hr
theorem aJk {F:Nat→Prop} {w:World} (hgl:∀ k a,G0 k=some a→GRel (.none F) w [] k a) (c:Nat) (hc:c < 256):w.cell? ⟨0,c,none⟩=some (.int .u8 (if Lib.isSp (UInt8.ofNat c) then 1 else 0)):=by
 have r:=(hgl 0 (.box wM 0) rfl).1
 refine aWm r ?_
 have h:=Lib.asciiSpaceTab_at c hc
 have hl:=Lib.asciiSpaceTab_length
 rw [← h]
 exact X6 (by omega)
theorem bQd (s:Str) (hs:s.length≤4000000000) (ha:s.all (fun b=>decide (b.toNat < 128))=true):CT 213 [.s s] (.own 1 ((Lib.fields s).map .s) (Lib.fields s).length):=by
 refine ⟨by kernel_rfl,g0,?_⟩
 intro F w vs hF hgl hl hr
 obtain ⟨v0,rfl⟩:=bHx hl
 have h0:=bRi (hr 0 _ v0 rfl rfl)
 subst h0
 refine (Any.strings_Fields_core Tryz.lays157 (by kernel_rfl) ⟨s.toArray⟩ w (by simp [ByteArray.size]; omega) (fun j b hj=>?_) (fun c hc=>aJk hgl c hc)).mono ?_
 · have hm:=dG hj
   have:=bL.1 ha b hm
   simpa using this
 · rintro e w' ⟨rfl,rfl⟩
   refine ⟨_,F,[w.heap.size],rfl,(fZ.alloc _ _).grew,fun _ h=>h,fun _ h=>.inl h,fun b hb=>fO (hF b hb) (fZ.alloc w _).grew.size,?_,by simp,?_⟩
   · refine .inl ⟨w.heap.size,0,_,_,(Lib.fields s).length,rfl,rfl,(fZ.alloc _ _).at,by simp,bQ _,by simp,?_,?_⟩
     · intro j v hv
       simp at hv
       obtain ⟨x,_,rfl⟩:=hv
       rfl
     · intro j a v ha hv
       simp at ha hv
       obtain ⟨x,h1,rfl⟩:=ha
       obtain ⟨y,h2,rfl⟩:=hv
       rw [h1] at h2; cases h2
       exact .s _
   · intro b hb
     simp only [bV] at hb
     subst hb
     refine ⟨fun f=>?_,bQ _⟩
     have:=hF _ f; omega

end Go.Proofs.YtdjcggcjlphdoaaGreatDoor
namespace Go.Proofs.YtdjcggcjlphdoaaGreatDoor
open Go Go.Vo
open Nat (reduceAdd reduceSub reduceMul reduceLeDiff reduceLT reduceEqDiff)
open Int (reduceNeg)

theorem aJe:C6.length=28:=by decide +kernel
theorem aWl (s:Str):C6.contains s=pU.contains s:=by
 have h1:C6.all (fun x=>pU.contains x)=true:=by decide +kernel
 have h2:pU.all (fun x=>C6.contains x)=true:=by decide +kernel
 rw [fT]
 simp only [bL] at h1 h2
 exact ⟨fun h=>h1 s (by simpa using h),fun h=>h2 s (by simpa using h)⟩
theorem bJh:CT 213 [.s [97,100,100,32,115,117,98,32,109,117,108,32,100,105,118,32,109,111,100,32,110,101,103,32,108,116,32,108,101,32,103,116,32,103,101,32,101,113,32,110,101,32,97,110,100,32,111,114,32,110,111,116,32,112,105,99,107,32,99,97,116,32,108,101,110,103,116,104,32,116,101,120,116,32,106,111,105,110,32,103,101,116,32,112,117,116,32,104,97,115,32,100,101,108,32,107,101,121,115,32,115,105,122,101,32,105,115,32,105,115,118,97,108,117,101]] (.own 1 (C6.map .s) C6.length):=bQd aGd (by decide) (by decide +kernel)
theorem bEk (s:Str): CT 154 [.s s] (.b (pU.contains s)):=by
 refine bY cU Tryz.func154 g0 ?_
 · skip
   refine bU bJh (by rfl) ?_
   refine zg ?_
   (refine zs1 (G1 C6 s (by rw [aJe]; omega)) ?_; repeat' first | exact trivial | refine zJ ?_ ?_ | refine zH fun hc=>?_)
   refine bR ?_ (by rfl)
   rw [aWl]

def A6 (s:eD) (x:Str × Str):Bool:=decide (x.1 ≠ wP) && jD s x.1 && s.sorts.contains x.2 && !(aJq s x.2).contains x.1
theorem bQi (s:eD) (x:Str × Str) (hs:Small s): CT 89 [cC s,elB x] (.b (A6 s x)):=by
 refine bY cU Tryz.func89 g0 ?_
 · skip
   have hl:=aAh s.below x.2
   have h2:=hs.below
   have h1:=hs.sorts
   by_cases hx:(keysOf s).contains x.2=true
   · obtain ⟨i,hf,hv⟩:=N5 hx
     (repeat' (first | refine gT ?_ ?_ | refine gF ?_ ?_ | refine gC ?_ ?_ | ((first | (refine bU (aAc s x.1) ?_ ?_; (focus (simp -implicitDefEqProofs (disch:=omega) only [hf,hv,ups,zdA,go_sem,simprocAttr]; done))) | (refine bU (G1 s.sorts x.2 (by omega)) ?_ ?_; (focus (simp -implicitDefEqProofs (disch:=omega) only [hf,hv,ups,zdA,go_sem,simprocAttr]; done))) | (refine bU (G1 (climb s.below x.2) x.1 (by omega)) ?_ ?_; (focus (simp -implicitDefEqProofs (disch:=omega) only [hf,hv,ups,zdA,go_sem,simprocAttr]; done)))); simp -implicitDefEqProofs (disch:=omega) only [hf,hv,ups,go_sem,simprocAttr]) | refine bG (by omega) ?_ | (intro hr; have hc:=hr; (try simp only [zdz] at hc); simp -implicitDefEqProofs (disch:=omega) only [hr,hf,hv,ups,go_sem,simprocAttr]; (try clear hr))))
     all_goals (refine bR ?_ (by rfl))
     all_goals (simp_all [A6,aJq,jD,wP])
   · have hx:=cT.2 hx
     (refine zx3 (rZ hx) (aAc s x.1) (G1 s.sorts x.2) (G1 [] x.1 (by simp)) ?_; repeat' first | exact trivial | refine zJ ?_ ?_ | refine zH fun hc=>?_)
     all_goals (refine bR ?_ (by rfl))
     all_goals (simp_all [A6,aJq,jD,wP])
end Go.Proofs.YtdjcggcjlphdoaaGreatDoor
namespace Go.Proofs.YtdjcggcjlphdoaaGreatDoor
open Go Go.Vo
open Nat (reduceAdd reduceSub reduceMul reduceLeDiff reduceLT reduceEqDiff)
open Int (reduceNeg)

def pE (n:Int):Bool := !(decide (n < 33) || decide (126 < n) || part n || (decide (n=34) || decide (n=39) || decide (n=92)))
def xH (s:Str):Bool:=decide (1≤s.length) && decide (s.length≤20) && s.all fun c=>pE c.toNat
theorem aWs (s:Str) (k:Nat):0≤at_ s k∧at_ s k < 256:=by
 unfold at_
 have:=(s.getD k 0).toNat_lt
 omega
theorem bVn (s:Str) (k:Nat):decide (0≤aCs [34,39,92] (at_ s k))=(decide (at_ s k=34) || decide (at_ s k=39) || decide (at_ s k=92)):=by
 have h:∀ n:Nat,n < 256→decide (0≤aCs [34,39,92] (n:Int))=(decide ((n:Int)=34) || decide ((n:Int)=39) || decide ((n:Int)=92)):=by decide +kernel
 exact h _ (s.getD k 0).toNat_lt
theorem bKy (s:Str) (hs:s.length≤140737488355328): CT 216 [.s s] (.b (xH s)):=by
 refine bY cU Tryz.func216 g0 ?_
 · skip
   (refine zs0 ?_; repeat' first | exact trivial | refine zJ ?_ ?_ | refine zH fun hc=>?_)
   any_goals (refine bR ?_ (by rfl); simp_all [xH] <;> omega)
   refine dB (fun (k:Nat)=>(.k::.k::.j::.j::.j::(rp 9 .k (.v (.i .i64 k)::(rp 21 .j []))))) (fun k=>[]) (fun k=>k≤s.length∧∀ j,j < k→pE (at_ s j)=true) (fun k=>s.length - k) (0) ⟨bJ _,fun j h=>by omega⟩ rfl (by simp [gX]) ?_
   rintro k j ⟨hk,ha⟩
   have hr:=aWs s k
   have h3:=bVn s k
   simp only [at_] at h3 hr
   refine zg ?_
   (refine zx2 h3 bJf (bKw [34,39,92] ((s.getD k 0).toNat:Int)) ?_; repeat' first | exact trivial | refine zJ ?_ ?_ | refine zH fun hc=>?_)
   · refine bR ?_ (by rfl)
     have h4:=h3.symm.trans (zt hc)
     rw [xH,oM (j:=k) (by omega) (by simp only [pE,at_,h4,bB,aB]),aM]
   · have h4:=h3.symm.trans (zf hc)
     exact ⟨k+1,⟨by omega,eC ha (by simp only [pE,at_,h4,aH]; simp_all)⟩,by omega,by simp⟩
   · refine bR ?_ (by rfl)
     rw [xH,oM (j:=k) (by omega) (by simp only [pE,at_,hc,bB,aZ,aB]),aM]
   · refine bR ?_ (by rfl)
     rw [xH,oM (j:=k) (by omega) (by simp only [pE,at_,hc,decide_true,bB,aZ,aB]),aM]
   · refine bR ?_ (by rfl)
     rw [xH,oM (j:=k) (by omega) (by simp only [pE,at_,hc,decide_true,bB,aZ,aB]),aM]
   · refine bR ?_ (by rfl)
     have h1:k=s.length:=by omega
     rw [xH,bAa (h1 ▸ ha)]
     simp; omega

def qX (t:Str):Bool:=xH t || fV t && decide (t.length≤20)
def uG (p:Str × Str):Bool:=decide (decide (p.2=[])=qX p.1) && !(!decide (p.2=[]) && !decide (p.1=[]))
def sR (l:List (Str × Str)):List Str:=(l.filter fun p => !decide (p.2=[])).map (·.2)
def qQ (o:LOp):Bool:=o.pieces.isEmpty || (o.pieces.all uG && decide (o.pieces.length≤20) && decide (sR o.pieces=o.args))
theorem tJ {l:List (Str × Str)} {k:Nat} (h:k < l.length):sR (l.take (k+1))=sR (l.take k)++(if (l.getD k ([],[])).2=[] then [] else [(l.getD k ([],[])).2]):=by
 rw [eN (d:=([],[])) h]
 simp only [sR,List.filter_append,cB]
 congr 1
 by_cases h2:(l.getD k ([],[])).2=[]
 · rw [if_pos h2,List.filter_cons_of_neg (by simp only [h2]; decide)]; rfl
 · rw [if_neg h2,List.filter_cons_of_pos (by simp only [h2]; decide)]; rfl
theorem K6 {l:List (Str × Str)}:(sR l).length≤l.length:=by
 unfold sR; rw [dC]; exact List.length_filter_le _ _
theorem pS {n:Nat}:((n:Int)≤20)↔n≤20:=by omega
theorem aHj {o:LOp} {k:Nat} (hk:k < o.pieces.length) (h:uG (o.pieces.getD k ([],[]))=false):qQ o=false:=by
 have h1:o.pieces.all uG=false:=W7 hk h
 have h2:o.pieces ≠ []:=fun e=>by simp [e] at hk
 simp [qQ,h1,h2]
theorem bLf (o:LOp) (ho:OkO o): CT 158 [elO o] (.b (qQ o)):=by
 refine bY cU Tryz.func158 g0 ?_
 · skip
   have hp:=ho.piecesT
   have hx:=ho.args
   (refine zs0 ?_; repeat' first | exact trivial | refine zJ ?_ ?_ | refine zH fun hc=>?_)
   · refine bR ?_ (by rfl)
     have:o.pieces=[]:=List.eq_nil_of_length_eq_zero (by omega)
     simp [qQ,this]
   · refine dB (fun (s:Nat × AV × List AObj)=>(.k::.k::.j::.v (s.2.1)::.k::.j::.j::(rp 7 .k (.v (.i .i64 (s.1:Nat))::(rp 41 .j (rp 10 .k [])))))) (fun s=>.box false (eR o)::s.2.2) (fun s=>s.1≤o.pieces.length∧(∀ j,j < s.1→uG (o.pieces.getD j ([],[]))=true)∧gW 1 1 s.2.2 s.2.1 ((sR (o.pieces.take s.1)).map .s) (sR (o.pieces.take s.1)).length) (fun s=>o.pieces.length - s.1) ((0,.e0,[])) ⟨bJ _,fun j h=>by simp at h,iI⟩ rfl (by simp [gX]) ?_
     rintro ⟨k,out,g⟩ j ⟨hk,ha,ho2⟩
     dsimp only at hk ha ho2
     have hpl:k < o.pieces.length→(o.pieces.getD k ([],[])).1.length≤140737488355328:=fun h=>(ho.piecesS _ (cQ h)).1
     have hal:=K6 (l:=o.pieces.take k)
     rw [cH] at hal
     refine zg ?_
     (repeat' (first | refine gT ?_ ?_ | refine gF ?_ ?_ | refine gC ?_ ?_ | ((first | (refine bU (bKy (o.pieces.getD k ([],[])).1 (hpl (by omega))) ?_ ?_; (focus (simp -implicitDefEqProofs (disch:=omega) only [zdA,go_sem,simprocAttr]; done))) | (refine bU (G2 (o.pieces.getD k ([],[])).1 (hpl (by omega))) ?_ ?_; (focus (simp -implicitDefEqProofs (disch:=omega) only [zdA,go_sem,simprocAttr]; done)))); simp -implicitDefEqProofs (disch:=omega) only [go_sem,simprocAttr]) | refine bG (by omega) ?_ | (intro hr; have hc:=hr; (try simp only [zdz] at hc); simp -implicitDefEqProofs (disch:=omega) only [hr,go_sem,simprocAttr]; (try clear hr))))
     all_goals first | (exfalso; omega) | skip
     all_goals first | (refine bR ?_ (by rfl); rw [aHj (k:=k) (by omega) (by simp_all [uG,qX,dV,pS])]; done) | skip
     all_goals first | (refine ⟨(k+1,out,_),⟨by omega,eC ha (by simp_all [uG,qX,dV,pS]),?_⟩,by simp; omega,rfl,rfl,by simp⟩; dsimp only; rw [tJ (by omega),if_pos (List.eq_nil_of_length_eq_zero (by assumption)),List.append_nil]; exact ho2.more _) | skip
     · refine eK (pre:=[_]) (news:=[.s (o.pieces.getD k ([],[])).2]) (m:=1) ho2 rfl rfl bIy zo9 sz9 by9 rfl (by decide) (by simp -implicitDefEqProofs (disch:=omega) only [go_sem,simprocAttr]) (by simp -implicitDefEqProofs (disch:=omega) only [go_sem,simprocAttr]) ⟨by omega,by omega⟩ ?_
       intro out' g' ho' _
       refine zg ?_
       refine ⟨(k+1,out',g'),⟨by omega,eC ha (by simp_all [uG,qX,dV,pS]),?_⟩,by simp; omega,rfl,by simp⟩
       dsimp only
       rw [tJ (by omega),if_neg (by rw [← dV]; assumption),cB,List.length_append]
       exact ho'
     · refine eK (pre:=[_]) (news:=[.s (o.pieces.getD k ([],[])).2]) (m:=1) ho2 rfl rfl bIy zo9 sz9 by9 rfl (by decide) (by simp -implicitDefEqProofs (disch:=omega) only [go_sem,simprocAttr]) (by simp -implicitDefEqProofs (disch:=omega) only [go_sem,simprocAttr]) ⟨by omega,by omega⟩ ?_
       intro out' g' ho' _
       refine zg ?_
       refine ⟨(k+1,out',g'),⟨by omega,eC ha (by simp_all [uG,qX,dV,pS]),?_⟩,by simp; omega,rfl,by simp⟩
       dsimp only
       rw [tJ (by omega),if_neg (by rw [← dV]; assumption),cB,List.length_append]
       exact ho'
     · have hk2:k=o.pieces.length:=by omega
       have hne:o.pieces ≠ []:=fun e=>by simp_all
       have hemp:o.pieces.isEmpty=false:=by simpa using hne
       have hall:o.pieces.all uG=true:=aGy (d:=([],[])) (fun j hj=>ha j (by omega))
       rw [bD (by omega)] at ho2
       have hal:=K6 (l:=o.pieces)
       rcases ho2 with ⟨rfl,hnil,_⟩ | ⟨i0,rfl,hg,_⟩
       · have hnil:sR o.pieces=[]:=by simpa using hnil
         (refine zs1 (bJi [] o.args (by simp) hx) ?_; repeat' first | exact trivial | refine zJ ?_ ?_ | refine zH fun hc=>?_)
         refine bR ?_ (by rfl)
         rw [qQ,hemp,hall,hnil,zt (pS.1 hc)]; simp
       · (refine zx1 hg (bJi (sR o.pieces) o.args (by omega) hx) ?_; repeat' first | exact trivial | refine zJ ?_ ?_ | refine zH fun hc=>?_)
         refine bR ?_ (by rfl)
         rw [qQ,hemp,hall,zt (pS.1 hc)]; simp
     · refine bR ?_ (by rfl)
       have hne:o.pieces ≠ []:=fun e=>by simp_all
       simp_all [qQ,pS]
       omega
end Go.Proofs.YtdjcggcjlphdoaaGreatDoor
namespace Go.Proofs.YtdjcggcjlphdoaaGreatDoor
open Go Go.Vo
open Nat (reduceAdd reduceSub reduceMul reduceLeDiff reduceLT reduceEqDiff)
open Int (reduceNeg)

theorem rW {s:eD}:persL [cC s]=true:=by
 show (pers (cC s) && true)=true
 rw [oJ]; rfl
def aNc (o:LOp) (i:Int):Bool:=decide (1≤i) && decide (i≤o.args.length)
theorem aMj (o:LOp):persL (eR o)=true:=by simp only [eR,persL,pers,zP,V3,avb,kT,eE]
theorem bLi (i:Int) (o:LOp): CT 155 [.i .i64 i,.box (eR o) 0] (.b (aNc o i)):=by
 refine bY cU Tryz.func155 g0 ?_
 · skip
   (refine zs0 ?_; repeat' first | exact trivial | refine zJ ?_ ?_ | refine zH fun hc=>?_)
   all_goals (refine bR ?_ (by rfl))
   all_goals first | (simp_all [aNc]; done) | (simp_all [aNc]; omega)
def aXx (o:LOp):Bool:=decide (0≤o.prec) && decide (o.prec≤20) && (decide (0 < o.pieces.length) || decide (o.prec=0))
def aQu (o:LOp):Bool:=decide (0≤o.assoc) && decide (o.assoc≤2) && (decide (0 < o.prec) || decide (o.assoc=0))
def opHead (s:eD) (o:LOp):Bool:=fV (E8 o.name) && !pU.contains o.name && decide (o.args.length≤8) && o.args.all (jD s) && s.sorts.contains o.sort
def bNe (s:eD) (o:LOp):Bool:=opHead s o && aXx o && aQu o && o.strict.all (aNc o) && decide o.strict.Nodup && qQ o
def aUr (s:eD) (o:LOp):Bool:=fV o.name && !pU.contains o.name && decide (o.args.length≤8) && o.args.all (jD s) && jD s o.sort && (decide (o.pieces.length=0) && decide (o.prec=0) && decide (o.assoc=0) && decide (o.strict.length=0))
theorem bEu {n:Nat}:(8 < (n:Int))↔¬ n≤8:=by omega
theorem aWh {n:Nat}:((n:Int)≤8)↔n≤8:=by omega
theorem bEt {n:Nat}:(0 < (n:Int))↔0 < n:=by omega
theorem bQp {n:Nat}:((n:Int)=0)↔n=0:=by omega
theorem bQg (s:eD) (o:LOp) (hs:Small s) (ho:OkO o): CT 93 [cC s,elO o] (.b (aUr s o)):=by
 refine bY cU Tryz.func93 g0 ?_
 · skip
   (refine zs4 (G2 o.name ho.name) (bEk o.name) (aVq o.args 90 [cC s] [] (jD s) ho.args rW rfl (fun k hk=>aAc s (o.args.getD k []))) (aAc s o.sort) ?_; repeat' first | exact trivial | refine zJ ?_ ?_ | refine zH fun hc=>?_)
   all_goals (refine bR ?_ (by rfl))
   all_goals simp only [aWh,bQp] at *
   all_goals simp only [aUr, *,decide_true,decide_false,aX,aO,aM,aP,aB,aD,bB,aZ,aH,cO]
end Go.Proofs.YtdjcggcjlphdoaaGreatDoor
namespace Go.Proofs.YtdjcggcjlphdoaaGreatDoor
open Go Go.Vo
open Nat (reduceAdd reduceSub reduceMul reduceLeDiff reduceLT reduceEqDiff)
open Int (reduceNeg)

theorem bQh (s:eD) (o:LOp) (hs:Small s) (ho:OkO o): CT 92 [cC s,elO o] (.b (bNe s o)):=by
 refine bY cU Tryz.func92 g0 ?_
 · skip
   have hb:=jF (aGe o.name) ho.name
   have h1:=hs.sorts
   (repeat' (first | refine gT ?_ ?_ | refine gF ?_ ?_ | refine gC ?_ ?_ | ((first | (refine bU (aZu o.name ho.name) ?_ ?_; (focus (simp -implicitDefEqProofs (disch:=omega) only [zdA,go_sem,simprocAttr]; done))) | (refine bU (G2 (E8 o.name) hb) ?_ ?_; (focus (simp -implicitDefEqProofs (disch:=omega) only [zdA,go_sem,simprocAttr]; done))) | (refine bU (bEk o.name) ?_ ?_; (focus (simp -implicitDefEqProofs (disch:=omega) only [zdA,go_sem,simprocAttr]; done))) | (refine bU (aVq o.args 90 [cC s] [] (jD s) ho.args rW rfl (fun k hk=>aAc s (o.args.getD k []))) ?_ ?_; (focus (simp -implicitDefEqProofs (disch:=omega) only [zdA,go_sem,simprocAttr]; done))) | (refine bU (G1 s.sorts o.sort (by omega)) ?_ ?_; (focus (simp -implicitDefEqProofs (disch:=omega) only [zdA,go_sem,simprocAttr]; done))) | (refine bU (bLh o.strict 155 [] [.box (eR o) 0] (aNc o) ho.strict rfl (by simp only [persL,pers,aMj,eE]) (fun k hk=>bLi (o.strict.getD k 0) o)) ?_ ?_; (focus (simp -implicitDefEqProofs (disch:=omega) only [zdA,go_sem,simprocAttr]; done))) | (refine bU (bLg o.strict ho.strict) ?_ ?_; (focus (simp -implicitDefEqProofs (disch:=omega) only [zdA,go_sem,simprocAttr]; done))) | (refine bU (bLf o ho) ?_ ?_; (focus (simp -implicitDefEqProofs (disch:=omega) only [zdA,go_sem,simprocAttr]; done)))); simp -implicitDefEqProofs (disch:=omega) only [go_sem,simprocAttr]) | refine bG (by omega) ?_ | (intro hr; have hc:=hr; (try simp only [zdz] at hc); simp -implicitDefEqProofs (disch:=omega) only [hr,go_sem,simprocAttr]; (try clear hr))))
   all_goals (refine bR ?_ (by rfl))
   all_goals try simp only [bEu,bEt,Decidable.not_not] at *
   all_goals first | (exfalso; omega) | skip
   all_goals simp only [bNe,opHead,aXx,aQu, *,decide_true,decide_false,aX,aO,aM,aP,aB,aD,bB,aZ,aH,cO]
   all_goals first | (simp; done) | (simp_all; done) | (simp_all; omega)
end Go.Proofs.YtdjcggcjlphdoaaGreatDoor
namespace Go.Proofs.YtdjcggcjlphdoaaGreatDoor
open Go Go.Vo
open Nat (reduceAdd reduceSub reduceMul reduceLeDiff reduceLT reduceEqDiff)
open Int (reduceNeg)

attribute [go_sem] List.replicate_zero fC
end Go.Proofs.YtdjcggcjlphdoaaGreatDoor
namespace Go.Proofs.YtdjcggcjlphdoaaGreatDoor
open Go Go.Vo
open Nat (reduceAdd reduceSub reduceMul reduceLeDiff reduceLT reduceEqDiff)
open Int (reduceNeg)

def Z1 (x:Str):Bool:=fV x && !jP.contains x
def pI (s:eD):List Str:=s.ops.map LOp.name++s.funs.map LOp.name
def tU (s:eD):Bool:=decide (s.sorts.length≤40) && decide (s.below.length≤200) && decide (s.ops.length+s.funs.length≤200) && decide s.below.Nodup && decide s.values.Nodup
def tT (s:eD):Bool:=decide s.sorts.Nodup && s.sorts.all Z1 && decide (pI s).Nodup
def yM (s:eD):Bool:=s.below.all (A6 s) && s.values.all (jD s) && s.ops.all (bNe s) && s.funs.all (aUr s)
def kH (s:eD):Bool:=tU s && tT s && yM s
theorem B8 {s:eD} (h1:s.sorts.Nodup) (h2:s.sorts.all Z1=true) (h3:(pI s).Nodup):R3 s:=by
 refine ⟨?_,?_,?_⟩
 · unfold keysOf
   rw [mT]
   refine ⟨by decide,h1,?_⟩
   intro a ha b hb hab
   subst hab
   have:=bL.1 h2 a hb
   simp only [Z1,aE,fL] at this
   have h4:jP.contains a=true:=by simpa using ha
   rw [h4] at this
   cases this.2
 · unfold pI at h3
   exact (mT.1 h3).1
 · unfold pI at h3
   exact (mT.1 h3).2.1
theorem iK {s:eD} (h:kH s=true):R3 s:=by
 simp only [kH,tT,aE,decide_eq_true_eq] at h
 exact B8 h.1.2.1.1 h.1.2.1.2 h.1.2.2

theorem aOe (s:eD) (ho:OkS s):∀ k,k < s.sorts.length→CT 83 ([]++[.s (s.sorts.getD k [])]++[]) (.b (Z1 (s.sorts.getD k []))):=fun k hk=>bQk _ (ho.sortsS _ (cQ hk))
theorem aMk {a b:List AV}:persL (a++b)=(persL a && persL b):=by
 induction a with
 | nil=>simp [persL]
 | cons x l ih=>simp [persL,ih,sG]
theorem bKf (s:eD) (h:(pI s).length≤140737488355328):CT 82 [.sl ((s.ops.map LOp.name).map .s++(s.funs.map LOp.name).map .s) (s.ops.length+s.funs.length)] (.b (decide (pI s).Nodup)):=by
 have:=bEj (pI s) h
 simpa only [avs,pI,cB,List.length_append,dC] using this
theorem bAq {α β γ:Type} {f:β→γ} {g:α→β} {a b:List α}:((a.map g).map f++(b.map g).map f).take (a.length+b.length)=(a.map g).map f++(b.map g).map f:=bD (by simp)
attribute [go_sem] aMk bAq
theorem aIx (s:eD) (hs:Small s) (ho:OkS s): CT 44 [.agg (dD s)] (.b (kH s)):=by
 refine bY cU Tryz.func44 g0 ?_
 · skip
   have h1:=hs.sorts
   have h2:=hs.below
   have h3:=hs.ops
   have h4:=hs.funs
   have h5:=hs.values
   (refine zs2 (bQl s.below ho.below) (bEj s.values ho.values) ?_; repeat' first | exact trivial | refine zJ ?_ ?_ | refine zH fun hc=>?_)
   all_goals first | (refine bR ?_ (by rfl); simp only [kH,tU]; simp_all; done) | (refine bR ?_ (by rfl); simp only [kH,tU]; simp_all; omega) | skip
   (repeat' (first | refine gT ?_ ?_ | refine gF ?_ ?_ | refine gC ?_ ?_ | ((first | (refine bU (bEj s.sorts ho.sorts) ?_ ?_; (focus (simp -implicitDefEqProofs (disch:=omega) only [zdA,go_sem,simprocAttr]; done))) | (refine bU (aVq s.sorts 83 [] [] Z1 ho.sorts rfl rfl (aOe s ho)) ?_ ?_; (focus (simp -implicitDefEqProofs (disch:=omega) only [zdA,go_sem,simprocAttr]; done))) | (refine bU (bKb s.ops ho.opsT) ?_ ?_; (focus (simp -implicitDefEqProofs (disch:=omega) only [zdA,go_sem,simprocAttr]; done))) | (refine bU (bKb s.funs ho.funsT) ?_ ?_; (focus (simp -implicitDefEqProofs (disch:=omega) only [zdA,go_sem,simprocAttr]; done))) | (refine bU (bKf s (by simp only [pI,List.length_append,dC]; omega)) ?_ ?_; (focus (simp -implicitDefEqProofs (disch:=omega) only [zdA,go_sem,simprocAttr]; done)))); simp -implicitDefEqProofs (disch:=omega) only [go_sem,simprocAttr]) | refine bG (by omega) ?_ | (intro hr; have hc:=hr; (try simp only [zdz] at hc); simp -implicitDefEqProofs (disch:=omega) only [hr,go_sem,simprocAttr]; (try clear hr))))
   all_goals first | (refine bR ?_ (by rfl); simp only [kH,tT, *,decide_true,decide_false,aM,aP]; done) | skip
   (repeat' (first | refine gT ?_ ?_ | refine gF ?_ ?_ | refine gC ?_ ?_ | ((first | (refine bU (aAd s hs (B8 (by assumption) (by assumption) (by assumption))) ?_ ?_; (focus (simp -implicitDefEqProofs (disch:=omega) only [zdA,go_sem,simprocAttr]; done))) | (refine bU (bQj s.below 89 [cC s] [] (A6 s) ho.below rW rfl (fun k hk=>bQi s (s.below.getD k ([],[])) hs)) ?_ ?_; (focus (simp -implicitDefEqProofs (disch:=omega) only [zdA,go_sem,simprocAttr]; done))) | (refine bU (aVq s.values 90 [cC s] [] (jD s) ho.values rW rfl (fun k hk=>aAc s (s.values.getD k []))) ?_ ?_; (focus (simp -implicitDefEqProofs (disch:=omega) only [zdA,go_sem,simprocAttr]; done))) | (refine bU (bJp s.ops 92 [cC s] [] (bNe s) ho.ops rW rfl (fun k hk=>bQh s (s.ops.getD k default) hs (ho.opsO (s.ops.getD k default) (cQ hk)))) ?_ ?_; (focus (simp -implicitDefEqProofs (disch:=omega) only [zdA,go_sem,simprocAttr]; done))) | (refine bU (bJp s.funs 93 [cC s] [] (aUr s) ho.funs rW rfl (fun k hk=>bQg s (s.funs.getD k default) hs (ho.funsO (s.funs.getD k default) (cQ hk)))) ?_ ?_; (focus (simp -implicitDefEqProofs (disch:=omega) only [zdA,go_sem,simprocAttr]; done)))); simp -implicitDefEqProofs (disch:=omega) only [go_sem,simprocAttr]) | refine bG (by omega) ?_ | (intro hr; have hc:=hr; (try simp only [zdz] at hc); simp -implicitDefEqProofs (disch:=omega) only [hr,go_sem,simprocAttr]; (try clear hr))))
   all_goals first | (refine bR ?_ (by rfl); simp only [kH,tT,yM, *,decide_true,decide_false,aM,aP]; done) | skip
   all_goals refine bR ?_ (by rfl)
   all_goals simp only [kH,tU,tT,yM, *,decide_true,aX,aO]
   all_goals (simp; omega)
end Go.Proofs.YtdjcggcjlphdoaaGreatDoor
namespace Go.Proofs.YtdjcggcjlphdoaaGreatDoor
open Go Go.Vo
open Nat (reduceAdd reduceSub reduceMul reduceLeDiff reduceLT reduceEqDiff)
open Int (reduceNeg)

end Go.Proofs.YtdjcggcjlphdoaaGreatDoor
namespace Go.Proofs.YtdjcggcjlphdoaaGreatDoor
open Go Go.Vo
open Nat (reduceAdd reduceSub reduceMul reduceLeDiff reduceLT reduceEqDiff)
open Int (reduceNeg)

def bSw (o:LOp):Nat:=o.args.length+o.pieces.length+o.strict.length
def pT (l:List LOp):Nat:=(l.map bSw).sum
def few (s:eD):Bool:=decide (s.sorts.length≤60) && decide (s.below.length≤250) && decide (s.ops.length+s.funs.length≤250) && decide (s.values.length≤100) && decide (pT (s.ops++s.funs)≤3000)
@[simp] theorem bMe:pT []=0:=rfl
theorem aYx {s:eD} (h:60 < s.sorts.length∨250 < s.below.length∨250 < s.ops.length+s.funs.length∨100 < s.values.length∨3000 < pT (s.ops++s.funs)):few s=false:=by
 unfold few
 simp only [aDs,decide_eq_false_iff_not]
 omega
theorem bDz {s:eD} (h:s.sorts.length≤60∧s.below.length≤250∧s.ops.length+s.funs.length≤250∧s.values.length≤100∧pT (s.ops++s.funs)≤3000):few s=true:=by
 unfold few
 simp only [aE,decide_eq_true_eq]
 omega
theorem aJd {l:List LOp} {k:Nat} (h:k < l.length):pT (l.take (k+1))=pT (l.take k)+bSw (l.getD k default):=by
 rw [eN (d:=default) h]; simp [pT]
theorem aWk {l:List LOp} {k:Nat}:pT (l.take k)≤pT l:=by
 have h:pT (l.take k++l.drop k)=pT l:=by rw [eF]
 unfold pT at *
 rw [cB,List.sum_append] at h
 omega
theorem bQn (s:eD) (hs:OkS s): CT 38 [.agg (dD s)] (.b (few s)):=by
 refine gH (rx:=true) (th:=fun _=>none) cU Tryz.func38 g0 ?_
 · simp -implicitDefEqProofs (disch:=omega) only [Tryz.f38,go_sem,List.replicate,simprocAttr]
   have h1:=hs.sorts
   have h2:=hs.below
   have h3:=hs.ops
   have h4:=hs.funs
   have h5:=hs.values
   (refine zs0 ?_; repeat' first | exact trivial | refine zJ ?_ ?_ | refine zH fun hc=>?_)
   all_goals first | (refine bR ?_ (by rfl); rw [aYx (by omega)]; done) | skip
   rw [← List.flatMap_append,← List.length_append]
   have hL:(s.ops++s.funs).length=s.ops.length+s.funs.length:=List.length_append
   have hO:∀ x ∈ s.ops++s.funs,OkO x:=fun x hx=>(cR.1 hx).elim (hs.opsO x) (hs.funsO x)
   have hfin:pT (s.ops++s.funs)≤3000→few s=true:=fun h=>bDz ⟨by omega,by omega,by omega,by omega,h⟩
   have hfin2:3000 < pT (s.ops++s.funs)→few s=false:=fun h=>aYx (by omega)
   generalize s.ops++s.funs=L at hL hO hfin hfin2
   refine lI (fun (k:Nat)=>(.k::.k::.j::.v (.i .i64 (pT (L.take k):Nat))::.k::.j::(rp 34 .k (.v (.i .i64 k)::(rp 19 .j []))))) (fun k=>[.box false (sgC s),.dead,.arr false 7 (L.flatMap eR)]) (fun k=>k≤L.length∧pT (L.take k)≤3000) (fun k=>L.length - k) (0) _ ⟨bJ _,by simp [pT]⟩ rfl (by simp [gX]) ?_
   rintro k g j ⟨hk,hb⟩
   have ho:k < L.length→(L.getD k default).args.length≤140737488355328∧(L.getD k default).pieces.length≤140737488355328∧(L.getD k default).strict.length≤140737488355328:=fun h=>⟨(hO _ (cQ h)).args,(hO _ (cQ h)).pieces,(hO _ (cQ h)).strict⟩
   have hs1:k < L.length→pT (L.take (k+1))=pT (L.take k)+((L.getD k default).args.length+(L.getD k default).pieces.length+(L.getD k default).strict.length):=fun h=>aJd h
   have hle:=aWk (l:=L) (k:=k+1)
   refine zg ?_
   (refine zs0 ?_; repeat' first | exact trivial | refine zJ ?_ ?_ | refine zH fun hc=>?_)
   · refine bR ?_ (by rfl)
     have:=hs1 (by omega)
     rw [hfin2 (by omega)]
   · have h1:=hs1 (by omega)
     refine ⟨k+1,_,⟨by omega,by omega⟩,by omega,rfl,?_⟩
     rw [h1]; simp
   · refine bR ?_ (by rfl)
     have hk2:k=L.length:=by omega
     subst hk2
     rw [gY] at hb
     rw [hfin hb]
end Go.Proofs.YtdjcggcjlphdoaaGreatDoor
namespace Go.Proofs.YtdjcggcjlphdoaaGreatDoor
open Go Go.Vo
open Nat (reduceAdd reduceSub reduceMul reduceLeDiff reduceLT reduceEqDiff)
open Int (reduceNeg)

end Go.Proofs.YtdjcggcjlphdoaaGreatDoor
namespace Go.Proofs.YtdjcggcjlphdoaaGreatDoor
open Go Go.Vo
open Nat (reduceAdd reduceSub reduceMul reduceLeDiff reduceLT reduceEqDiff)
open Int (reduceNeg)

attribute [go_sem] ite_self aF decide_true decide_false not_true_eq_false not_false_eq_true aB aD
def qI (r:Option LOp):AV:=match r with
 | some o=>.tup [elO o,.b true]
 | none=>.tup [elO default,.b false]
def aYf (s:eD) (x:Str):Option LOp:=s.ops.find? fun o=>decide (o.name=x)
def aIq (s:eD) (x:Str):Option LOp:=s.funs.find? fun o=>decide (o.name=x)
theorem pQ {l:List LOp} {x:Str}:((l.map LOp.name).findIdx? fun y=>decide (x=y))=l.findIdx? fun o=>decide (o.name=x):=by
 rw [List.findIdx?_map]; congr 1; funext o; simp [eq_comm]
theorem aFj {l:List LOp} {x:Str}:(∃ i o,(l.findIdx? fun o=>decide (o.name=x))=some i∧l.find? (fun o=>decide (o.name=x))=some o∧(l.map elO)[i]? = some (elO o))∨((l.findIdx? fun o=>decide (o.name=x))=none∧l.find? (fun o=>decide (o.name=x))=none):=by
 induction l with
 | nil=>right; simp
 | cons a l ih=>
   by_cases h:a.name=x
   · left; exact ⟨0,a,by simp [gS,h],by simp [h],by simp⟩
   · rcases ih with ⟨i,o,h1,h2,h3⟩ | ⟨h1,h2⟩
     · left; exact ⟨i+1,o,by simp [gS,h,h1],by simp [h,h2],by simpa using h3⟩
     · right; exact ⟨by simp [gS,h,h1],by simp [h,h2]⟩
theorem bJj (s:eD) (x:Str): CT 165 [cC s,.s x] (qI (aYf s x)):=by
 refine bY cU Tryz.func165 g0 ?_
 · skip
   rcases aFj (l:=s.ops) (x:=x) with ⟨i,o,h1,h2,h3⟩ | ⟨h1,h2⟩
   · refine zh (zA2 @pQ (zA2 h1 h3)) ?_
     exact bR (by simp only [qI,aYf,h2]; rfl) (by simp only [pers,persL,kX,kT,qZ,eE])
   · refine zh (zA2 @pQ h1) ?_
     have:qI (aYf s x)=.tup [elO default,.b false]:=by simp only [qI,aYf,h2]
     rw [this]
     exact .inr ⟨⟨⟨rfl,rfl,rfl,rfl,rfl,rfl,rfl,trivial⟩,rfl,trivial⟩,by decide,fun i hi=>by cases hi⟩
theorem bQf (s:eD) (x:Str): CT 218 [cC s,.s x] (qI (aIq s x)):=by
 refine bY cU Tryz.func218 g0 ?_
 · skip
   rcases aFj (l:=s.funs) (x:=x) with ⟨i,o,h1,h2,h3⟩ | ⟨h1,h2⟩
   · refine zh (zA2 @pQ (zA2 h1 h3)) ?_
     exact bR (by simp only [qI,aIq,h2]; rfl) (by simp only [pers,persL,kX,kT,qZ,eE])
   · refine zh (zA2 @pQ h1) ?_
     have:qI (aIq s x)=.tup [elO default,.b false]:=by simp only [qI,aIq,h2]
     rw [this]
     exact .inr ⟨⟨⟨rfl,rfl,rfl,rfl,rfl,rfl,rfl,trivial⟩,rfl,trivial⟩,by decide,fun i hi=>by cases hi⟩
end Go.Proofs.YtdjcggcjlphdoaaGreatDoor
namespace Go.Proofs.YtdjcggcjlphdoaaGreatDoor
open Go Go.Vo
open Nat (reduceAdd reduceSub reduceMul reduceLeDiff reduceLT reduceEqDiff)
open Int (reduceNeg)


end Go.Proofs.YtdjcggcjlphdoaaGreatDoor
namespace Go.Proofs.YtdjcggcjlphdoaaGreatDoor
open Go Go.Vo
open Nat (reduceAdd reduceSub reduceMul reduceLeDiff reduceLT reduceEqDiff)
open Int (reduceNeg)

end Go.Proofs.YtdjcggcjlphdoaaGreatDoor
namespace Go.Proofs.YtdjcggcjlphdoaaGreatDoor
open Go Go.Vo
open Nat (reduceAdd reduceSub reduceMul reduceLeDiff reduceLT reduceEqDiff)
open Int (reduceNeg)

end Go.Proofs.YtdjcggcjlphdoaaGreatDoor
namespace Go.Proofs.YtdjcggcjlphdoaaGreatDoor
open Go Go.Vo
open Nat (reduceAdd reduceSub reduceMul reduceLeDiff reduceLT reduceEqDiff)
open Int (reduceNeg)

end Go.Proofs.YtdjcggcjlphdoaaGreatDoor
namespace Go.Proofs.YtdjcggcjlphdoaaGreatDoor
open Go Go.Vo
open Nat (reduceAdd reduceSub reduceMul reduceLeDiff reduceLT reduceEqDiff)
open Int (reduceNeg)

end Go.Proofs.YtdjcggcjlphdoaaGreatDoor
namespace Go.Proofs.YtdjcggcjlphdoaaGreatDoor
open Go Go.Vo
open Nat (reduceAdd reduceSub reduceMul reduceLeDiff reduceLT reduceEqDiff)
open Int (reduceNeg)

end Go.Proofs.YtdjcggcjlphdoaaGreatDoor
namespace Go.Proofs.YtdjcggcjlphdoaaGreatDoor
open Go Go.Vo
open Nat (reduceAdd reduceSub reduceMul reduceLeDiff reduceLT reduceEqDiff)
open Int (reduceNeg)

end Go.Proofs.YtdjcggcjlphdoaaGreatDoor
namespace Go.Proofs.YtdjcggcjlphdoaaGreatDoor
open Go Go.Vo
open Nat (reduceAdd reduceSub reduceMul reduceLeDiff reduceLT reduceEqDiff)
open Int (reduceNeg)

end Go.Proofs.YtdjcggcjlphdoaaGreatDoor
namespace Go.Proofs.YtdjcggcjlphdoaaGreatDoor
open Go Go.Vo
open Nat (reduceAdd reduceSub reduceMul reduceLeDiff reduceLT reduceEqDiff)
open Int (reduceNeg)

end Go.Proofs.YtdjcggcjlphdoaaGreatDoor
namespace Go.Proofs.YtdjcggcjlphdoaaGreatDoor
open Go Go.Vo
open Nat (reduceAdd reduceSub reduceMul reduceLeDiff reduceLT reduceEqDiff)
open Int (reduceNeg)

end Go.Proofs.YtdjcggcjlphdoaaGreatDoor
namespace Go.Proofs.YtdjcggcjlphdoaaGreatDoor
open Go Go.Vo
open Nat (reduceAdd reduceSub reduceMul reduceLeDiff reduceLT reduceEqDiff)
open Int (reduceNeg)

end Go.Proofs.YtdjcggcjlphdoaaGreatDoor
namespace Go.Proofs.YtdjcggcjlphdoaaGreatDoor
open Go Go.Vo
open Nat (reduceAdd reduceSub reduceMul reduceLeDiff reduceLT reduceEqDiff)
open Int (reduceNeg)

end Go.Proofs.YtdjcggcjlphdoaaGreatDoor
namespace Go.Proofs.YtdjcggcjlphdoaaGreatDoor
open Go Go.Vo
open Nat (reduceAdd reduceSub reduceMul reduceLeDiff reduceLT reduceEqDiff)
open Int (reduceNeg)

end Go.Proofs.YtdjcggcjlphdoaaGreatDoor
namespace Go.Proofs.YtdjcggcjlphdoaaGreatDoor
open Go Go.Vo
open Nat (reduceAdd reduceSub reduceMul reduceLeDiff reduceLT reduceEqDiff)
open Int (reduceNeg)

theorem aOu {s:eD} (h:few s=true):Small s:=by
 simp only [few,aE,decide_eq_true_eq] at h
 exact ⟨by omega,by omega,by omega,by omega,by omega⟩
end Go.Proofs.YtdjcggcjlphdoaaGreatDoor
namespace Go.Proofs.YtdjcggcjlphdoaaGreatDoor
open Go Go.Vo
open Nat (reduceAdd reduceSub reduceMul reduceLeDiff reduceLT reduceEqDiff)
open Int (reduceNeg)

end Go.Proofs.YtdjcggcjlphdoaaGreatDoor
namespace Go.Proofs.YtdjcggcjlphdoaaGreatDoor
open Go Go.Vo
open Nat (reduceAdd reduceSub reduceMul reduceLeDiff reduceLT reduceEqDiff)
open Int (reduceNeg)

theorem aOn {h:List AObj} {b:Bool}:Fin h (.tup [.agg [.s [],.e0,.s [],.e0,.i .i64 0,.i .i64 0,.e0],.b b]) (.tup [elO default,.b b]):=
 .inr ⟨⟨⟨rfl,rfl,rfl,rfl,rfl,rfl,rfl,trivial⟩,rfl,trivial⟩,by simp [elO,eR,cV,finIdsL,avs,avb,avi],by simp [elO,eR,cV,finIdsL,avs,avb,avi]⟩
end Go.Proofs.YtdjcggcjlphdoaaGreatDoor

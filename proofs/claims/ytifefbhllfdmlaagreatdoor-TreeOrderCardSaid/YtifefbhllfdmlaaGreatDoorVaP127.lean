/-
  What functions of the chapter return, as plain functions of what they are given; no condition beyond those that each theorem names.
-/
import Derived.Test.YtifefbhllfdmlaaGreatDoorVaP121
import Derived.Test.YtifefbhllfdmlaaGreatDoorSoP123
import Derived.Test.YtifefbhllfdmlaaGreatDoorSoP122
import Derived.Test.YtifefbhllfdmlaaGreatDoorVoP129
import Derived.Test.YtifefbhllfdmlaaGreatDoorTeP123
import Derived.Test.YtifefbhllfdmlaaGreatDoorTeP124
import Derived.Test.YtifefbhllfdmlaaGreatDoorVaP126
import Derived.Test.YtifefbhllfdmlaaGreatDoorTeP125
import Derived.Test.YtifefbhllfdmlaaGreatDoorVaP125
set_option maxRecDepth 100000
set_option linter.unusedSimpArgs false
set_option linter.unusedVariables false
set_option maxHeartbeats 4000000
namespace Go.Proofs.YtifefbhllfdmlaaGreatDoor
open Go Go.Vo Go.Shelf Go.RowKit
open Nat (reduceAdd reduceSub reduceMul reduceLeDiff reduceLT reduceEqDiff)
open Int (reduceNeg)

abbrev TW:TypeId:=235
abbrev TB:TypeId:=5
set_option maxHeartbeats 1000000 in
theorem bMk (b:Nat) (p v:Value) (w:World) (hb:w.heap[b]? = some (.cells #[p,v] TW (0,0))) (hp:p=.pointer none∨p=selfP b) :
   Calls Tryz.prog 266 #[selfP b] w fun e w'=>e=.returned (.tuple #[])∧w'.heap[b]? = some (.cells #[selfP b,v] TW (0,0))∧w.grownBy w' (some b)∧w'.heap.size=w.heap.size∧Shp w w':=by
 have h0:w.cell? ⟨b,0,none⟩=some p:=by rw [Lib.cell_of_heap hb]; rfl
 have hsz:(Tryz.prog.info? 233).map (·.size)=some 2:=by kernel_rfl
 obtain ⟨j,hj,hjs⟩:=bG.1 hsz
 have mixed:=mixed
 have t72:=Tryz.underlying233; have a72:=Tryz.isAgg233; have z72:=Tryz.sizeOf233; have v72:=Tryz.zeroValue233; have u72:=run_underlying t72
 have t70:=Tryz.underlying230; have a70:=Tryz.isAgg230; have z70:=Tryz.sizeOf230; have v70:=Tryz.zeroValue230; have u70:=run_underlying t70
 have t4:=Tryz.underlying4; have a4:=Tryz.isAgg4; have z4:=Tryz.sizeOf4; have v4:=Tryz.zeroValue4; have u4:=run_underlying t4
 have t164:=Tryz.underlying300; have a164:=Tryz.isAgg300; have z164:=Tryz.sizeOf300; have v164:=Tryz.zeroValue300; have u164:=run_underlying t164
 unfold selfP at *
 rcases hp with rfl | rfl
 · have hsh:w.shape? b=some (TW,2):=by simp [World.shape?,hb]
   have hfz:w.frozen? ⟨b,0,none⟩=false:=Lib.frozen_of_heap hb 0
   have hl:liesAt Tryz.prog Tryz.prog.depth TW (2 / Tryz.prog.cellsOf TW) 0 233 1=true:=by kernel_rfl
   have main:Calls Tryz.prog 266 #[.pointer (some ⟨b,0,none⟩)] w fun e w'=>e=.returned (.tuple #[])∧w'=w.setCell ⟨b,0,none⟩ (.pointer (some ⟨b,0,none⟩)):=by
     go_enter Tryz.func266,Tryz.ntmps266
     go_wp2
     rw [Lib.run_to_unsafe w ⟨b,0,none⟩ t70 t164 hj (by rw [hjs]; decide) hsh (Nat.zero_lt_succ 1)]
     simp only [Result.andThen]
     rw [Oper.upon_value]
     go_wp2
     rw [run_callFunc_extern Tryz.func276 (by kernel_rfl) (by kernel_rfl) (by kernel_rfl) (e:=Extern.AbiNoEscape.same) (by kernel_rfl)]
     rw [Lib.run_noEscape]
     simp only [Result.andThen]
     rw [Oper.upon_value]
     go_wp2
     rw [Lib.run_from_unsafe w ⟨b,0,none⟩ t164 t70 hj hsh hl]
     simp only [Result.andThen]
     rw [Oper.upon_value]
     go_wp2
     go_end0
     exact ⟨rfl,rfl⟩
   refine main.mono ?_
   rintro e w' ⟨rfl,rfl⟩
   refine ⟨rfl,?_,⟨rfl,rfl,rfl,by simp [World.setCell],fun k hk hne=>?_⟩,by simp [World.setCell],xM _ _ _⟩
   · simp [World.setCell,jI,hb]
   · exact Below.heap_setCell _ _ _ _ (fun e=>hne (by simp [e]))
 · have main:Calls Tryz.prog 266 #[.pointer (some ⟨b,0,none⟩)] w fun e w'=>e=.returned (.tuple #[])∧w'=w:=by
     go_enter Tryz.func266,Tryz.ntmps266
     go_wp2
     rw [Lib.run_neq_ptr_same w _ t70 hj]
     go_wp2
     go_end0
     exact ⟨rfl,rfl⟩
   refine main.mono ?_
   rintro e w' ⟨rfl,rfl⟩
   exact ⟨rfl,hb,⟨rfl,rfl,rfl,aX _,fun _ _ _=>rfl⟩,rfl,Shp.refl _⟩
def bNc:Ren:=⟨fun | 166=>245 | 240=>266 | 169=>220 | n=>n,fun | 72=>233 | 70=>230 | 37=>231 | 127=>264 | 164=>300 | 75=>259 | n=>n,fun n=>n⟩
theorem bPc:bMy Tryz.prog bNc TW:={
 mixed:=mixed
 f166:=Tryz.func245.trans (congrArg some (by kernel_rfl))
 e240:=enters_of Tryz.func266 (by kernel_rfl) rfl
 copy:=bMk
 t3:=Tryz.underlying3
 a3:=Tryz.isAgg3
 z3:=Tryz.sizeOf3
 v3:=Tryz.zeroValue3
 t4:=Tryz.underlying4
 a4:=Tryz.isAgg4
 z4:=Tryz.sizeOf4
 v4:=Tryz.zeroValue4
 t9:=Tryz.underlying9
 a9:=Tryz.isAgg9
 z9:=Tryz.sizeOf9
 v9:=Tryz.zeroValue9
 t37:=Tryz.underlying231
 a37:=Tryz.isAgg231
 z37:=Tryz.sizeOf231
 v37:=Tryz.zeroValue231
 t70:=Tryz.underlying230
 a70:=Tryz.isAgg230
 z70:=Tryz.sizeOf230
 v70:=Tryz.zeroValue230
 t72:=Tryz.underlying233
 a72:=Tryz.isAgg233
 z72:=Tryz.sizeOf233
 v72:=Tryz.zeroValue233 }
theorem bIe:Builder.Extra Tryz.prog bNc:={
 sizeBuilder:=by kernel_rfl
 liesBuilder:=by kernel_rfl
 t5:=Tryz.underlying5
 a5:=Tryz.isAgg5
 z5:=Tryz.sizeOf5
 v5:=Tryz.zeroValue5
 infoByte:=by kernel_rfl
 cellsByte:=by kernel_rfl
 sizeByte:=by kernel_rfl
 neB5:=by decide }
abbrev WrP (f:FuncId) (A:List AV) (r:AV) (acc acc':Str):Prop:=Wr Tryz.prog G0 TW TB f A r acc acc'
theorem wrS {acc s:Str} (h:acc.length+s.length≤140737488355328):WrP 245 [.ptr 0 0,.s s] (.tup [.i .i64 s.length,.p .nilIface]) acc (acc++s):=fun v=>
 (V6 bPc bIe (by decide) (by kernel_rfl) h).mono fun r h' ⟨h1,v',h2⟩=>⟨h1,v',[],h2⟩
theorem bNe {acc:Str} {v:Value}:ACalls Tryz.prog G0 220 [.ptr 0 0] [oQ TW v,qT TB v acc] (fun r h'=>r=.s acc∧h'=[.dead,.dead]):=
 L3 (T:=TW) (ρ:=Tryz.lays169_ren) Tryz.lays169 Tryz.Builder_Extra_169 (by decide) (by kernel_rfl)
end Go.Proofs.YtifefbhllfdmlaaGreatDoor
namespace Go.Proofs.YtifefbhllfdmlaaGreatDoor
open Go Go.Vo
open Nat (reduceAdd reduceSub reduceMul reduceLeDiff reduceLT reduceEqDiff)
open Int (reduceNeg)

abbrev WrK (l':Str):AV→List AObj→Prop:=fun r h'=>r=.tup []∧∃ v' tl,h'=oQ TW v'::qT TB v' l'::tl
theorem aBi {v:Value} {l l':Str} {tl:List AObj} (e:l=l'):WrK l' (.tup []) (oQ TW v::qT TB v l::tl):=⟨rfl,v,tl,by rw [e]⟩
abbrev WrT (t:LTerm):Prop:=∀ acc:Str,acc.length+(gW t).length≤140737488355328→WrP 219 [.ptr 0 0,elT t] (.tup []) acc (acc++gW t)
theorem aHj (t:LTerm) (acc:Str) (v:Value) (ht:OkT t) (hk:t.kind=1) (hn:mM t.n=true) (hf:acc.length+(gW t).length≤140737488355328): ACalls Tryz.prog G0 219 [.ptr 0 0,elT t] [oQ TW v,qT TB v acc] (WrK (acc++gW t)):=by
 refine fO (rx:=false) (th:=fun _=>some ⟨none,[],false,false,true,[],[],0⟩) mixed Tryz.func219 rfl (by kernel_rfl) (by kernel_rfl) (ac:=?_) ?_ ?_
 rotate_left
 · simp only [strip,kC,A7,RX.off,ckF,ckX,zOf,exd,vOf,bL,bB,bU,bR,bC,bS,aW,bC,dO,dK,gL,lI,bV,dQ,bJ,aU,fN,anyPre,Region.binds,bX,bY,aH,if_true,if_false,cS,cR,aM,aS,bE,aO,bL,bB,List.append_nil,jX,kS,lG,Nat.reduceBEq,dH]
   rfl
 · simp -implicitDefEqProofs (disch:=omega) only [Tryz.f219,go_sem,List.replicate,↓reduceIte,reduceAdd,reduceSub,reduceMul,reduceLeDiff,reduceLT,reduceEqDiff,reduceNeg,Nat.reduceBEq]
   have e:=nW t
   have hl:=congrArg List.length e
   rw [if_pos hk] at e hl
   have hi : -2147483647≤t.n∧t.n≤2147483647:=by simpa only [mM,aB,decide_eq_true_eq] using hn
   have w1:=wrS (acc:=acc) (s:=Lib.itoa t.n) (by omega)
   refine zh (zt hk) ?_
   (repeat' (first | refine gT ?_ ?_ | refine gF ?_ ?_ | refine gC ?_ ?_ | ((refine bI (tO t.n (by omega) (by omega)) ?_ ?_; (focus (simp -implicitDefEqProofs (disch:=omega) only [zt hk,zdB,go_sem,↓reduceIte,reduceAdd,reduceSub,reduceMul,reduceLeDiff,reduceLT,reduceEqDiff,reduceNeg,Nat.reduceBEq]; done))); simp -implicitDefEqProofs (disch:=omega) only [zt hk,go_sem,↓reduceIte,reduceAdd,reduceSub,reduceMul,reduceLeDiff,reduceLT,reduceEqDiff,reduceNeg,Nat.reduceBEq]) | (refine aGi 0 1 g0 (w1) rfl (by decide) rfl rfl (by first | rfl | (simp only [renL,ren,elT,bT,avt,renL_pers _ _ iF,aSo]; done)) ?_; intro v9 g9; simp -implicitDefEqProofs (disch:=omega) only [zt hk,go_sem,↓reduceIte,reduceAdd,reduceSub,reduceMul,reduceLeDiff,reduceLT,reduceEqDiff,reduceNeg,Nat.reduceBEq]) | refine bM (by omega) ?_ | (intro hr; have hc:=hr; (try simp only [zdz] at hc); simp -implicitDefEqProofs (disch:=omega) only [hr,zt hk,go_sem,↓reduceIte,reduceAdd,reduceSub,reduceMul,reduceLeDiff,reduceLT,reduceEqDiff,reduceNeg,Nat.reduceBEq]; (try clear hr))))
   all_goals exact aBi (by rw [e])
theorem bCp (t:LTerm) (ht:OkT t) (hk:t.kind=1) (hn:mM t.n=true):WrT t:=fun acc hf v=>aHj t acc v ht hk hn hf
theorem bEr {N:Nat}:emb [1,2] N 0=1:=rfl
theorem bAv (t:LTerm) (ht:OkT t) (hk:t.kind=1) (hn:mM t.n=true) (hl:(gW t).length≤140737488355328):CT 179 [elT t] (.s (gW t)):=by
 have hz0:(Tryz.prog.info? TW).map (fun i=>i.zero.map (·.cells))=some (some #[.pointer Option.none,M5]):=by kernel_rfl
 obtain ⟨i,hi,hz1⟩:=bG.1 hz0
 obtain ⟨z,hz,hc⟩:=bG.1 hz1
 refine aIv Tryz.func179 rfl (by kernel_rfl) g0 ?_
 refine aDu ?_
 refine oV (rx:=false) (th:=fun _=>none) mixed _ (ac:=?_) (by kernel_rfl) ?_ _ _ _ ?_
 rotate_left
 · simp only [strip,kC,A7,RX.off,ckF,ckX,zOf,exd,vOf,bC,dO,dK,gL,lI,bV,dQ,bJ,aU,fN,anyPre,Region.binds,bX,bY,aH,if_true,if_false,cS,cR,aM,aS,bE,aO,bL,bB,List.append_nil]
   rfl
 · simp -implicitDefEqProofs (disch:=omega) only [Tryz.f179,go_sem,List.replicate,↓reduceIte,reduceAdd,reduceSub,reduceMul,reduceLeDiff,reduceLT,reduceEqDiff,reduceNeg,Nat.reduceBEq]
   refine aDu (aWq TB rfl rfl hi hz hc ?_)
   refine oV (rx:=false) (th:=fun _=>none) mixed _ (ac:=?_) (by kernel_rfl) ?_ _ _ _ ?_
   rotate_left
   · simp only [strip,kC,A7,RX.off,ckF,ckX,zOf,exd,vOf,bC,dO,dK,gL,lI,bV,dQ,bJ,aU,fN,anyPre,Region.binds,bX,bY,aH,if_true,if_false,cS,cR,aM,aS,bE,aO,bL,bB,List.append_nil]
     rfl
   · refine zg ?_
     refine aGi 1 2 g0 (bCp t ht hk hn [] (by simpa using hl)) rfl (by decide) rfl rfl (by simp only [renL,ren,elT,bT,avt,renL_pers _ _ iF,bEr]) ?_
     intro v9 g9
     refine zg ?_
     refine aWo 1 2 g0 bNe (by decide) rfl rfl rfl ?_
     refine zg ?_
     exact aP rfl rfl
end Go.Proofs.YtifefbhllfdmlaaGreatDoor
namespace Go.Proofs.YtifefbhllfdmlaaGreatDoor
open Go Go.Vo
open Nat (reduceAdd reduceSub reduceMul reduceLeDiff reduceLT reduceEqDiff)
open Int (reduceNeg)

def bIu:Str:=[69,120,112]
def bJo:Str:=[73,110,116]
def aHh:Str:=[112,108,117,115]
def aHi:Str:=[109,105,110,117,115]
def sgS:dF:=⟨[bIu],[(bJo,bIu)],[⟨aHh,[aHd,aHd],bIu,[],0,0,[]⟩,⟨aHi,[aHd,aHd],bIu,[],0,0,[]⟩],[],[]⟩
def aIb (n:Int):LTerm:=.mk 1 n [] [] [] []
def bCb (x so:Str):LTerm:=.mk 6 0 x so [] []
def bDe (x:Str) (l:List LTerm):LTerm:=.mk 5 0 x [] l []
def xp1:LTerm:=bDe aHh [bCb [88] bJo,aIb 1]
def xp2:LTerm:=bDe aHh [bCb [88] aHd,bCb [89] aHd]
def xp3:LTerm:=bDe aHi [bCb [88] aHd,bCb [89] aHd]
def xt:LTerm:=bDe aHh [aIb 2,aIb 1]
def xa:LAsk:=⟨[1],⟨1,aIb 1,[],0⟩⟩
def xa0:LAsk:=⟨[],⟨2,zT,aHh,2⟩⟩
def xa1:LAsk:=⟨[0],⟨6,zT,bJo,0⟩⟩
def xa3:LAsk:=⟨[],⟨2,zT,aHi,2⟩⟩
def aVq:List (FuncId × List AV × AV):=[
 (13,[.agg (cB sgS),elT xp1],aDv (O2 sgS xp1)),
 (48,[.agg (cB sgS)],cU sgS),
 (47,[.agg (cB sgS)],.b true),
 (42,[.agg (cB sgS),elT xp1],.b true),
 (42,[.agg (cB sgS),elT xp2],.b true),
 (42,[.agg (cB sgS),elT xp3],.b true),
 (43,[elT xp1],ava (dI xp1 [])),
 (43,[elT xp2],ava (dI xp2 [])),
 (43,[elT xp3],ava (dI xp3 [])),
 (58,[.agg (cB sgS),elT xt],.b true),
 (50,[cU sgS,elT xt],.b true),
 (178,[.i .i64 0],.s [48]),
 (178,[.i .i64 1],.s [49]),
 (178,[.i .i64 2],.s [50]),
 (178,[.i .i64 6],.s [54]),
 (15,[.agg (cB sgS),.agg (aL xa),elT xt],aDq (true,0)),
 (49,[cU sgS,.agg (aL xa)],.b true),
 (49,[cU sgS,.agg (aL xa0)],.b true),
 (49,[cU sgS,.agg (aL xa1)],.b true),
 (49,[cU sgS,.agg (aL xa3)],.b true),
 (181,[.sl [ava [],ava ((dI xp1 []).drop 1)] 2],ava ((dI xp1 []).drop 1)),
 (181,[.sl [ava [],ava ((dI xp1 []).drop 2)] 2],ava ((dI xp1 []).drop 2)),
 (181,[.sl [ava [],ava []] 2],ava []),
 (179,[elT (aIb 1)],.s (gW (aIb 1)))]
theorem okt {k n:Int} {x so:Str} {ks:List LTerm} (hx:x.length≤100) (hs:so.length≤100) (hn:0≤n∧n≤100) (hk:ks.length≤100) (h:∀ t ∈ ks,OkT t):OkT (.mk k n x so ks []):=.mk (by simp only [LTerm.text]; omega) (by simp only [LTerm.sort]; omega) (by simp only [LTerm.n]; omega) (by simp only [LTerm.n]; omega) (by simp only [LTerm.kids]; omega) (by simp [LTerm.rest]) (by simpa [LTerm.kids] using h) (by simp [LTerm.rest])
theorem aKk {n:Int} (h:0≤n∧n≤100):OkT (aIb n):=okt (by decide) (by decide) h (by decide) (by simp)
theorem aKh {x so:Str} (hx:x.length≤100) (hs:so.length≤100):OkT (bCb x so):=okt hx hs (by decide) (by decide) (by simp)
theorem aCe {x:Str} {a b:LTerm} (hx:x.length≤100) (ha:OkT a) (hb:OkT b):OkT (bDe x [a,b]):=okt hx (by decide) (by decide) (by simp) (by
 intro t ht
 rcases cH.1 ht with rfl | ht
 · exact ha
 · rw [bA] at ht; exact ht ▸ hb)
theorem ok1:OkT xp1:=aCe (by decide) (aKh (by decide) (by decide)) (aKk (by decide))
theorem ok2:OkT xp2:=aCe (by decide) (aKh (by decide) (by decide)) (aKh (by decide) (by decide))
theorem ok3:OkT xp3:=aCe (by decide) (aKh (by decide) (by decide)) (aKh (by decide) (by decide))
theorem okx:OkT xt:=aCe (by decide) (aKk (by decide)) (aKk (by decide))
theorem G9:Small sgS:=⟨by decide,by decide,by decide,by decide,by decide⟩
theorem bEi:gK sgS=true:=by kernel_rfl
theorem okK (p:List Int) (te:LTest) (h:OkT te.term) (hx:te.text.length≤100) (hp:p.length≤100):OkK ⟨p,te⟩:=⟨⟨h,dN hx (by decide)⟩,dN hp (by decide)⟩
theorem oka:OkK xa:=okK _ _ (aKk (by decide)) (by decide) (by decide)
theorem bQk:OkK xa0:=okK _ _ aFq (by decide) (by decide)
theorem bQj:OkK xa1:=okK _ _ aFq (by decide) (by decide)
theorem bQi:OkK xa3:=okK _ _ aFq (by decide) (by decide)
theorem Y8:OkS sgS:=by
 have ho:∀ x ∈ sgS.ops,OkO x:=by
   intro x hx
   simp only [sgS,cH,List.not_mem_nil,or_false] at hx
   rcases hx with rfl | rfl <;> exact ⟨by decide,by decide,by decide,by decide,by decide,by decide,by decide,by decide,by decide,by decide⟩
 exact ⟨by decide,by decide,by decide,by decide,by decide,ho,by decide,by simp [sgS],by decide,by decide,by decide,by decide⟩
theorem ka1:CT 13 [.agg (cB sgS),elT xp1] (aDv (O2 sgS xp1)):=bGa sgS xp1 G9 Y8 ok1
theorem ka2:CT 48 [.agg (cB sgS)] (cU sgS):=T5 sgS G9 (iB bEi)
theorem ka3:CT 47 [.agg (cB sgS)] (.b true):=bEi ▸ aGd sgS G9 Y8
theorem ka4:CT 42 [.agg (cB sgS),elT xp1] (.b true):=(by kernel_rfl:A8 sgS xp1=true) ▸ T6 sgS xp1 G9 Y8 ok1
theorem ka5:CT 42 [.agg (cB sgS),elT xp2] (.b true):=(by kernel_rfl:A8 sgS xp2=true) ▸ T6 sgS xp2 G9 Y8 ok2
theorem ka6:CT 42 [.agg (cB sgS),elT xp3] (.b true):=(by kernel_rfl:A8 sgS xp3=true) ▸ T6 sgS xp3 G9 Y8 ok3
theorem ka7:CT 43 [elT xp1] (ava (dI xp1 [])):=F5 xp1 ok1 (by decide) (by decide)
theorem ka8:CT 43 [elT xp2] (ava (dI xp2 [])):=F5 xp2 ok2 (by decide) (by decide)
theorem ka9:CT 43 [elT xp3] (ava (dI xp3 [])):=F5 xp3 ok3 (by decide) (by decide)
theorem bRb:CT 58 [.agg (cB sgS),elT xt] (.b true):=(by kernel_rfl:(gK sgS && nK sgS xt)=true) ▸ aMl sgS xt G9 Y8 okx
theorem bRa:CT 50 [cU sgS,elT xt] (.b true):=(by kernel_rfl:nK sgS xt=true) ▸ aMs sgS xt G9 okx
theorem bQz:CT 178 [.i .i64 0] (.s [48]):=(by kernel_rfl:Lib.itoa 0=[48]) ▸ tO 0 (by decide) (by decide)
theorem bQy:CT 178 [.i .i64 1] (.s [49]):=(by kernel_rfl:Lib.itoa 1=[49]) ▸ tO 1 (by decide) (by decide)
theorem bQx:CT 178 [.i .i64 2] (.s [50]):=(by kernel_rfl:Lib.itoa 2=[50]) ▸ tO 2 (by decide) (by decide)
theorem bQw:CT 178 [.i .i64 6] (.s [54]):=(by kernel_rfl:Lib.itoa 6=[54]) ▸ tO 6 (by decide) (by decide)
theorem bQv:CT 179 [elT (aIb 1)] (.s (gW (aIb 1))):=bAv (aIb 1) (aKk (by decide)) rfl (by decide) (dN (Nat.le_of_eq (by kernel_rfl:(gW (aIb 1)).length=1)) (by decide))
theorem bQu:CT 15 [.agg (cB sgS),.agg (aL xa),elT xt] (aDq (true,0)):=(by kernel_rfl:aLg sgS xa xt=(true,0)) ▸ bFz sgS xa xt G9 Y8 oka okx
theorem bQt:CT 49 [cU sgS,.agg (aL xa)] (.b true):=(by kernel_rfl:isAskV sgS xa=true) ▸ yW sgS xa oka
theorem bQs:CT 49 [cU sgS,.agg (aL xa0)] (.b true):=(by kernel_rfl:isAskV sgS xa0=true) ▸ yW sgS xa0 bQk
theorem bQr:CT 49 [cU sgS,.agg (aL xa1)] (.b true):=(by kernel_rfl:isAskV sgS xa1=true) ▸ yW sgS xa1 bQj
theorem bQq:CT 49 [cU sgS,.agg (aL xa3)] (.b true):=(by kernel_rfl:isAskV sgS xa3=true) ▸ yW sgS xa3 bQi
theorem bQp:CT 181 [.sl [ava [],ava ((dI xp1 []).drop 1)] 2] (ava ((dI xp1 []).drop 1)):=aDf [[],(dI xp1 []).drop 1] (by decide) (by decide)
theorem bQo:CT 181 [.sl [ava [],ava ((dI xp1 []).drop 2)] 2] (ava ((dI xp1 []).drop 2)):=aDf [[],(dI xp1 []).drop 2] (by decide) (by decide)
theorem bQn:CT 181 [.sl [ava [],ava []] 2] (ava []):=aDf [[],[]] (by decide) (by decide)
theorem aKy:aOq Tryz.prog G0 (bJv aVq):=aXm fun e he=>by
 simp only [aVq,cH,List.not_mem_nil,or_false] at he
 rcases he with rfl | rfl | rfl | rfl | rfl | rfl | rfl | rfl | rfl | rfl | rfl | rfl | rfl | rfl | rfl | rfl | rfl | rfl | rfl | rfl | rfl | rfl | rfl | rfl
 all_goals dsimp only
 all_goals first | exact ka1 | exact ka2 | exact ka3 | exact ka4 | exact ka5 | exact ka6 | exact ka7 | exact ka8 | exact ka9 | exact bRb | exact bRa | exact bQz | exact bQy | exact bQx | exact bQw | exact bQv | exact bQu | exact bQt | exact bQs | exact bQr | exact bQq | exact bQp | exact bQo | exact bQn
def bKv:FuncId→How:=fun f=>if f=69 then ⟨true,true,fun i=>if i=25 then some ⟨none,[11],true,false,false,[],[101,109],0⟩ else none⟩ else if f=68 then ⟨false,true,fun i=>if i=15 then some ⟨some 2,[],true,false,false,[],[],0⟩ else none⟩ else if f=65 then ⟨true,true,fun i=>if i=6 then some ⟨none,[2],false,false,false,[69,70,71],[84,94],0⟩ else none⟩ else if f=115 then ⟨true,false,fun _=>none⟩ else {}
theorem aPu:[12,18,20,22,24,26,38,39,40,41,44,51,57,59,60,63,65,68,69,154,78,84,101,112,113,114,115,118,119,120,121,158,159,200,139,176,177,180].all (fun f=>bCi Tryz.prog (bKv f).rx (bKv f).th f)=true:=by kernel_rfl
theorem bGb:CT 12 [] (.b true):=aXv mixed g0 aKy bKv (bDy aPu) 300 (by kernel_rfl)
end Go.Proofs.YtifefbhllfdmlaaGreatDoor
namespace Go.Proofs.YtifefbhllfdmlaaGreatDoor
open Go Go.Vo
open Nat (reduceAdd reduceSub reduceMul reduceLeDiff reduceLT reduceEqDiff)
open Int (reduceNeg)

theorem bGc (s:dF) (l:List LTerm) (hs:OkS s) (hl:l.length≤1466015503701) (ho:∀ t ∈ l,OkT t): CT 10 [.agg (cB s),avt l] (.b (few s && bJd 1500 l)):=by
 refine cX mixed Tryz.func10 g0 ?_
 · simp -implicitDefEqProofs (disch:=omega) only [Tryz.f10,go_sem,List.replicate,↓reduceIte,reduceAdd,reduceSub,reduceMul,reduceLeDiff,reduceLT,reduceEqDiff,reduceNeg,Nat.reduceBEq,avt]
   have c1:=bMj s hs
   have c2:=bGu 1500 l hl ho (by decide) (by decide)
   simp only [avt] at c2
   generalize few s=A at *
   generalize bJd 1500 l=B at *
   (refine zt2 c1 c2 ?_; repeat' first | exact trivial | refine zJ ?_ ?_ | refine zH fun hc=>?_)
   all_goals exact aP (by simp_all) rfl
def bSh (a:LAsk):Nat:=1+a.path.length+a.test.text.length / 40
def bIi:List LAsk→Nat
 | []=>0
 | a::l=>bSh a+bIi l
@[simp] theorem bIh:bIi []=0:=rfl
end Go.Proofs.YtifefbhllfdmlaaGreatDoor
namespace Go.Proofs.YtifefbhllfdmlaaGreatDoor
open Go Go.Vo
open Nat (reduceAdd reduceSub reduceMul reduceLeDiff reduceLT reduceEqDiff)
open Int (reduceNeg)

end Go.Proofs.YtifefbhllfdmlaaGreatDoor
namespace Go.Proofs.YtifefbhllfdmlaaGreatDoor
open Go Go.Vo
open Nat (reduceAdd reduceSub reduceMul reduceLeDiff reduceLT reduceEqDiff)
open Int (reduceNeg)
end Go.Proofs.YtifefbhllfdmlaaGreatDoor
namespace Go.Proofs.YtifefbhllfdmlaaGreatDoor
open Go Go.Vo
open Nat (reduceAdd reduceSub reduceMul reduceLeDiff reduceLT reduceEqDiff)
open Int (reduceNeg)

theorem H0 (a:LTest):lR a a=true:=by simp [lR]
theorem qJ {t:LTerm} (h:jQ nodeB t=true):highT t≤1000∧nodesT t≤2000:=by
 simp only [jQ,aB,decide_eq_true_eq] at h
 omega
end Go.Proofs.YtifefbhllfdmlaaGreatDoor
namespace Go.Proofs.YtifefbhllfdmlaaGreatDoor
open Go Go.Vo
open Nat (reduceAdd reduceSub reduceMul reduceLeDiff reduceLT reduceEqDiff)
open Int (reduceNeg)

theorem aMi (l:List LAsk) (f:FuncId) (a b:List AV) (p:LAsk→Bool) (hl:l.length≤1000000) (ha:persL a=true) (hb:persL b=true) (hw:∀ k,k < l.length→CT f (a++[.agg (aL (l.getD k default))]++b) (.b (p (l.getD k default)))): CT 63 [ava l,.fn f a b] (.i .i64 (idx p l)):=by
 refine cX mixed Tryz.func63 g0 ?_
 · simp -implicitDefEqProofs (disch:=omega) only [Tryz.f63,go_sem,List.replicate,↓reduceIte,reduceAdd,reduceSub,reduceMul,reduceLeDiff,reduceLT,reduceEqDiff,reduceNeg,Nat.reduceBEq,ava]
   (refine zs0 ?_; repeat' first | exact trivial | refine zJ ?_ ?_ | refine zH fun hc=>?_)
   refine dD (fun (k:Nat)=>[.k,.k,.k,.k,.j,.j,.k,.k,.v (.i .i64 (k:Nat)),.j,.j,.j,.j,.j,.j,.j,.j,.j,.j]) (fun k=>[]) (fun k=>k≤l.length∧∀ j,j < k→p (l.getD j default)=false) (fun k=>l.length - k) (0) ⟨aT _,fun j h=>by omega⟩ rfl (by simp [iL]) ?_
   rintro k j ⟨hk,hn⟩
   refine zg ?_
   (refine zs0 ?_; repeat' first | exact trivial | refine zJ ?_ ?_ | refine zH fun hc=>?_)
   · refine bI (hw k (by omega)) ?_ ?_
     · exact zv (zA2 @bF.{0,0} (zA2 (fun h=>nG (h:=h) ha) (zA2 (fun h=>nG (h:=h) hb) (zA2 @aL.eq_1 @avt.eq_1))))
     · refine zg ?_
       (refine zs0 ?_; repeat' first | exact trivial | refine zJ ?_ ?_ | refine zH fun hc=>?_)
       · refine aP ?_ (by rfl)
         rw [mT (d:=default) (k:=k) (by omega) hc hn]
       · exact ⟨k+1,⟨by omega,rY hn hc⟩,by omega,by simp⟩
   · refine aP ?_ (by rfl)
     have h1:k=l.length:=by omega
     rw [mU (h1 ▸ hn)]
theorem aWc (l:List LAsk) (f:FuncId) (a b:List AV) (p:LAsk→Bool) (hl:l.length≤1000000) (ha:persL a=true) (hb:persL b=true) (hw:∀ k,k < l.length→CT f (a++[.agg (aL (l.getD k default))]++b) (.b (p (l.getD k default)))): CT 59 [ava l,.fn f a b] (.b (l.any p)):=by
 refine cX mixed Tryz.func59 g0 ?_
 · simp -implicitDefEqProofs (disch:=omega) only [Tryz.f59,go_sem,List.replicate,↓reduceIte,reduceAdd,reduceSub,reduceMul,reduceLeDiff,reduceLT,reduceEqDiff,reduceNeg,Nat.reduceBEq,ava]
   have c:=aMi l f a b p hl ha hb hw
   simp only [ava] at c
   refine bI c ?_ ?_
   · exact zv (zA2 ha hb)
   · refine zg ?_
     refine aP ?_ (by rfl)
     rw [pU]
theorem bHz (l:List LTerm) (f:FuncId) (a b:List AV) (p:LTerm→Bool) (hl:l.length≤1466015503701) (ha:persL a=true) (hb:persL b=true) (hw:∀ k,k < l.length→CT f (a++[elT (l.getD k default)]++b) (.b (p (l.getD k default)))): CT 176 [avt l,.fn f a b] (.i .i64 (idx p l)):=by
 refine aQ mixed Tryz.func176 g0 ?_
 · skip
   refine dD (fun (k:Nat)=>[.k,.k,.k,.k,.j,.j,.k,.k,.v (.i .i64 k),.j,.j,.j,.j,.j,.j,.j,.j,.j,.j]) (fun k=>[]) (fun k=>k≤l.length∧∀ j,j < k→p (l.getD j default)=false) (fun k=>l.length - k) (0) ⟨aT _,fun j h=>by omega⟩ rfl (by simp [iL]) ?_
   rintro k j ⟨hk,hn⟩
   refine zg ?_
   (refine zs0 ?_; repeat' first | exact trivial | refine zJ ?_ ?_ | refine zH fun hc=>?_)
   · refine bI (hw k (by omega)) ?_ ?_
     · exact zv (zA2 @bF.{0,0} (zA2 (fun h=>nG (h:=h) ha) (zA2 (fun h=>nG (h:=h) hb) (zA2 @elT.eq_1 @bT))))
     · refine zg ?_
       (refine zs0 ?_; repeat' first | exact trivial | refine zJ ?_ ?_ | refine zH fun hc=>?_)
       · refine aP ?_ (by rfl)
         rw [mT (d:=default) (k:=k) (by omega) hc hn]
       · exact ⟨k+1,⟨by omega,rY hn hc⟩,by omega,by simp⟩
   · refine aP ?_ (by rfl)
     have h1:k=l.length:=by omega
     rw [mU (h1 ▸ hn)]
theorem bIa (l:List LTerm) (f:FuncId) (a b:List AV) (p:LTerm→Bool) (hl:l.length≤1466015503701) (ha:persL a=true) (hb:persL b=true) (hw:∀ k,k < l.length→CT f (a++[elT (l.getD k default)]++b) (.b (p (l.getD k default)))): CT 112 [avt l,.fn f a b] (.b (l.any p)):=by
 refine aQ mixed Tryz.func112 g0 ?_
 · skip
   refine bI (bHz l f a b p hl ha hb hw) ?_ ?_
   · exact zv (zA2 ha (zA2 hb @avt.eq_1))
   · refine zg ?_
     refine aP ?_ (by rfl)
     rw [pU]
theorem bFn (s:dF) (p:LTerm) (hm:Small s) (hs:OkS s) (ht:OkT p): CT 113 [elT p,.box (cB s) 0] (.b (!A8 s p)):=by
 refine aQ mixed Tryz.func113 g0 ?_
 · skip
   have c:=T6 s p hm hs ht
   (refine zt1 c ?_; repeat' first | exact trivial | refine zJ ?_ ?_ | refine zH fun hc=>?_)
   all_goals exact aP (by simp_all) rfl
def dZ (s:dF) (l:List LTerm):Bool:=gK s && (decide (l.length≤100) && l.all (A8 s))
theorem aWd (s:dF) (l:List LTerm) (hm:Small s) (hs:OkS s) (hl:l.length≤1466015503701) (ho:∀ t ∈ l,OkT t): CT 57 [.agg (cB s),avt l] (.b (dZ s l)):=by
 refine cX mixed Tryz.func57 g0 ?_
 · simp -implicitDefEqProofs (disch:=omega) only [Tryz.f57,go_sem,List.replicate,↓reduceIte,reduceAdd,reduceSub,reduceMul,reduceLeDiff,reduceLT,reduceEqDiff,reduceNeg,Nat.reduceBEq,avt]
   have c1:=aGd s hm hs
   have c2:=bIa l 113 [] [.box (cB s) 0] (fun t => !A8 s t) hl rfl (by simp [persL,pers,aJs]) (fun k hk=>bFn s _ hm hs (ho _ (cC hk)))
   have e:(l.any fun t => !A8 s t) = !l.all (A8 s):=L6.symm
   rw [e] at c2
   rw [dZ]
   simp only [avt] at c2
   generalize gK s=A at *
   generalize l.all (A8 s)=B at *
   (refine zt2 c1 c2 ?_; repeat' first | exact trivial | refine zJ ?_ ?_ | refine zH fun hc=>?_)
   all_goals exact aP (by (simp_all) <;> (intros; omega)) rfl
structure OkP (a:LAsk):Prop where
 test:OkX a.test
 len:a.path.length≤1000
 ints:∀ i ∈ a.path,0≤i∧i≤1466015503701
theorem OkP.k {a:LAsk} (h:OkP a):OkK a:=⟨h.test,by have:=h.len; omega⟩
theorem O1 : ∀ (t:LTerm),OkT t→∀ p:List Int,p.length+highT t≤1000→(∀ i ∈ p,0≤i∧i≤1466015503701)→∀ a ∈ dI t p,OkP a:=
 fR (Q := fun t=>OkT t→∀ p:List Int,p.length+highT t≤1000→(∀ i ∈ p,0≤i∧i≤1466015503701)→∀ a ∈ dI t p,OkP a) fun t hk _ ht p hp hi=>by
   have e:=wR t
   have hkk:=ht.kids
   have L:∀ (l:List LTerm) (i:Nat),(∀ k ∈ l,k ∈ t.kids)→i+l.length≤t.kids.length→p.length+1+highL l≤1000→∀ a ∈ testsL l p i,OkP a:=by
     intro l
     induction l with
     | nil=>intro i _ _ _ a ha; simp [testsL] at ha
     | cons x l ih=>
       intro i hm hil hh a ha
       rw [highL] at hh
       rw [aD] at hil
       rw [testsL,bN] at ha
       rcases ha with ha | ha
       · refine hk x (hm x (by simp)) (ht.kid x (hm x (by simp))) (p++[(i:Int)]) (by simp only [aG,aD,aY]; omega) ?_ a ha
         intro j hj
         rcases bN.1 hj with hj | hj
         · exact hi j hj
         · rw [bA] at hj; omega
       · exact ih (i+1) (fun k hk=>hm k (by simp [hk])) (by omega) (by omega) a ha
   have z:∀ (te:LTest),OkX te→OkP ⟨p,te⟩:=fun te h=>⟨h,by show p.length≤1000; omega,hi⟩
   have zz:∀ {op n:Int} {x:Str},x.length≤140737488355328→OkX ⟨op,zT,x,n⟩:=fun h=>⟨aFq,h⟩
   intro a ha
   rw [jR] at ha
   split at ha
   · rcases cH.1 ha with rfl | ha
     · exact z _ (zz ht.text)
     · exact L t.kids 0 (fun k hk=>hk) (by omega) (by omega) a ha
   · split at ha
     · rcases cH.1 ha with rfl | ha
       · exact z _ (zz (by simp))
       · exact L t.kids 0 (fun k hk=>hk) (by omega) (by omega) a ha
     · split at ha
       · rw [bA] at ha; subst ha; exact z _ (zz (by simp))
       · split at ha
         · split at ha
           · cases ha
           · rw [bA] at ha; subst ha; exact z _ (zz ht.sort)
         · rw [bA] at ha; subst ha; exact z _ ⟨ht,by simp⟩
def aKj (s:dF) (t p:LTerm):Bool:=(dI p []).all fun a=>fV s a t
def fC (s:dF) (t:LTerm):List LTerm→Nat→List Int
 | [],_=>[]
 | p::l,i=>(if aKj s t p=true then [(i:Int)] else [])++fC s t l (i+1)
theorem F7 {s:dF} {t:LTerm}:∀ {l:List LTerm} {i k:Nat},k < l.length→fC s t (l.take (k+1)) i=fC s t (l.take k) i++(if aKj s t (l.getD k default)=true then [((i+k:Nat):Int)] else [])
 | p::l,i,0,_=>by simp [fC]
 | p::l,i,k+1,h=>by
   rw [gU,fC,gU,fC,F7 (k:=k) (by simpa using h),bW,show i+1+k=i+(k+1) by omega]; simp
 | [],_,_,h=>by simp at h
theorem tU {s:dF} {t:LTerm}:∀ {l:List LTerm} {i:Nat},(fC s t l i).length≤l.length
 | [],i=>by simp [fC]
 | p::l,i=>by
   have:=tU (l:=l) (i:=i+1) (s:=s) (t:=t)
   rw [fC,aG,aD]
   split <;> simp <;> omega
def tT (s:dF) (l:List LTerm) (t:LTerm):List Int × Int:=if (dZ s l && (gK s && nK s t))=true then (fC s t l 0,0) else ([],2)
def aDo (r:List Int × Int):AV:=.tup [.sl (ints r.1) r.1.length,.i .i64 r.2]
theorem bFv (s:dF) (a:LAsk) (t:LTerm) (hs:Small s) (ha:OkK a) (ht:OkT t): CT 60 [.agg (aL a),.box [cU s] 0,.box (aE t) 0] (.b (!fV s a t)):=by
 refine cX mixed Tryz.func60 g0 ?_
 · simp -implicitDefEqProofs (disch:=omega) only [Tryz.f60,go_sem,List.replicate,↓reduceIte,reduceAdd,reduceSub,reduceMul,reduceLeDiff,reduceLT,reduceEqDiff,reduceNeg,Nat.reduceBEq,aL,avt,bT]
   have c:=aDi s a t hs ha.test ha.path ht
   simp only [aL,avt] at c
   (refine zt1 c ?_; repeat' first | exact trivial | refine zJ ?_ ?_ | refine zH fun hc=>?_)
   all_goals exact aP rfl rfl
end Go.Proofs.YtifefbhllfdmlaaGreatDoor

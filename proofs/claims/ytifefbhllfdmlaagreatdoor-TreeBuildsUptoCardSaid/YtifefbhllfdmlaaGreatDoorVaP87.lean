/-
  What functions of the chapter return, as plain functions of what they are given; no condition beyond those that each theorem names.
-/
import Derived.Test.YtifefbhllfdmlaaGreatDoorVaP81
import Derived.Test.YtifefbhllfdmlaaGreatDoorSoP83
import Derived.Test.YtifefbhllfdmlaaGreatDoorSoP82
import Derived.Test.YtifefbhllfdmlaaGreatDoorVoP89
import Derived.Test.YtifefbhllfdmlaaGreatDoorTeP83
import Derived.Test.YtifefbhllfdmlaaGreatDoorTeP84
import Derived.Test.YtifefbhllfdmlaaGreatDoorVaP86
import Derived.Test.YtifefbhllfdmlaaGreatDoorTeP85
import Derived.Test.YtifefbhllfdmlaaGreatDoorVaP85
set_option maxRecDepth 100000
set_option linter.unusedSimpArgs false
set_option linter.unusedVariables false
set_option maxHeartbeats 4000000
namespace Go.Proofs.YtifefbhllfdmlaaGreatDoor
open Go Go.Vo Go.Shelf Go.RowKit
open Nat (reduceAdd reduceSub reduceMul reduceLeDiff reduceLT reduceEqDiff)
open Int (reduceNeg)

abbrev TW:TypeId:=235
abbrev TB:TypeId:=5
set_option maxHeartbeats 1000000 in
theorem bWp (b:Nat) (p v:Value) (w:World) (hb:w.heap[b]? = some (.cells #[p,v] TW (0,0))) (hp:p=.pointer none∨p=selfP b) :
   Calls Tryz.prog 266 #[selfP b] w fun e w'=>e=.returned (.tuple #[])∧w'.heap[b]? = some (.cells #[selfP b,v] TW (0,0))∧w.grownBy w' (some b)∧w'.heap.size=w.heap.size∧Shp w w':=by
 have h0:w.cell? ⟨b,0,none⟩=some p:=by rw [Lib.cell_of_heap hb]; rfl
 have hsz:(Tryz.prog.info? 233).map (·.size)=some 2:=by kernel_rfl
 obtain ⟨j,hj,hjs⟩:=bI.1 hsz
 have mixed:=mixed
 have t72:=Tryz.underlying233; have a72:=Tryz.isAgg233; have z72:=Tryz.sizeOf233; have v72:=Tryz.zeroValue233; have u72:=run_underlying t72
 have t70:=Tryz.underlying230; have a70:=Tryz.isAgg230; have z70:=Tryz.sizeOf230; have v70:=Tryz.zeroValue230; have u70:=run_underlying t70
 have t4:=Tryz.underlying4; have a4:=Tryz.isAgg4; have z4:=Tryz.sizeOf4; have v4:=Tryz.zeroValue4; have u4:=run_underlying t4
 have t164:=Tryz.underlying300; have a164:=Tryz.isAgg300; have z164:=Tryz.sizeOf300; have v164:=Tryz.zeroValue300; have u164:=run_underlying t164
 unfold selfP at *
 rcases hp with rfl | rfl
 · have hsh:w.shape? b=some (TW,2):=by simp [World.shape?,hb]
   have hfz:w.frozen? ⟨b,0,none⟩=false:=Lib.frozen_of_heap hb 0
   have hl:liesAt Tryz.prog Tryz.prog.depth TW (2 / Tryz.prog.cellsOf TW) 0 233 1=true:=by kernel_rfl
   have main:Calls Tryz.prog 266 #[.pointer (some ⟨b,0,none⟩)] w fun e w'=>e=.returned (.tuple #[])∧w'=w.setCell ⟨b,0,none⟩ (.pointer (some ⟨b,0,none⟩)):=by
     go_enter Tryz.func266,Tryz.ntmps266
     go_wp2
     rw [Lib.run_to_unsafe w ⟨b,0,none⟩ t70 t164 hj (by rw [hjs]; decide) hsh (Nat.zero_lt_succ 1)]
     simp only [Result.andThen]
     rw [Oper.upon_value]
     go_wp2
     rw [run_callFunc_extern Tryz.func276 (by kernel_rfl) (by kernel_rfl) (by kernel_rfl) (e:=Extern.AbiNoEscape.same) (by kernel_rfl)]
     rw [Lib.run_noEscape]
     simp only [Result.andThen]
     rw [Oper.upon_value]
     go_wp2
     rw [Lib.run_from_unsafe w ⟨b,0,none⟩ t164 t70 hj hsh hl]
     simp only [Result.andThen]
     rw [Oper.upon_value]
     go_wp2
     go_end0
     exact ⟨rfl,rfl⟩
   refine main.mono ?_
   rintro e w' ⟨rfl,rfl⟩
   refine ⟨rfl,?_,⟨rfl,rfl,rfl,by simp [World.setCell],fun k hk hne=>?_⟩,by simp [World.setCell],C1 _ _ _⟩
   · simp [World.setCell,jS,hb]
   · exact Below.heap_setCell _ _ _ _ (fun e=>hne (by simp [e]))
 · have main:Calls Tryz.prog 266 #[.pointer (some ⟨b,0,none⟩)] w fun e w'=>e=.returned (.tuple #[])∧w'=w:=by
     go_enter Tryz.func266,Tryz.ntmps266
     go_wp2
     rw [Lib.run_neq_ptr_same w _ t70 hj]
     go_wp2
     go_end0
     exact ⟨rfl,rfl⟩
   refine main.mono ?_
   rintro e w' ⟨rfl,rfl⟩
   exact ⟨rfl,hb,⟨rfl,rfl,rfl,aZ _,fun _ _ _=>rfl⟩,rfl,Shp.refl _⟩
def bXg:Ren:=⟨fun | 166=>245 | 240=>266 | 169=>220 | n=>n,fun | 72=>233 | 70=>230 | 37=>231 | 127=>264 | 164=>300 | 75=>259 | n=>n,fun n=>n⟩
theorem bZf:bXd Tryz.prog bXg TW:={
 mixed:=mixed
 f166:=Tryz.func245.trans (congrArg some (by kernel_rfl))
 e240:=enters_of Tryz.func266 (by kernel_rfl) rfl
 copy:=bWp
 t3:=Tryz.underlying3
 a3:=Tryz.isAgg3
 z3:=Tryz.sizeOf3
 v3:=Tryz.zeroValue3
 t4:=Tryz.underlying4
 a4:=Tryz.isAgg4
 z4:=Tryz.sizeOf4
 v4:=Tryz.zeroValue4
 t9:=Tryz.underlying9
 a9:=Tryz.isAgg9
 z9:=Tryz.sizeOf9
 v9:=Tryz.zeroValue9
 t37:=Tryz.underlying231
 a37:=Tryz.isAgg231
 z37:=Tryz.sizeOf231
 v37:=Tryz.zeroValue231
 t70:=Tryz.underlying230
 a70:=Tryz.isAgg230
 z70:=Tryz.sizeOf230
 v70:=Tryz.zeroValue230
 t72:=Tryz.underlying233
 a72:=Tryz.isAgg233
 z72:=Tryz.sizeOf233
 v72:=Tryz.zeroValue233 }
theorem bSf:Builder.Extra Tryz.prog bXg:={
 sizeBuilder:=by kernel_rfl
 liesBuilder:=by kernel_rfl
 t5:=Tryz.underlying5
 a5:=Tryz.isAgg5
 z5:=Tryz.sizeOf5
 v5:=Tryz.zeroValue5
 infoByte:=by kernel_rfl
 cellsByte:=by kernel_rfl
 sizeByte:=by kernel_rfl
 neB5:=by decide }
abbrev WrP (f:FuncId) (A:List AV) (r:AV) (acc acc':Str):Prop:=Wr Tryz.prog G0 TW TB f A r acc acc'
theorem wrS {acc s:Str} (h:acc.length+s.length≤140737488355328):WrP 245 [.ptr 0 0,.s s] (.tup [.i .i64 s.length,.p .nilIface]) acc (acc++s):=fun v=>
 (aCr bZf bSf (by decide) (by kernel_rfl) h).mono fun r h' ⟨h1,v',h2⟩=>⟨h1,v',[],h2⟩
theorem bXi {acc:Str} {v:Value}:ACalls Tryz.prog G0 220 [.ptr 0 0] [qW TW v,tA TB v acc] (fun r h'=>r=.s acc∧h'=[.dead,.dead]):=
 V5 (T:=TW) (ρ:=Tryz.lays169_ren) Tryz.lays169 Tryz.Builder_Extra_169 (by decide) (by kernel_rfl)
end Go.Proofs.YtifefbhllfdmlaaGreatDoor
namespace Go.Proofs.YtifefbhllfdmlaaGreatDoor
open Go Go.Vo
open Nat (reduceAdd reduceSub reduceMul reduceLeDiff reduceLT reduceEqDiff)
open Int (reduceNeg)

abbrev WrK (l':Str):AV→List AObj→Prop:=fun r h'=>r=.tup []∧∃ v' tl,h'=qW TW v'::tA TB v' l'::tl
theorem aGc {v:Value} {l l':Str} {tl:List AObj} (e:l=l'):WrK l' (.tup []) (qW TW v::tA TB v l::tl):=⟨rfl,v,tl,by rw [e]⟩
abbrev WrT (t:LTerm):Prop:=∀ acc:Str,acc.length+(hJ t).length≤140737488355328→WrP 219 [.ptr 0 0,elT t] (.tup []) acc (acc++hJ t)
theorem aNn (t:LTerm) (acc:Str) (v:Value) (ht:OkT t) (hk:t.kind=1) (hn:nF t.n=true) (hf:acc.length+(hJ t).length≤140737488355328): ACalls Tryz.prog G0 219 [.ptr 0 0,elT t] [qW TW v,tA TB v acc] (WrK (acc++hJ t)):=by
 refine dF (rx:=false) (th:=fun _=>some ⟨none,[],false,false,true,[],[]⟩) mixed Tryz.func219 ?_
 · simp -implicitDefEqProofs (disch:=omega) only [Tryz.f219,go_sem,List.replicate,↓reduceIte,reduceAdd,reduceSub,reduceMul,reduceLeDiff,reduceLT,reduceEqDiff,reduceNeg,Nat.reduceBEq]
   have e:=pV t
   have hl:=congrArg List.length e
   rw [if_pos hk] at e hl
   have hi : -2147483647≤t.n∧t.n≤2147483647:=by simpa only [nF,aA,decide_eq_true_eq] using hn
   have w1:=wrS (acc:=acc) (s:=Lib.itoa t.n) (by omega)
   refine zh (zt hk) ?_
   (repeat' (first | refine gT ?_ ?_ | refine gF ?_ ?_ | refine gC ?_ ?_ | ((refine bF (wJ t.n (by omega) (by omega)) ?_ ?_; (focus (simp -implicitDefEqProofs (disch:=omega) only [zt hk,zdB,go_sem,↓reduceIte,reduceAdd,reduceSub,reduceMul,reduceLeDiff,reduceLT,reduceEqDiff,reduceNeg,Nat.reduceBEq]; done))); simp -implicitDefEqProofs (disch:=omega) only [zt hk,go_sem,↓reduceIte,reduceAdd,reduceSub,reduceMul,reduceLeDiff,reduceLT,reduceEqDiff,reduceNeg,Nat.reduceBEq]) | (refine aMm 0 1 g0 (w1) rfl (by decide) rfl rfl (by first | rfl | (simp only [renL,ren,elT,bC,avt,renL_pers _ _ iH,aZe]; done)) ?_; intro v9 g9; simp -implicitDefEqProofs (disch:=omega) only [zt hk,go_sem,↓reduceIte,reduceAdd,reduceSub,reduceMul,reduceLeDiff,reduceLT,reduceEqDiff,reduceNeg,Nat.reduceBEq]) | refine bB (by omega) ?_ | (intro hr; have hc:=hr; (try simp only [zdz] at hc); simp -implicitDefEqProofs (disch:=omega) only [hr,zt hk,go_sem,↓reduceIte,reduceAdd,reduceSub,reduceMul,reduceLeDiff,reduceLT,reduceEqDiff,reduceNeg,Nat.reduceBEq]; (try clear hr))))
   all_goals exact aGc (by rw [e])
theorem bKz (t:LTerm) (ht:OkT t) (hk:t.kind=1) (hn:nF t.n=true):WrT t:=fun acc hf v=>aNn t acc v ht hk hn hf
theorem bNg {N:Nat}:emb [1,2] N 0=1:=rfl
theorem bJa (t:LTerm) (ht:OkT t) (hk:t.kind=1) (hn:nF t.n=true) (hl:(hJ t).length≤140737488355328):CT 179 [elT t] (.s (hJ t)):=by
 have hz0:(Tryz.prog.info? TW).map (fun i=>i.zero.map (·.cells))=some (some #[.pointer Option.none,W7]):=by kernel_rfl
 obtain ⟨i,hi,hz1⟩:=bI.1 hz0
 obtain ⟨z,hz,hc⟩:=bI.1 hz1
 refine aOv Tryz.func179 rfl (by kernel_rfl) g0 ?_
 refine aJm ?_
 refine rD (rx:=false) (th:=fun _=>none) mixed _ (ac:=?_) (by kernel_rfl) ?_ _ _ _ ?_
 rotate_left
 · simp only [strip,rP,aKy,RX.off,ckF,ckX,zOf,exd,vOf,cG,kN,eJ,jV,sC,cV,iX,cH,bR,iN,anyPre,Region.binds,Bool.not_true,Bool.not_false,aM,if_true,if_false,gL,fX,Bool.true_and,Bool.false_and,bN,aT,eD,eS,List.append_nil]
   rfl
 · simp -implicitDefEqProofs (disch:=omega) only [Tryz.f179,go_sem,List.replicate,↓reduceIte,reduceAdd,reduceSub,reduceMul,reduceLeDiff,reduceLT,reduceEqDiff,reduceNeg,Nat.reduceBEq]
   refine aJm (bEh TB rfl rfl hi hz hc ?_)
   refine rD (rx:=false) (th:=fun _=>none) mixed _ (ac:=?_) (by kernel_rfl) ?_ _ _ _ ?_
   rotate_left
   · simp only [strip,rP,aKy,RX.off,ckF,ckX,zOf,exd,vOf,cG,kN,eJ,jV,sC,cV,iX,cH,bR,iN,anyPre,Region.binds,Bool.not_true,Bool.not_false,aM,if_true,if_false,gL,fX,Bool.true_and,Bool.false_and,bN,aT,eD,eS,List.append_nil]
     rfl
   · refine zg ?_
     refine aMm 1 2 g0 (bKz t ht hk hn [] (by simpa using hl)) rfl (by decide) rfl rfl (by simp only [renL,ren,elT,bC,avt,renL_pers _ _ iH,bNg]) ?_
     intro v9 g9
     refine zg ?_
     refine bEf 1 2 g0 bXi (by decide) rfl rfl rfl ?_
     refine zg ?_
     exact aF rfl rfl
end Go.Proofs.YtifefbhllfdmlaaGreatDoor
namespace Go.Proofs.YtifefbhllfdmlaaGreatDoor
open Go Go.Vo
open Nat (reduceAdd reduceSub reduceMul reduceLeDiff reduceLT reduceEqDiff)
open Int (reduceNeg)

def bSx:Str:=[69,120,112]
def bTp:Str:=[73,110,116]
def aNl:Str:=[112,108,117,115]
def aNm:Str:=[109,105,110,117,115]
def sgS:bZ:=⟨[bSx],[(bTp,bSx)],[⟨aNl,[aJu,aJu],bSx,[],0,0,[]⟩,⟨aNm,[aJu,aJu],bSx,[],0,0,[]⟩],[],[]⟩
def aOa (n:Int):LTerm:=.mk 1 n [] [] [] []
def bKk (x so:Str):LTerm:=.mk 6 0 x so [] []
def bLk (x:Str) (l:List LTerm):LTerm:=.mk 5 0 x [] l []
def xp1:LTerm:=bLk aNl [bKk [88] bTp,aOa 1]
def xp2:LTerm:=bLk aNl [bKk [88] aJu,bKk [89] aJu]
def xp3:LTerm:=bLk aNm [bKk [88] aJu,bKk [89] aJu]
def xt:LTerm:=bLk aNl [aOa 2,aOa 1]
def xa:LAsk:=⟨[1],⟨1,aOa 1,[],0⟩⟩
def xa0:LAsk:=⟨[],⟨2,zT,aNl,2⟩⟩
def xa1:LAsk:=⟨[0],⟨6,zT,bTp,0⟩⟩
def xa3:LAsk:=⟨[],⟨2,zT,aNm,2⟩⟩
def bCs:List (FuncId × List AV × AV):=[
 (13,[.agg (aO sgS),elT xp1],I3 (tM sgS xp1)),
 (48,[.agg (aO sgS)],cX sgS),
 (47,[.agg (aO sgS)],.b true),
 (42,[.agg (aO sgS),elT xp1],.b true),
 (42,[.agg (aO sgS),elT xp2],.b true),
 (42,[.agg (aO sgS),elT xp3],.b true),
 (43,[elT xp1],ava (cK xp1 [])),
 (43,[elT xp2],ava (cK xp2 [])),
 (43,[elT xp3],ava (cK xp3 [])),
 (58,[.agg (aO sgS),elT xt],.b true),
 (50,[cX sgS,elT xt],.b true),
 (178,[.i .i64 0],.s [48]),
 (178,[.i .i64 1],.s [49]),
 (178,[.i .i64 2],.s [50]),
 (178,[.i .i64 6],.s [54]),
 (15,[.agg (aO sgS),.agg (aJ xa),elT xt],aJj (true,0)),
 (49,[cX sgS,.agg (aJ xa)],.b true),
 (49,[cX sgS,.agg (aJ xa0)],.b true),
 (49,[cX sgS,.agg (aJ xa1)],.b true),
 (49,[cX sgS,.agg (aJ xa3)],.b true),
 (181,[.sl [ava [],ava ((cK xp1 []).drop 1)] 2],ava ((cK xp1 []).drop 1)),
 (181,[.sl [ava [],ava ((cK xp1 []).drop 2)] 2],ava ((cK xp1 []).drop 2)),
 (181,[.sl [ava [],ava []] 2],ava []),
 (179,[elT (aOa 1)],.s (hJ (aOa 1)))]
theorem okt {k n:Int} {x so:Str} {ks:List LTerm} (hx:x.length≤100) (hs:so.length≤100) (hn:0≤n∧n≤100) (hk:ks.length≤100) (h:∀ t ∈ ks,OkT t):OkT (.mk k n x so ks []):=.mk (by simp only [LTerm.text]; omega) (by simp only [LTerm.sort]; omega) (by simp only [LTerm.n]; omega) (by simp only [LTerm.n]; omega) (by simp only [LTerm.kids]; omega) (by simp [LTerm.rest]) (by simpa [LTerm.kids] using h) (by simp [LTerm.rest])
theorem aQh {n:Int} (h:0≤n∧n≤100):OkT (aOa n):=okt (by decide) (by decide) h (by decide) (by simp)
theorem aQf {x so:Str} (hx:x.length≤100) (hs:so.length≤100):OkT (bKk x so):=okt hx hs (by decide) (by decide) (by simp)
theorem aHk {x:Str} {a b:LTerm} (hx:x.length≤100) (ha:OkT a) (hb:OkT b):OkT (bLk x [a,b]):=okt hx (by decide) (by decide) (by simp) (by
 intro t ht
 rcases bT.1 ht with rfl | ht
 · exact ha
 · rw [aS] at ht; exact ht ▸ hb)
theorem ok1:OkT xp1:=aHk (by decide) (aQf (by decide) (by decide)) (aQh (by decide))
theorem ok2:OkT xp2:=aHk (by decide) (aQf (by decide) (by decide)) (aQf (by decide) (by decide))
theorem ok3:OkT xp3:=aHk (by decide) (aQf (by decide) (by decide)) (aQf (by decide) (by decide))
theorem okx:OkT xt:=aHk (by decide) (aQh (by decide)) (aQh (by decide))
theorem Q2:Small sgS:=⟨by decide,by decide,by decide,by decide,by decide⟩
theorem bMu:dM sgS=true:=by kernel_rfl
theorem okK (p:List Int) (te:LTest) (h:OkT te.term) (hx:te.text.length≤100) (hp:p.length≤100):OkK ⟨p,te⟩:=⟨⟨h,dI hx (by decide)⟩,dI hp (by decide)⟩
theorem oka:OkK xa:=okK _ _ (aQh (by decide)) (by decide) (by decide)
theorem cAo:OkK xa0:=okK _ _ aEe (by decide) (by decide)
theorem cAn:OkK xa1:=okK _ _ aEe (by decide) (by decide)
theorem cAm:OkK xa3:=okK _ _ aEe (by decide) (by decide)
theorem aEd:OkS sgS:=by
 have ho:∀ x ∈ sgS.ops,OkO x:=by
   intro x hx
   simp only [sgS,bT,List.not_mem_nil,or_false] at hx
   rcases hx with rfl | rfl <;> exact ⟨by decide,by decide,by decide,by decide,by decide,by decide,by decide,by decide,by decide,by decide⟩
 exact ⟨by decide,by decide,by decide,by decide,by decide,ho,by decide,by simp [sgS],by decide,by decide,by decide,by decide⟩
theorem ka1:CT 13 [.agg (aO sgS),elT xp1] (I3 (tM sgS xp1)):=bPk sgS xp1 Q2 aEd ok1
theorem ka2:CT 48 [.agg (aO sgS)] (cX sgS):=aBz sgS Q2 (iE bMu)
theorem ka3:CT 47 [.agg (aO sgS)] (.b true):=bMu ▸ aMg sgS Q2 aEd
theorem ka4:CT 42 [.agg (aO sgS),elT xp1] (.b true):=(by kernel_rfl:xD sgS xp1=true) ▸ aCa sgS xp1 Q2 aEd ok1
theorem ka5:CT 42 [.agg (aO sgS),elT xp2] (.b true):=(by kernel_rfl:xD sgS xp2=true) ▸ aCa sgS xp2 Q2 aEd ok2
theorem ka6:CT 42 [.agg (aO sgS),elT xp3] (.b true):=(by kernel_rfl:xD sgS xp3=true) ▸ aCa sgS xp3 Q2 aEd ok3
theorem ka7:CT 43 [elT xp1] (ava (cK xp1 [])):=O9 xp1 ok1 (by decide) (by decide)
theorem ka8:CT 43 [elT xp2] (ava (cK xp2 [])):=O9 xp2 ok2 (by decide) (by decide)
theorem ka9:CT 43 [elT xp3] (ava (cK xp3 [])):=O9 xp3 ok3 (by decide) (by decide)
theorem cBf:CT 58 [.agg (aO sgS),elT xt] (.b true):=(by kernel_rfl:(dM sgS && lH sgS xt)=true) ▸ aSt sgS xt Q2 aEd okx
theorem cBe:CT 50 [cX sgS,elT xt] (.b true):=(by kernel_rfl:lH sgS xt=true) ▸ aTc sgS xt Q2 okx
theorem cBd:CT 178 [.i .i64 0] (.s [48]):=(by kernel_rfl:Lib.itoa 0=[48]) ▸ wJ 0 (by decide) (by decide)
theorem cBc:CT 178 [.i .i64 1] (.s [49]):=(by kernel_rfl:Lib.itoa 1=[49]) ▸ wJ 1 (by decide) (by decide)
theorem cBb:CT 178 [.i .i64 2] (.s [50]):=(by kernel_rfl:Lib.itoa 2=[50]) ▸ wJ 2 (by decide) (by decide)
theorem cBa:CT 178 [.i .i64 6] (.s [54]):=(by kernel_rfl:Lib.itoa 6=[54]) ▸ wJ 6 (by decide) (by decide)
theorem cAz:CT 179 [elT (aOa 1)] (.s (hJ (aOa 1))):=bJa (aOa 1) (aQh (by decide)) rfl (by decide) (dI (Nat.le_of_eq (by kernel_rfl:(hJ (aOa 1)).length=1)) (by decide))
theorem cAy:CT 15 [.agg (aO sgS),.agg (aJ xa),elT xt] (aJj (true,0)):=(by kernel_rfl:aRg sgS xa xt=(true,0)) ▸ bPi sgS xa xt Q2 aEd oka okx
theorem cAx:CT 49 [cX sgS,.agg (aJ xa)] (.b true):=(by kernel_rfl:isAskV sgS xa=true) ▸ G2 sgS xa oka
theorem cAw:CT 49 [cX sgS,.agg (aJ xa0)] (.b true):=(by kernel_rfl:isAskV sgS xa0=true) ▸ G2 sgS xa0 cAo
theorem cAv:CT 49 [cX sgS,.agg (aJ xa1)] (.b true):=(by kernel_rfl:isAskV sgS xa1=true) ▸ G2 sgS xa1 cAn
theorem cAu:CT 49 [cX sgS,.agg (aJ xa3)] (.b true):=(by kernel_rfl:isAskV sgS xa3=true) ▸ G2 sgS xa3 cAm
theorem cAt:CT 181 [.sl [ava [],ava ((cK xp1 []).drop 1)] 2] (ava ((cK xp1 []).drop 1)):=aIs [[],(cK xp1 []).drop 1] (by decide) (by decide)
theorem cAs:CT 181 [.sl [ava [],ava ((cK xp1 []).drop 2)] 2] (ava ((cK xp1 []).drop 2)):=aIs [[],(cK xp1 []).drop 2] (by decide) (by decide)
theorem cAr:CT 181 [.sl [ava [],ava []] 2] (ava []):=aIs [[],[]] (by decide) (by decide)
theorem aQu:aVb Tryz.prog G0 (bTv bCs):=bFi fun e he=>by
 simp only [bCs,bT,List.not_mem_nil,or_false] at he
 rcases he with rfl | rfl | rfl | rfl | rfl | rfl | rfl | rfl | rfl | rfl | rfl | rfl | rfl | rfl | rfl | rfl | rfl | rfl | rfl | rfl | rfl | rfl | rfl | rfl
 all_goals dsimp only
 all_goals first | exact ka1 | exact ka2 | exact ka3 | exact ka4 | exact ka5 | exact ka6 | exact ka7 | exact ka8 | exact ka9 | exact cBf | exact cBe | exact cBd | exact cBc | exact cBb | exact cBa | exact cAz | exact cAy | exact cAx | exact cAw | exact cAv | exact cAu | exact cAt | exact cAs | exact cAr
def bUr:FuncId→How:=fun f=>if f=69 then ⟨true,true,fun i=>if i=25 then some ⟨none,[11],true,false,false,[],[101,109]⟩ else none⟩ else if f=68 then ⟨false,true,fun i=>if i=15 then some ⟨some 2,[],true,false,false,[],[]⟩ else none⟩ else if f=65 then ⟨true,true,fun i=>if i=6 then some ⟨none,[2],false,false,false,[69,70,71],[84,94]⟩ else none⟩ else if f=115 then ⟨true,false,fun _=>none⟩ else {}
theorem aWh:[12,18,20,22,24,26,38,39,40,41,44,51,57,59,60,63,65,68,69,154,78,84,101,112,113,114,115,118,119,120,121,158,159,200,139,176,177,180].all (fun f=>bKq Tryz.prog (bUr f).rx (bUr f).th f)=true:=by kernel_rfl
theorem bPl:CT 12 [] (.b true):=bFs mixed g0 aQu bUr (bMi aWh) 300 (by kernel_rfl)
end Go.Proofs.YtifefbhllfdmlaaGreatDoor
namespace Go.Proofs.YtifefbhllfdmlaaGreatDoor
open Go Go.Vo
open Nat (reduceAdd reduceSub reduceMul reduceLeDiff reduceLT reduceEqDiff)
open Int (reduceNeg)

theorem bPm (s:bZ) (l:List LTerm) (hs:OkS s) (hl:l.length≤1466015503701) (ho:∀ t ∈ l,OkT t): CT 10 [.agg (aO s),avt l] (.b (few s && bTf 1500 l)):=by
 refine bQ mixed Tryz.func10 g0 ?_
 · simp -implicitDefEqProofs (disch:=omega) only [Tryz.f10,go_sem,List.replicate,↓reduceIte,reduceAdd,reduceSub,reduceMul,reduceLeDiff,reduceLT,reduceEqDiff,reduceNeg,Nat.reduceBEq,avt]
   have c1:=bWo s hs
   have c2:=bQp 1500 l hl ho (by decide) (by decide)
   simp only [avt] at c2
   generalize few s=A at *
   generalize bTf 1500 l=B at *
   (refine zt2 c1 c2 ?_; repeat' first | exact trivial | refine zJ ?_ ?_ | refine zH fun hc=>?_)
   all_goals exact aF (by simp_all) rfl
def askN (a:LAsk):Nat:=1+a.path.length+a.test.text.length / 40
def asksN:List LAsk→Nat
 | []=>0
 | a::l=>askN a+asksN l
@[simp] theorem bSi:asksN []=0:=rfl
end Go.Proofs.YtifefbhllfdmlaaGreatDoor
namespace Go.Proofs.YtifefbhllfdmlaaGreatDoor
open Go Go.Vo
open Nat (reduceAdd reduceSub reduceMul reduceLeDiff reduceLT reduceEqDiff)
open Int (reduceNeg)

def aHe (s:bZ) (t:LTerm):Bool:=decide ((argsR2 s t.text).1.length=t.kids.length) && L0 t.kids.length (fun i=>qZ s (ofR s (t.kids.getD i default)).1 ((argsR2 s t.text).1.getD i []) || qZ s ((argsR2 s t.text).1.getD i []) (ofR s (t.kids.getD i default)).1)
mutual
def uG (s:bZ):LTerm→Bool
 | .mk k n x so ks rs=>(ofR s (.mk k n x so ks rs)).2 && (fitsRL s ks && (if k=5 then aHe s (.mk k n x so ks rs) else true))
def fitsRL (s:bZ):List LTerm→Bool
 | []=>true
 | k::l=>uG s k && fitsRL s l
end
theorem aBr {s:bZ}:∀ l,fitsRL s l=l.all (uG s)
 | []=>rfl
 | k::l=>by rw [fitsRL,aBr l]; rfl
theorem S6 (s:bZ) (t:LTerm):uG s t=((ofR s t).2 && (t.kids.all (uG s) && (if t.kind=5 then aHe s t else true))):=by
 cases t; rw [uG,aBr]; rfl
theorem aZr (s:bZ) (t:LTerm) (hm:Small s) (hs:OkS s) (ht:OkT t) (ih:∀ k ∈ t.kids,CT 190 [.agg (aO s),elT k] (.b (uG s k))): CT 190 [.agg (aO s),elT t] (.b (uG s t)):=by
 refine aL mixed Tryz.func190 g0 ?_
 · skip
   have e:=S6 s t
   have hk1:=ht.kids
   have c0:=aJb s t hs
   have c1:=bDy s t.text hs
   obtain ⟨⟨l,so,ok⟩,hq⟩:∃ p,argsR2 s t.text=p:=⟨_,rfl⟩
   obtain ⟨⟨sx,ok0⟩,ho⟩:∃ p,ofR s t=p:=⟨_,rfl⟩
   simp only [aHe,hq,ho] at e
   rw [hq] at c1
   rw [ho] at c0
   cases ok0 with
   | false=>
     (refine zt1 c0 ?_; repeat' first | exact trivial | refine zJ ?_ ?_ | refine zH fun hc=>?_)
     all_goals exact aF (by rw [e,Bool.false_and]) rfl
   | true=>
   rw [Bool.true_and] at e
   (refine zt1 c0 ?_; repeat' first | exact trivial | refine zJ ?_ ?_ | refine zH fun hc=>?_)
   refine eE (fun (k:Nat)=>[.k,.k,.k,.k,.j,.k,.k,.k,.j,.k,.k,.k,.k,.k,.k,.k,.k,.k,.k,.k,.k,.k,.k,.k,.k,.k,.k,.v (.i .i64 (k:Nat)),.j,.j,.j,.j,.j,.j,.j,.j,.k,.k,.k,.k,.k,.k,.k,.k,.k,.k,.k,.k,.k,.k,.k,.k,.k,.k,.k,.k,.k,.k,.k,.k,.k,.k,.k,.k,.k,.k,.k,.k,.k,.k,.k,.k,.k,.k,.k,.k]) (fun k=>[.box false (aO s),.box false [.i .i64 (t).kind,.i .i64 (t).n,.s (t).text,.s (t).sort,.sl ((t).kids.flatMap aC) (t).kids.length,.sl ((t).rest.flatMap aC) (t).rest.length]]) (fun k=>k≤t.kids.length∧∀ j,j < k→uG s (t.kids.getD j default)=true) (fun k=>t.kids.length - k) (0) [] ⟨aG _,fun j h=>by omega⟩ (by simp [avs,avb,avi,avo,bK,aO]) (by simp [eN]) ?_
   rintro k g j ⟨hk,ha⟩
   have o:k < t.kids.length→CT 190 [.agg (aO s),elT (t.kids.getD k default)] (.b (uG s (t.kids.getD k default))):=fun h=>ih _ (aU h)
   refine zg ?_
   (refine zt2 o c1 ?_; repeat' first | exact trivial | refine zJ ?_ ?_ | refine zH fun hc=>?_)
   all_goals first
     | exact aF (by rw [e,wY k (by omega) hc,Bool.false_and]) rfl
     | exact ⟨k+1,_,⟨by omega,bD ha hc⟩,by omega,rfl,by simp⟩
     | skip
   all_goals rw [mU (fun j hj=>ha j (by omega)),Bool.true_and] at e
   all_goals first
     | (exfalso; omega)
     | exact aF (by rw [e,if_neg (by assumption)]) rfl
     | exact aF (by rw [e,if_pos (by omega),zf (by omega:¬ l.length=t.kids.length),Bool.false_and]) rfl
     | skip
   have hn:l.length=t.kids.length:=by omega
   rw [if_pos (by omega),zt hn,Bool.true_and] at e
   refine eE (fun (k:Nat)=>[.k,.k,.k,.k,.j,.k,.k,.k,.k,.k,.k,.k,.j,.j,.j,.j,.k,.k,.k,.k,.k,.k,.k,.k,.k,.k,.k,.k,.k,.k,.k,.k,.k,.k,.k,.k,.k,.k,.k,.k,.k,.k,.k,.k,.k,.k,.k,.k,.k,.k,.k,.k,.k,.k,.k,.k,.v (.i .i64 (k:Nat)),.j,.j,.j,.j,.j,.j,.j,.j,.j,.j,.j,.j,.j,.j,.j,.j,.j,.j,.j]) (fun k=>(.box false (aO s)::.box false [.i .i64 (t).kind,.i .i64 (t).n,.s (t).text,.s (t).sort,.sl ((t).kids.flatMap aC) (t).kids.length,.sl ((t).rest.flatMap aC) (t).rest.length]::g)) (fun k=>k≤t.kids.length∧∀ j,j < k→(qZ s (ofR s (t.kids.getD j default)).1 (l.getD j []) || qZ s (l.getD j []) (ofR s (t.kids.getD j default)).1)=true) (fun k=>t.kids.length - k) (0) [] ⟨aG _,fun j h=>by omega⟩ (by simp [avs,avb,avi,avo,bK,aO]) (by simp [eN]) ?_
   rintro kk g2 j2 ⟨hkk,ha2⟩
   refine zg ?_
   (refine zt2 (aJb s (t.kids.getD kk default) hs) (bWb s (ofR s (t.kids.getD kk default)).1 (l.getD kk []) hm) ?_; repeat' first | exact trivial | refine zJ ?_ ?_ | refine zH fun hc=>?_)
   all_goals first
     | exact aF (by rw [e,gY kk (by omega) hc]) rfl
     | exact ⟨kk+1,_,⟨by omega,bD ha2 hc⟩,by omega,rfl,by simp⟩
     | exact aF (by rw [e,kU (fun j hj=>ha2 j (by omega))]) rfl
     | (exfalso; omega)
theorem bPq (s:bZ) (hm:Small s) (hs:OkS s):∀ (t:LTerm),OkT t→CT 190 [.agg (aO s),elT t] (.b (uG s t)):=
 dO fun t hk _ ht=>aZr s t hm hs ht (fun k hmm=>hk k hmm (ht.kid k hmm))
theorem bPs (s:bZ) (t:LTerm) (hm:Small s) (hs:OkS s) (ht:OkT t): CT 132 [.agg (aO s),elT t] (.b (fO nodeB t && uG s t)):=by
 refine aL mixed Tryz.func132 g0 ?_
 · skip
   (refine zt2 (aIy t ht) (bPq s hm hs t ht) ?_; repeat' first | exact trivial | refine zJ ?_ ?_ | refine zH fun hc=>?_)
   all_goals exact aF rfl rfl
end Go.Proofs.YtifefbhllfdmlaaGreatDoor
namespace Go.Proofs.YtifefbhllfdmlaaGreatDoor
open Go Go.Vo
open Nat (reduceAdd reduceSub reduceMul reduceLeDiff reduceLT reduceEqDiff)
open Int (reduceNeg)
theorem aHn {t:LTerm} (h:nodeB t=true):1≤t.kind∧t.kind≤8:=by
 unfold nodeB at h
 by_cases h1:t.kind=1; · omega
 by_cases h2:t.kind=2; · omega
 by_cases h3:t.kind=3; · omega
 by_cases h4:t.kind=4; · omega
 by_cases h5:t.kind=5; · omega
 by_cases h6:t.kind=6; · omega
 by_cases h7:t.kind=7; · omega
 by_cases h8:t.kind=8; · omega
 rw [if_neg h1,if_neg h2,if_neg h3,if_neg h4,if_neg h5,if_neg h6,if_neg h7,if_neg h8] at h
 cases h

theorem aKg {s:bZ} (h:dM s=true):∀ o ∈ s.funs,S0 s o=true:=by
 simp only [dM,nA,nT,oS,aA,aN,decide_eq_true_eq] at h
 exact h.2.2
theorem aMo:iJ.all (fun x=>decide (aMz x=(H5 x).1) && decide (xJ x=(H5 x).2) && gI.contains (xJ x) && (aMz x).all gI.contains)=true:=by decide +kernel
structure bBv (s:bZ) (x:Str):Prop where
 ok:(called s x).2.2=(argsR2 s x).2.2
 args:(called s x).2.2=true→(called s x).1.args=(argsR2 s x).1
 sort:(called s x).2.2=true→(called s x).1.sort=(argsR2 s x).2.1
 exS:(called s x).2.2=true→existsA s (called s x).1.sort=true
 exA:(called s x).2.2=true→∀ y ∈ (called s x).1.args,existsA s y=true
 no:(called s x).2.2=false→(called s x).1.sort=[]
theorem aCj {s:bZ} {x:Str} (hv:dM s=true):bBv s x:=by
 cases h1:J9 s x with
 | some o=>
   have ho:=Y3 hv o (aHg h1)
   have hs:=aQe ho
   simp only [aRd,opHead,aA,aN] at ho
   have ha:=ho.1.1.1.1.1.1.2
   constructor <;> simp only [called,argsR2,h1] <;> intros <;> first | rfl | exact hs | exact ha _ ‹_› | trivial | contradiction
 | none=>
   cases h2:F0 s x with
   | some o=>
     have ho:=aKg hv o (J1 h2)
     simp only [S0,aA,aN] at ho
     have ha:=ho.1.1.2
     have hs:=ho.1.2
     constructor <;> simp only [called,argsR2,h1,h2] <;> intros <;> first | rfl | exact hs | exact ha _ ‹_› | trivial | contradiction
   | none=>
     rcases eM (iJ.contains x) with h3 | h3
     · have hb:=aN.1 aMo x (fM.1 h3)
       simp only [aA,decide_eq_true_eq,aN] at hb
       obtain ⟨⟨⟨b1,b2⟩,b3⟩,b4⟩:=hb
       have hs:existsA s (xJ x)=true:=mR (fM.1 b3)
       have ha:∀ y ∈ aMz x,existsA s y=true:=fun y hy=>mR (fM.1 (b4 y hy))
       constructor <;> simp only [called,argsR2,h1,h2,sK,h3,if_true] <;> intros <;> first | rfl | exact b1 | exact b2 | exact hs | exact ha _ ‹_› | trivial | contradiction
     · constructor <;> simp only [called,argsR2,h1,h2,sK,h3,aM,if_false] <;> intros <;> first | rfl | trivial | contradiction
theorem bGx {s:bZ} {t:LTerm} (hv:dM s=true) (hn:nodeB t=true):((ofR s t).2=true→kZ s t=(ofR s t).1∧existsA s (kZ s t)=true)∧((ofR s t).2=false→kZ s t=[]):=by
 have hk:=aHn hn
 have hc:=aCj (x:=t.text) hv
 by_cases h5:t.kind=5
 · simp only [kZ,ofR,h5,Int.reduceEq,if_true,if_false]
   rw [← hc.ok]
   exact ⟨fun h=>⟨hc.sort h,hc.exS h⟩,hc.no⟩
 by_cases h6:t.kind=6
 · simp only [kZ,ofR,h6,Int.reduceEq,if_true,if_false,exists_eq]
   exact ⟨fun h=>by rw [if_pos h]; exact ⟨rfl,h⟩,fun h=>by rw [if_neg (by rw [h]; simp)]⟩
 have e:∀ (a:Str),a ∈ gI→(True→True∧existsA s a=true)∧(true=false→a=[]):=fun a ha=>⟨fun _=>⟨trivial,mR ha⟩,fun h=>by cases h⟩
 by_cases h1:t.kind=1
 · simp only [kZ,ofR,h1,Int.reduceEq,if_true,if_false]; exact e kT (by decide)
 by_cases h2:t.kind=2
 · simp only [kZ,ofR,h2,Int.reduceEq,if_true,if_false]; exact e lE (by decide)
 by_cases h3:t.kind=3
 · simp only [kZ,ofR,h3,Int.reduceEq,if_true,if_false]; exact e xG (by decide)
 by_cases h4:t.kind=4
 · simp only [kZ,ofR,h4,Int.reduceEq,if_true,if_false]; exact e idS (by decide)
 by_cases h7:t.kind=7
 · simp only [kZ,ofR,h7,Int.reduceEq,if_true,if_false]; exact e sA (by decide)
 have h8:t.kind=8:=by omega
 simp only [kZ,ofR,h8,Int.reduceEq,if_true,if_false]; exact e E4 (by decide)
theorem bIf {s:bZ} (hv:dM s=true):∀ t:LTerm,wfT nodeB t=true→uG s t=mQ s t:=
 dO (Q := fun t=>wfT nodeB t=true→uG s t=mQ s t) fun t hk _ hw=>by
   have hw':=oR.1 hw
   have ek:t.kids.all (uG s)=t.kids.all (mQ s):=all_congr fun x hx=>hk x hx (hw'.2 x hx)
   rw [S6,S7,ek]
   rcases eM (t.kids.all (mQ s)) with ha | ha
   · rw [ha, Bool.true_and,Bool.true_and]
     have hc:=aCj (x:=t.text) hv
     by_cases h6:t.kind=6
     · rw [if_pos h6,if_neg (by omega),Bool.and_true]
       simp only [ofR,h6,Int.reduceEq,if_true,if_false,exists_eq]
     rw [if_neg h6]
     by_cases h5:t.kind=5
     · rw [if_pos h5,if_pos h5,aHf,aHe]
       have e2:(ofR s t).2=(called s t.text).2.2:=by simp only [ofR,h5,Int.reduceEq,if_true,if_false]; exact hc.ok.symm
       rw [e2]
       rcases eM (called s t.text).2.2 with ho | ho
       · rw [ho,Bool.true_and,Bool.true_and,← hc.args ho]
         by_cases hn:(called s t.text).1.args.length=t.kids.length
         · rw [zt hn,Bool.true_and,Bool.true_and]
           refine xZ fun j hj=>?_
           have hm:t.kids.getD j default ∈ t.kids:=aU hj
           have hf:uG s (t.kids.getD j default)=true:=by rw [hk _ hm (hw'.2 _ hm)]; exact aN.1 ha _ hm
           have hof:(ofR s (t.kids.getD j default)).2=true:=by rw [S6,aA] at hf; exact hf.1
           have q:=(bGx hv (oR.1 (hw'.2 _ hm)).1).1 hof
           have hx:existsA s ((called s t.text).1.args.getD j [])=true:=hc.exA ho _ (by
             have:j < (called s t.text).1.args.length:=by omega
             simp only [List.getD,bG this,lF]
             exact uL this)
           rw [← q.1,zO q.2,zO hx,aLq]
         · rw [zf hn,Bool.false_and,Bool.false_and]
       · rw [ho,Bool.false_and,Bool.false_and]
     · rw [if_neg h5,if_neg h5,Bool.and_true]
       have hkk:=aHn hw'.1
       simp only [ofR]
       repeat' split
       all_goals first | rfl | omega
   · rw [ha,Bool.false_and,Bool.false_and,Bool.and_false]
end Go.Proofs.YtifefbhllfdmlaaGreatDoor
namespace Go.Proofs.YtifefbhllfdmlaaGreatDoor
open Go Go.Vo
open Nat (reduceAdd reduceSub reduceMul reduceLeDiff reduceLT reduceEqDiff)
open Int (reduceNeg)

theorem Q4 (a:LTest):jA a a=true:=by simp [jA]
theorem sO {t:LTerm} (h:fO nodeB t=true):highT t≤1000∧nodesT t≤2000:=by
 simp only [fO,aA,decide_eq_true_eq] at h
 omega
theorem aRy (s:bZ) (t:LTerm) (hm:Small s) (hs:OkS s) (ht:OkT t) (hv:dM s=true):CT 132 [.agg (aO s),elT t] (.b (fO nodeB t && mQ s t)):=by
 have c:=bPs s t hm hs ht
 rcases eM (fO nodeB t) with h | h
 · rwa [bIf hv t (zN h)] at c
 · rw [h,Bool.false_and] at c ⊢
   exact c
end Go.Proofs.YtifefbhllfdmlaaGreatDoor
namespace Go.Proofs.YtifefbhllfdmlaaGreatDoor
open Go Go.Vo
open Nat (reduceAdd reduceSub reduceMul reduceLeDiff reduceLT reduceEqDiff)
open Int (reduceNeg)

theorem aSq (l:List LAsk) (f:FuncId) (a b:List AV) (p:LAsk→Bool) (hl:l.length≤1000000) (ha:persL a=true) (hb:persL b=true) (hw:∀ k,k < l.length→CT f (a++[.agg (aJ (l.getD k default))]++b) (.b (p (l.getD k default)))): CT 63 [ava l,.fn f a b] (.i .i64 (idx p l)):=by
 refine bQ mixed Tryz.func63 g0 ?_
 · simp -implicitDefEqProofs (disch:=omega) only [Tryz.f63,go_sem,List.replicate,↓reduceIte,reduceAdd,reduceSub,reduceMul,reduceLeDiff,reduceLT,reduceEqDiff,reduceNeg,Nat.reduceBEq,ava]
   (refine zs0 ?_; repeat' first | exact trivial | refine zJ ?_ ?_ | refine zH fun hc=>?_)
   refine bP (fun (k:Nat)=>[.k,.k,.k,.k,.j,.j,.k,.k,.v (.i .i64 (k:Nat)),.j,.j,.j,.j,.j,.j,.j,.j,.j,.j]) (fun k=>[]) (fun k=>k≤l.length∧∀ j,j < k→p (l.getD j default)=false) (fun k=>l.length - k) (0) ⟨aG _,fun j h=>by omega⟩ rfl (by simp [eN]) ?_
   rintro k j ⟨hk,hn⟩
   refine zg ?_
   (refine zs0 ?_; repeat' first | exact trivial | refine zJ ?_ ?_ | refine zH fun hc=>?_)
   · refine bF (hw k (by omega)) ?_ ?_
     · exact zv (zA2 @aV.{0,0} (zA2 (fun h=>oV (h:=h) ha) (zA2 (fun h=>oV (h:=h) hb) (zA2 @aJ.eq_1 @avt.eq_1))))
     · refine zg ?_
       (refine zs0 ?_; repeat' first | exact trivial | refine zJ ?_ ?_ | refine zH fun hc=>?_)
       · refine aF ?_ (by rfl)
         rw [nY (d:=default) (k:=k) (by omega) hc hn]
       · exact ⟨k+1,⟨by omega,lP hn hc⟩,by omega,by simp⟩
   · refine aF ?_ (by rfl)
     have h1:k=l.length:=by omega
     rw [nZ (h1 ▸ hn)]
theorem bOx (l:List LAsk) (f:FuncId) (a b:List AV) (p:LAsk→Bool) (hl:l.length≤1000000) (ha:persL a=true) (hb:persL b=true) (hw:∀ k,k < l.length→CT f (a++[.agg (aJ (l.getD k default))]++b) (.b (p (l.getD k default)))): CT 59 [ava l,.fn f a b] (.b (l.any p)):=by
 refine bQ mixed Tryz.func59 g0 ?_
 · simp -implicitDefEqProofs (disch:=omega) only [Tryz.f59,go_sem,List.replicate,↓reduceIte,reduceAdd,reduceSub,reduceMul,reduceLeDiff,reduceLT,reduceEqDiff,reduceNeg,Nat.reduceBEq,ava]
   have c:=aSq l f a b p hl ha hb hw
   simp only [ava] at c
   refine bF c ?_ ?_
   · exact zv (zA2 ha hb)
   · refine zg ?_
     refine aF ?_ (by rfl)
     rw [sB]
theorem bSa (l:List LTerm) (f:FuncId) (a b:List AV) (p:LTerm→Bool) (hl:l.length≤1466015503701) (ha:persL a=true) (hb:persL b=true) (hw:∀ k,k < l.length→CT f (a++[elT (l.getD k default)]++b) (.b (p (l.getD k default)))): CT 176 [avt l,.fn f a b] (.i .i64 (idx p l)):=by
 refine aL mixed Tryz.func176 g0 ?_
 · skip
   refine bP (fun (k:Nat)=>[.k,.k,.k,.k,.j,.j,.k,.k,.v (.i .i64 k),.j,.j,.j,.j,.j,.j,.j,.j,.j,.j]) (fun k=>[]) (fun k=>k≤l.length∧∀ j,j < k→p (l.getD j default)=false) (fun k=>l.length - k) (0) ⟨aG _,fun j h=>by omega⟩ rfl (by simp [eN]) ?_
   rintro k j ⟨hk,hn⟩
   refine zg ?_
   (refine zs0 ?_; repeat' first | exact trivial | refine zJ ?_ ?_ | refine zH fun hc=>?_)
   · refine bF (hw k (by omega)) ?_ ?_
     · exact zv (zA2 @aV.{0,0} (zA2 (fun h=>oV (h:=h) ha) (zA2 (fun h=>oV (h:=h) hb) (zA2 @elT.eq_1 @bC))))
     · refine zg ?_
       (refine zs0 ?_; repeat' first | exact trivial | refine zJ ?_ ?_ | refine zH fun hc=>?_)
       · refine aF ?_ (by rfl)
         rw [nY (d:=default) (k:=k) (by omega) hc hn]
       · exact ⟨k+1,⟨by omega,lP hn hc⟩,by omega,by simp⟩
   · refine aF ?_ (by rfl)
     have h1:k=l.length:=by omega
     rw [nZ (h1 ▸ hn)]
theorem bSb (l:List LTerm) (f:FuncId) (a b:List AV) (p:LTerm→Bool) (hl:l.length≤1466015503701) (ha:persL a=true) (hb:persL b=true) (hw:∀ k,k < l.length→CT f (a++[elT (l.getD k default)]++b) (.b (p (l.getD k default)))): CT 112 [avt l,.fn f a b] (.b (l.any p)):=by
 refine aL mixed Tryz.func112 g0 ?_
 · skip
   refine bF (bSa l f a b p hl ha hb hw) ?_ ?_
   · exact zv (zA2 ha (zA2 hb @avt.eq_1))
   · refine zg ?_
     refine aF ?_ (by rfl)
     rw [sB]
theorem bOj (s:bZ) (p:LTerm) (hm:Small s) (hs:OkS s) (ht:OkT p): CT 113 [elT p,.box (aO s) 0] (.b (!xD s p)):=by
 refine aL mixed Tryz.func113 g0 ?_
 · skip
   have c:=aCa s p hm hs ht
   (refine zt1 c ?_; repeat' first | exact trivial | refine zJ ?_ ?_ | refine zH fun hc=>?_)
   all_goals exact aF (by simp_all) rfl
def gP (s:bZ) (l:List LTerm):Bool:=dM s && (decide (l.length≤100) && l.all (xD s))
theorem bDl (s:bZ) (l:List LTerm) (hm:Small s) (hs:OkS s) (hl:l.length≤1466015503701) (ho:∀ t ∈ l,OkT t): CT 57 [.agg (aO s),avt l] (.b (gP s l)):=by
 refine bQ mixed Tryz.func57 g0 ?_
 · simp -implicitDefEqProofs (disch:=omega) only [Tryz.f57,go_sem,List.replicate,↓reduceIte,reduceAdd,reduceSub,reduceMul,reduceLeDiff,reduceLT,reduceEqDiff,reduceNeg,Nat.reduceBEq,avt]
   have c1:=aMg s hm hs
   have c2:=bSb l 113 [] [.box (aO s) 0] (fun t => !xD s t) hl rfl (by simp [persL,pers,aPs]) (fun k hk=>bOj s _ hm hs (ho _ (aU hk)))
   have e:(l.any fun t => !xD s t) = !l.all (xD s):=List.not_all_eq_any_not.symm
   rw [e] at c2
   rw [gP]
   simp only [avt] at c2
   generalize dM s=A at *
   generalize l.all (xD s)=B at *
   (refine zt2 c1 c2 ?_; repeat' first | exact trivial | refine zJ ?_ ?_ | refine zH fun hc=>?_)
   all_goals exact aF (by (simp_all) <;> (intros; omega)) rfl
structure OkP (a:LAsk):Prop where
 test:OkX a.test
 len:a.path.length≤1000
 ints:∀ i ∈ a.path,0≤i∧i≤1466015503701
theorem OkP.path {a:LAsk} (h:OkP a):PathOk a.path:=⟨by have:=h.len; omega,fun i hi=>by have:=h.ints i hi; omega⟩
theorem Y7 : ∀ (t:LTerm),OkT t→∀ p:List Int,p.length+highT t≤1000→(∀ i ∈ p,0≤i∧i≤1466015503701)→∀ a ∈ cK t p,OkP a:=
 dO (Q := fun t=>OkT t→∀ p:List Int,p.length+highT t≤1000→(∀ i ∈ p,0≤i∧i≤1466015503701)→∀ a ∈ cK t p,OkP a) fun t hk _ ht p hp hi=>by
   have e:=wC t
   have hkk:=ht.kids
   have L:∀ (l:List LTerm) (i:Nat),(∀ k ∈ l,k ∈ t.kids)→i+l.length≤t.kids.length→p.length+1+highL l≤1000→∀ a ∈ testsL l p i,OkP a:=by
     intro l
     induction l with
     | nil=>intro i _ _ _ a ha; simp [testsL] at ha
     | cons x l ih=>
       intro i hm hil hh a ha
       rw [highL] at hh
       rw [aI] at hil
       rw [testsL,bA] at ha
       rcases ha with ha | ha
       · refine hk x (hm x (by simp)) (ht.kid x (hm x (by simp))) (p++[(i:Int)]) (by simp only [aE,aI,aX]; omega) ?_ a ha
         intro j hj
         rcases bA.1 hj with hj | hj
         · exact hi j hj
         · rw [aS] at hj; omega
       · exact ih (i+1) (fun k hk=>hm k (by simp [hk])) (by omega) (by omega) a ha
   have z:∀ (te:LTest),OkX te→OkP ⟨p,te⟩:=fun te h=>⟨h,by show p.length≤1000; omega,hi⟩
   have zz:∀ {op n:Int} {x:Str},x.length≤140737488355328→OkX ⟨op,zT,x,n⟩:=fun h=>⟨aEe,h⟩
   intro a ha
   rw [hX] at ha
   split at ha
   · rcases bT.1 ha with rfl | ha
     · exact z _ (zz ht.text)
     · exact L t.kids 0 (fun k hk=>hk) (by omega) (by omega) a ha
   · split at ha
     · rcases bT.1 ha with rfl | ha
       · exact z _ (zz (by simp))
       · exact L t.kids 0 (fun k hk=>hk) (by omega) (by omega) a ha
     · split at ha
       · rw [aS] at ha; subst ha; exact z _ (zz (by simp))
       · split at ha
         · split at ha
           · cases ha
           · rw [aS] at ha; subst ha; exact z _ (zz ht.sort)
         · rw [aS] at ha; subst ha; exact z _ ⟨ht,by simp⟩
def aQg (s:bZ) (t p:LTerm):Bool:=(cK p []).all fun a=>fQ s a t
def qU (s:bZ) (t:LTerm):List LTerm→Nat→List Int
 | [],_=>[]
 | p::l,i=>(if aQg s t p=true then [(i:Int)] else [])++qU s t l (i+1)
theorem xW {s:bZ} {t:LTerm}:∀ {l:List LTerm} {i k:Nat},k < l.length→qU s t (l.take (k+1)) i=qU s t (l.take k) i++(if aQg s t (l.getD k default)=true then [((i+k:Nat):Int)] else [])
 | p::l,i,0,_=>by simp [qU]
 | p::l,i,k+1,h=>by
   rw [eO,qU,eO,qU,xW (k:=k) (by simpa using h),bL,show i+1+k=i+(k+1) by omega]; simp
 | [],_,_,h=>by simp at h
theorem wR {s:bZ} {t:LTerm}:∀ {l:List LTerm} {i:Nat},(qU s t l i).length≤l.length
 | [],i=>by simp [qU]
 | p::l,i=>by
   have:=wR (l:=l) (i:=i+1) (s:=s) (t:=t)
   rw [qU,aE,aI]
   split <;> simp <;> omega
def oN (s:bZ) (l:List LTerm) (t:LTerm):List Int × Int:=if (gP s l && (dM s && lH s t))=true then (qU s t l 0,0) else ([],2)
def aCi (r:List Int × Int):AV:=.tup [.sl (ints r.1) r.1.length,.i .i64 r.2]
end Go.Proofs.YtifefbhllfdmlaaGreatDoor

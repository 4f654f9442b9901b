/-
  What functions of the chapter return, as plain functions of what they are given; no condition beyond those that each theorem names.
-/
import Derived.Test.YtifefbhllfdmlaaGreatDoorVaP105
import Derived.Test.YtifefbhllfdmlaaGreatDoorSoP103
import Derived.Test.YtifefbhllfdmlaaGreatDoorSoP102
import Derived.Test.YtifefbhllfdmlaaGreatDoorVoP110
import Derived.Test.YtifefbhllfdmlaaGreatDoorTeP103
import Derived.Test.YtifefbhllfdmlaaGreatDoorTeP104
import Derived.Test.YtifefbhllfdmlaaGreatDoorVaP104
import Derived.Test.YtifefbhllfdmlaaGreatDoorVoP109
import Derived.Test.YtifefbhllfdmlaaGreatDoorVaP103
set_option maxRecDepth 100000
set_option linter.unusedSimpArgs false
set_option linter.unusedVariables false
set_option maxHeartbeats 4000000
namespace Go.Proofs.YtifefbhllfdmlaaGreatDoor
open Go Go.Vo Go.Shelf Go.RowKit
open Nat (reduceAdd reduceSub reduceMul reduceLeDiff reduceLT reduceEqDiff)
open Int (reduceNeg)

abbrev TW:TypeId:=235
abbrev TB:TypeId:=5
set_option maxHeartbeats 1000000 in
theorem bTg (b:Nat) (p v:Value) (w:World) (hb:w.heap[b]? = some (.cells #[p,v] TW (0,0))) (hp:p=.pointer none∨p=selfP b) :
   Calls Tryz.prog 266 #[selfP b] w fun e w'=>e=.returned (.tuple #[])∧w'.heap[b]? = some (.cells #[selfP b,v] TW (0,0))∧w.grownBy w' (some b)∧w'.heap.size=w.heap.size∧Shp w w':=by
 have h0:w.cell? ⟨b,0,none⟩=some p:=by rw [Lib.cell_of_heap hb]; rfl
 have hsz:(Tryz.prog.info? 233).map (·.size)=some 2:=by kernel_rfl
 obtain ⟨j,hj,hjs⟩:=bI.1 hsz
 have mixed:=mixed
 have t72:=Tryz.underlying233; have a72:=Tryz.isAgg233; have z72:=Tryz.sizeOf233; have v72:=Tryz.zeroValue233; have u72:=run_underlying t72
 have t70:=Tryz.underlying230; have a70:=Tryz.isAgg230; have z70:=Tryz.sizeOf230; have v70:=Tryz.zeroValue230; have u70:=run_underlying t70
 have t4:=Tryz.underlying4; have a4:=Tryz.isAgg4; have z4:=Tryz.sizeOf4; have v4:=Tryz.zeroValue4; have u4:=run_underlying t4
 have t164:=Tryz.underlying300; have a164:=Tryz.isAgg300; have z164:=Tryz.sizeOf300; have v164:=Tryz.zeroValue300; have u164:=run_underlying t164
 unfold selfP at *
 rcases hp with rfl | rfl
 · have hsh:w.shape? b=some (TW,2):=by simp [World.shape?,hb]
   have hfz:w.frozen? ⟨b,0,none⟩=false:=Lib.frozen_of_heap hb 0
   have hl:liesAt Tryz.prog Tryz.prog.depth TW (2 / Tryz.prog.cellsOf TW) 0 233 1=true:=by kernel_rfl
   have main:Calls Tryz.prog 266 #[.pointer (some ⟨b,0,none⟩)] w fun e w'=>e=.returned (.tuple #[])∧w'=w.setCell ⟨b,0,none⟩ (.pointer (some ⟨b,0,none⟩)):=by
     go_enter Tryz.func266,Tryz.ntmps266
     go_wp2
     rw [Lib.run_to_unsafe w ⟨b,0,none⟩ t70 t164 hj (by rw [hjs]; decide) hsh (Nat.zero_lt_succ 1)]
     simp only [Result.andThen]
     rw [Oper.upon_value]
     go_wp2
     rw [run_callFunc_extern Tryz.func276 (by kernel_rfl) (by kernel_rfl) (by kernel_rfl) (e:=Extern.AbiNoEscape.same) (by kernel_rfl)]
     rw [Lib.run_noEscape]
     simp only [Result.andThen]
     rw [Oper.upon_value]
     go_wp2
     rw [Lib.run_from_unsafe w ⟨b,0,none⟩ t164 t70 hj hsh hl]
     simp only [Result.andThen]
     rw [Oper.upon_value]
     go_wp2
     go_end0
     exact ⟨rfl,rfl⟩
   refine main.mono ?_
   rintro e w' ⟨rfl,rfl⟩
   refine ⟨rfl,?_,⟨rfl,rfl,rfl,by simp [World.setCell],fun k hk hne=>?_⟩,by simp [World.setCell],zW _ _ _⟩
   · simp [World.setCell,jM,hb]
   · exact Below.heap_setCell _ _ _ _ (fun e=>hne (by simp [e]))
 · have main:Calls Tryz.prog 266 #[.pointer (some ⟨b,0,none⟩)] w fun e w'=>e=.returned (.tuple #[])∧w'=w:=by
     go_enter Tryz.func266,Tryz.ntmps266
     go_wp2
     rw [Lib.run_neq_ptr_same w _ t70 hj]
     go_wp2
     go_end0
     exact ⟨rfl,rfl⟩
   refine main.mono ?_
   rintro e w' ⟨rfl,rfl⟩
   exact ⟨rfl,hb,⟨rfl,rfl,rfl,bA _,fun _ _ _=>rfl⟩,rfl,Shp.refl _⟩
def bTx:Ren:=⟨fun | 166=>245 | 240=>266 | 169=>220 | n=>n,fun | 72=>233 | 70=>230 | 37=>231 | 127=>264 | 164=>300 | 75=>259 | n=>n,fun n=>n⟩
theorem bVv:bTv Tryz.prog bTx TW:={
 mixed:=mixed
 f166:=Tryz.func245.trans (congrArg some (by kernel_rfl))
 e240:=enters_of Tryz.func266 (by kernel_rfl) rfl
 copy:=bTg
 t3:=Tryz.underlying3
 a3:=Tryz.isAgg3
 z3:=Tryz.sizeOf3
 v3:=Tryz.zeroValue3
 t4:=Tryz.underlying4
 a4:=Tryz.isAgg4
 z4:=Tryz.sizeOf4
 v4:=Tryz.zeroValue4
 t9:=Tryz.underlying9
 a9:=Tryz.isAgg9
 z9:=Tryz.sizeOf9
 v9:=Tryz.zeroValue9
 t37:=Tryz.underlying231
 a37:=Tryz.isAgg231
 z37:=Tryz.sizeOf231
 v37:=Tryz.zeroValue231
 t70:=Tryz.underlying230
 a70:=Tryz.isAgg230
 z70:=Tryz.sizeOf230
 v70:=Tryz.zeroValue230
 t72:=Tryz.underlying233
 a72:=Tryz.isAgg233
 z72:=Tryz.sizeOf233
 v72:=Tryz.zeroValue233 }
theorem bOn:Builder.Extra Tryz.prog bTx:={
 sizeBuilder:=by kernel_rfl
 liesBuilder:=by kernel_rfl
 t5:=Tryz.underlying5
 a5:=Tryz.isAgg5
 z5:=Tryz.sizeOf5
 v5:=Tryz.zeroValue5
 infoByte:=by kernel_rfl
 cellsByte:=by kernel_rfl
 sizeByte:=by kernel_rfl
 neB5:=by decide }
abbrev WrP (f:FuncId) (A:List AV) (r:AV) (acc acc':Str):Prop:=Wr Tryz.prog G0 TW TB f A r acc acc'
theorem wrS {acc s:Str} (h:acc.length+s.length≤140737488355328):WrP 245 [.ptr 0 0,.s s] (.tup [.i .i64 s.length,.p .nilIface]) acc (acc++s):=fun v=>
 (aAw bVv bOn (by decide) (by kernel_rfl) h).mono fun r h' ⟨h1,v',h2⟩=>⟨h1,v',[],h2⟩
theorem bWs {acc:Str} {v:Value}:ACalls Tryz.prog G0 220 [.ptr 0 0] [rJ TW v,tX TB v acc] (fun r h'=>r=.s acc∧h'=[.dead,.dead]):=
 Q4 (T:=TW) (ρ:=Tryz.lays169_ren) Tryz.lays169 Tryz.Builder_Extra_169 (by decide) (by kernel_rfl)
end Go.Proofs.YtifefbhllfdmlaaGreatDoor
namespace Go.Proofs.YtifefbhllfdmlaaGreatDoor
open Go Go.Vo
open Nat (reduceAdd reduceSub reduceMul reduceLeDiff reduceLT reduceEqDiff)
open Int (reduceNeg)

abbrev WrK (l':Str):AV→List AObj→Prop:=fun r h'=>r=.tup []∧∃ v' tl,h'=rJ TW v'::tX TB v' l'::tl
theorem bHq {v:Value} {l l':Str} {tl:List AObj} (e:l=l'):WrK l' (.tup []) (rJ TW v::tX TB v l::tl):=⟨rfl,v,tl,by rw [e]⟩
abbrev WrT (t:LTerm):Prop:=∀ acc:Str,acc.length+(mD t).length≤140737488355328→WrP 219 [.ptr 0 0,elT t] (.tup []) acc (acc++mD t)
theorem bBk (t:LTerm) (acc:Str) (v:Value) (ht:OkT t) (hk:t.kind=1) (hn:nE t.n=true) (hf:acc.length+(mD t).length≤140737488355328): ACalls Tryz.prog G0 219 [.ptr 0 0,elT t] [rJ TW v,tX TB v acc] (WrK (acc++mD t)):=by
 refine yD (rx:=false) (th:=fun _=>some ⟨none,[],false,false,true,[],[],0⟩) mixed Tryz.func219 rfl (by kernel_rfl) (by kernel_rfl) (ac:=?_) ?_ ?_
 rotate_left
 · simp only [strip,uQ,aMd,RX.off,ckF,ckX,zOf,exd,vOf,fI,fX,dG,dF,cN,Bool.and_true,Bool.and_false,cN,oZ,eQ,lU,tS,fV,qW,cH,cC,iZ,anyPre,Region.binds,Bool.not_true,Bool.not_false,aP,if_true,if_false,jI,iG,Bool.true_and,Bool.false_and,bO,aZ,fI,fX,List.append_nil,wQ,uP,xN,Nat.reduceBEq,sX]
   rfl
 · simp -implicitDefEqProofs (disch:=omega) only [Tryz.f219,go_sem,List.replicate,↓reduceIte,reduceAdd,reduceSub,reduceMul,reduceLeDiff,reduceLT,reduceEqDiff,reduceNeg,Nat.reduceBEq]
   have e:=aSt t
   have hl:=congrArg List.length e
   rw [if_pos hk] at e hl
   have hi : -2147483647≤t.n∧t.n≤2147483647:=by simpa only [nE,aC,decide_eq_true_eq] using hn
   have w1:=wrS (acc:=acc) (s:=Lib.itoa t.n) (by omega)
   refine zh (zt hk) ?_
   (repeat' (first | refine gT ?_ ?_ | refine gF ?_ ?_ | refine gC ?_ ?_ | ((refine aY (aAg t.n (by omega) (by omega)) ?_ ?_; (focus (simp -implicitDefEqProofs (disch:=omega) only [zt hk,zdB,go_sem,↓reduceIte,reduceAdd,reduceSub,reduceMul,reduceLeDiff,reduceLT,reduceEqDiff,reduceNeg,Nat.reduceBEq]; done))); simp -implicitDefEqProofs (disch:=omega) only [zt hk,go_sem,↓reduceIte,reduceAdd,reduceSub,reduceMul,reduceLeDiff,reduceLT,reduceEqDiff,reduceNeg,Nat.reduceBEq]) | (refine bOh 0 1 g0 (w1) rfl (by decide) rfl rfl (by first | rfl | (simp only [renL,ren,elT,aW,avt,renL_pers _ _ fE,bSn]; done)) ?_; intro v9 g9; simp -implicitDefEqProofs (disch:=omega) only [zt hk,go_sem,↓reduceIte,reduceAdd,reduceSub,reduceMul,reduceLeDiff,reduceLT,reduceEqDiff,reduceNeg,Nat.reduceBEq]) | refine aK (by omega) ?_ | (intro hr; have hc:=hr; (try simp only [zdz] at hc); simp -implicitDefEqProofs (disch:=omega) only [hr,zt hk,go_sem,↓reduceIte,reduceAdd,reduceSub,reduceMul,reduceLeDiff,reduceLT,reduceEqDiff,reduceNeg,Nat.reduceBEq]; (try clear hr))))
   all_goals exact bHq (by rw [e])
theorem bHp (t:LTerm) (ht:OkT t) (hk:t.kind=1) (hn:nE t.n=true):WrT t:=fun acc hf v=>bBk t acc v ht hk hn hf
theorem bSm {N:Nat}:emb [1,2] N 0=1:=rfl
theorem bFt (t:LTerm) (ht:OkT t) (hk:t.kind=1) (hn:nE t.n=true) (hl:(mD t).length≤140737488355328):CT 179 [elT t] (.s (mD t)):=by
 have hz0:(Tryz.prog.info? TW).map (fun i=>i.zero.map (·.cells))=some (some #[.pointer Option.none,W8]):=by kernel_rfl
 obtain ⟨i,hi,hz1⟩:=bI.1 hz0
 obtain ⟨z,hz,hc⟩:=bI.1 hz1
 refine aYx Tryz.func179 rfl (by kernel_rfl) g0 ?_
 refine bAz ?_
 refine tH (rx:=false) (th:=fun _=>none) mixed _ (ac:=?_) (by kernel_rfl) ?_ _ _ _ ?_
 rotate_left
 · simp only [strip,uQ,aMd,RX.off,ckF,ckX,zOf,exd,vOf,cN,oZ,eQ,lU,tS,fV,qW,cH,cC,iZ,anyPre,Region.binds,Bool.not_true,Bool.not_false,aP,if_true,if_false,jI,iG,Bool.true_and,Bool.false_and,bO,aZ,fI,fX,List.append_nil]
   rfl
 · simp -implicitDefEqProofs (disch:=omega) only [Tryz.f179,go_sem,List.replicate,↓reduceIte,reduceAdd,reduceSub,reduceMul,reduceLeDiff,reduceLT,reduceEqDiff,reduceNeg,Nat.reduceBEq]
   refine bAz (bOp TB rfl rfl hi hz hc ?_)
   refine tH (rx:=false) (th:=fun _=>none) mixed _ (ac:=?_) (by kernel_rfl) ?_ _ _ _ ?_
   rotate_left
   · simp only [strip,uQ,aMd,RX.off,ckF,ckX,zOf,exd,vOf,cN,oZ,eQ,lU,tS,fV,qW,cH,cC,iZ,anyPre,Region.binds,Bool.not_true,Bool.not_false,aP,if_true,if_false,jI,iG,Bool.true_and,Bool.false_and,bO,aZ,fI,fX,List.append_nil]
     rfl
   · refine zg ?_
     refine bOh 1 2 g0 (bHp t ht hk hn [] (by simpa using hl)) rfl (by decide) rfl rfl (by simp only [renL,ren,elT,aW,avt,renL_pers _ _ fE,bSm]) ?_
     intro v9 g9
     refine zg ?_
     refine bOg 1 2 g0 bWs (by decide) rfl rfl rfl ?_
     refine zg ?_
     exact aG rfl rfl
end Go.Proofs.YtifefbhllfdmlaaGreatDoor
namespace Go.Proofs.YtifefbhllfdmlaaGreatDoor
open Go Go.Vo
open Nat (reduceAdd reduceSub reduceMul reduceLeDiff reduceLT reduceEqDiff)
open Int (reduceNeg)

def bPg:Str:=[69,120,112]
def bQa:Str:=[73,110,116]
def aKu:Str:=[112,108,117,115]
def aKv:Str:=[109,105,110,117,115]
def sgS:cI:=⟨[bPg],[(bQa,bPg)],[⟨aKu,[P9,P9],bPg,[],0,0,[]⟩,⟨aKv,[P9,P9],bPg,[],0,0,[]⟩],[],[]⟩
def aLn (n:Int):LTerm:=.mk 1 n [] [] [] []
def bHb (x so:Str):LTerm:=.mk 6 0 x so [] []
def bIe (x:Str) (l:List LTerm):LTerm:=.mk 5 0 x [] l []
def xp1:LTerm:=bIe aKu [bHb [88] bQa,aLn 1]
def xp2:LTerm:=bIe aKu [bHb [88] P9,bHb [89] P9]
def xp3:LTerm:=bIe aKv [bHb [88] P9,bHb [89] P9]
def xt:LTerm:=bIe aKu [aLn 2,aLn 1]
def xa:kD:=⟨[1],⟨1,aLn 1,[],0⟩⟩
def xa0:kD:=⟨[],⟨2,zT,aKu,2⟩⟩
def xa1:kD:=⟨[0],⟨6,zT,bQa,0⟩⟩
def xa3:kD:=⟨[],⟨2,zT,aKv,2⟩⟩
def aZo:List (FuncId × List AV × AV):=[
 (13,[.agg (bB sgS),elT xp1],aHe (T1 sgS xp1)),
 (48,[.agg (bB sgS)],dD sgS),
 (47,[.agg (bB sgS)],.b true),
 (42,[.agg (bB sgS),elT xp1],.b true),
 (42,[.agg (bB sgS),elT xp2],.b true),
 (42,[.agg (bB sgS),elT xp3],.b true),
 (43,[elT xp1],ava (dZ xp1 [])),
 (43,[elT xp2],ava (dZ xp2 [])),
 (43,[elT xp3],ava (dZ xp3 [])),
 (58,[.agg (bB sgS),elT xt],.b true),
 (50,[dD sgS,elT xt],.b true),
 (178,[.i .i64 0],.s [48]),
 (178,[.i .i64 1],.s [49]),
 (178,[.i .i64 2],.s [50]),
 (178,[.i .i64 6],.s [54]),
 (15,[.agg (bB sgS),.agg (bT xa),elT xt],aHa (true,0)),
 (49,[dD sgS,.agg (bT xa)],.b true),
 (49,[dD sgS,.agg (bT xa0)],.b true),
 (49,[dD sgS,.agg (bT xa1)],.b true),
 (49,[dD sgS,.agg (bT xa3)],.b true),
 (181,[.sl [ava [],ava ((dZ xp1 []).drop 1)] 2],ava ((dZ xp1 []).drop 1)),
 (181,[.sl [ava [],ava ((dZ xp1 []).drop 2)] 2],ava ((dZ xp1 []).drop 2)),
 (181,[.sl [ava [],ava []] 2],ava []),
 (179,[elT (aLn 1)],.s (mD (aLn 1)))]
theorem okt {k n:Int} {x so:Str} {ks:List LTerm} (hx:x.length≤100) (hs:so.length≤100) (hn:0≤n∧n≤100) (hk:ks.length≤100) (h:∀ t ∈ ks,OkT t):OkT (.mk k n x so ks []):=.mk (by simp only [LTerm.text]; omega) (by simp only [LTerm.sort]; omega) (by simp only [LTerm.n]; omega) (by simp only [LTerm.n]; omega) (by simp only [LTerm.kids]; omega) (by simp [LTerm.rest]) (by simpa [LTerm.kids] using h) (by simp [LTerm.rest])
theorem aNw {n:Int} (h:0≤n∧n≤100):OkT (aLn n):=okt (by decide) (by decide) h (by decide) (by simp)
theorem aNu {x so:Str} (hx:x.length≤100) (hs:so.length≤100):OkT (bHb x so):=okt hx hs (by decide) (by decide) (by simp)
theorem aFd {x:Str} {a b:LTerm} (hx:x.length≤100) (ha:OkT a) (hb:OkT b):OkT (bIe x [a,b]):=okt hx (by decide) (by decide) (by simp) (by
 intro t ht
 rcases cD.1 ht with rfl | ht
 · exact ha
 · rw [aU] at ht; exact ht ▸ hb)
theorem ok1:OkT xp1:=aFd (by decide) (aNu (by decide) (by decide)) (aNw (by decide))
theorem ok2:OkT xp2:=aFd (by decide) (aNu (by decide) (by decide)) (aNu (by decide) (by decide))
theorem ok3:OkT xp3:=aFd (by decide) (aNu (by decide) (by decide)) (aNu (by decide) (by decide))
theorem okx:OkT xt:=aFd (by decide) (aNw (by decide)) (aNw (by decide))
theorem M4:Small sgS:=⟨by decide,by decide,by decide,by decide,by decide⟩
theorem bJo:eN sgS=true:=by kernel_rfl
theorem okK (p:List Int) (te:LTest) (h:OkT te.term) (hx:te.text.length≤100) (hp:p.length≤100):OkK ⟨p,te⟩:=⟨⟨h,eK hx (by decide)⟩,eK hp (by decide)⟩
theorem oka:OkK xa:=okK _ _ (aNw (by decide)) (by decide) (by decide)
theorem bXh:OkK xa0:=okK _ _ aNt (by decide) (by decide)
theorem bXg:OkK xa1:=okK _ _ aNt (by decide) (by decide)
theorem bXf:OkK xa3:=okK _ _ aNt (by decide) (by decide)
theorem aCc:OkS sgS:=by
 have ho:∀ x ∈ sgS.ops,OkO x:=by
   intro x hx
   simp only [sgS,cD,List.not_mem_nil,or_false] at hx
   rcases hx with rfl | rfl <;> exact ⟨by decide,by decide,by decide,by decide,by decide,by decide,by decide,by decide,by decide,by decide⟩
 exact ⟨by decide,by decide,by decide,by decide,by decide,ho,by decide,by simp [sgS],by decide,by decide,by decide,by decide⟩
theorem ka1:CT 13 [.agg (bB sgS),elT xp1] (aHe (T1 sgS xp1)):=bLs sgS xp1 M4 aCc ok1
theorem ka2:CT 48 [.agg (bB sgS)] (dD sgS):=aJs sgS M4 (jP bJo)
theorem ka3:CT 47 [.agg (bB sgS)] (.b true):=bJo ▸ aQr sgS M4 aCc
theorem ka4:CT 42 [.agg (bB sgS),elT xp1] (.b true):=(by kernel_rfl:B0 sgS xp1=true) ▸ aAf sgS xp1 M4 aCc ok1
theorem ka5:CT 42 [.agg (bB sgS),elT xp2] (.b true):=(by kernel_rfl:B0 sgS xp2=true) ▸ aAf sgS xp2 M4 aCc ok2
theorem ka6:CT 42 [.agg (bB sgS),elT xp3] (.b true):=(by kernel_rfl:B0 sgS xp3=true) ▸ aAf sgS xp3 M4 aCc ok3
theorem ka7:CT 43 [elT xp1] (ava (dZ xp1 [])):=aAe xp1 ok1 (by decide) (by decide)
theorem ka8:CT 43 [elT xp2] (ava (dZ xp2 [])):=aAe xp2 ok2 (by decide) (by decide)
theorem ka9:CT 43 [elT xp3] (ava (dZ xp3 [])):=aAe xp3 ok3 (by decide) (by decide)
theorem bXy:CT 58 [.agg (bB sgS),elT xt] (.b true):=(by kernel_rfl:(eN sgS && fY sgS xt)=true) ▸ bAe sgS xt M4 aCc okx
theorem bXx:CT 50 [dD sgS,elT xt] (.b true):=(by kernel_rfl:fY sgS xt=true) ▸ aQq sgS xt M4 okx
theorem bXw:CT 178 [.i .i64 0] (.s [48]):=(by kernel_rfl:Lib.itoa 0=[48]) ▸ aAg 0 (by decide) (by decide)
theorem bXv:CT 178 [.i .i64 1] (.s [49]):=(by kernel_rfl:Lib.itoa 1=[49]) ▸ aAg 1 (by decide) (by decide)
theorem bXu:CT 178 [.i .i64 2] (.s [50]):=(by kernel_rfl:Lib.itoa 2=[50]) ▸ aAg 2 (by decide) (by decide)
theorem bXt:CT 178 [.i .i64 6] (.s [54]):=(by kernel_rfl:Lib.itoa 6=[54]) ▸ aAg 6 (by decide) (by decide)
theorem bXs:CT 179 [elT (aLn 1)] (.s (mD (aLn 1))):=bFt (aLn 1) (aNw (by decide)) rfl (by decide) (eK (Nat.le_of_eq (by kernel_rfl:(mD (aLn 1)).length=1)) (by decide))
theorem bXr:CT 15 [.agg (bB sgS),.agg (bT xa),elT xt] (aHa (true,0)):=(by kernel_rfl:aPa sgS xa xt=(true,0)) ▸ bLr sgS xa xt M4 aCc oka okx
theorem bXq:CT 49 [dD sgS,.agg (bT xa)] (.b true):=(by kernel_rfl:C6 sgS xa=true) ▸ aAd sgS xa oka
theorem bXp:CT 49 [dD sgS,.agg (bT xa0)] (.b true):=(by kernel_rfl:C6 sgS xa0=true) ▸ aAd sgS xa0 bXh
theorem bXo:CT 49 [dD sgS,.agg (bT xa1)] (.b true):=(by kernel_rfl:C6 sgS xa1=true) ▸ aAd sgS xa1 bXg
theorem bXn:CT 49 [dD sgS,.agg (bT xa3)] (.b true):=(by kernel_rfl:C6 sgS xa3=true) ▸ aAd sgS xa3 bXf
theorem bXm:CT 181 [.sl [ava [],ava ((dZ xp1 []).drop 1)] 2] (ava ((dZ xp1 []).drop 1)):=aQi [[],(dZ xp1 []).drop 1] (by decide) (by decide)
theorem bXl:CT 181 [.sl [ava [],ava ((dZ xp1 []).drop 2)] 2] (ava ((dZ xp1 []).drop 2)):=aQi [[],(dZ xp1 []).drop 2] (by decide) (by decide)
theorem bXk:CT 181 [.sl [ava [],ava []] 2] (ava []):=aQi [[],[]] (by decide) (by decide)
theorem aOs:aSk Tryz.prog G0 (bQj aZo):=bBx fun e he=>by
 simp only [aZo,cD,List.not_mem_nil,or_false] at he
 rcases he with rfl | rfl | rfl | rfl | rfl | rfl | rfl | rfl | rfl | rfl | rfl | rfl | rfl | rfl | rfl | rfl | rfl | rfl | rfl | rfl | rfl | rfl | rfl | rfl
 all_goals dsimp only
 all_goals first | exact ka1 | exact ka2 | exact ka3 | exact ka4 | exact ka5 | exact ka6 | exact ka7 | exact ka8 | exact ka9 | exact bXy | exact bXx | exact bXw | exact bXv | exact bXu | exact bXt | exact bXs | exact bXr | exact bXq | exact bXp | exact bXo | exact bXn | exact bXm | exact bXl | exact bXk
def bRi:FuncId→How:=fun f=>if f=69 then ⟨true,true,fun i=>if i=25 then some ⟨none,[11],true,false,false,[],[101,109],0⟩ else none⟩ else if f=68 then ⟨false,true,fun i=>if i=15 then some ⟨some 2,[],true,false,false,[],[],0⟩ else none⟩ else if f=65 then ⟨true,true,fun i=>if i=6 then some ⟨none,[2],false,false,false,[69,70,71],[84,94],0⟩ else none⟩ else if f=115 then ⟨true,false,fun _=>none⟩ else {}
theorem aTo:[12,18,20,22,24,26,38,39,40,41,44,51,57,59,60,63,65,68,69,154,78,84,101,112,113,114,115,118,119,120,121,158,159,200,139,176,177,180].all (fun f=>bHf Tryz.prog (bRi f).rx (bRi f).th f)=true:=by kernel_rfl
theorem bLt:CT 12 [] (.b true):=bCh mixed g0 aOs bRi (bJc aTo) 300 (by kernel_rfl)
end Go.Proofs.YtifefbhllfdmlaaGreatDoor
namespace Go.Proofs.YtifefbhllfdmlaaGreatDoor
open Go Go.Vo
open Nat (reduceAdd reduceSub reduceMul reduceLeDiff reduceLT reduceEqDiff)
open Int (reduceNeg)

theorem bLu (s:cI) (l:List LTerm) (hs:OkS s) (hl:l.length≤1466015503701) (ho:∀ t ∈ l,OkT t): CT 10 [.agg (bB s),avt l] (.b (few s && bPq 1500 l)):=by
 refine cQ mixed Tryz.func10 g0 ?_
 · simp -implicitDefEqProofs (disch:=omega) only [Tryz.f10,go_sem,List.replicate,↓reduceIte,reduceAdd,reduceSub,reduceMul,reduceLeDiff,reduceLT,reduceEqDiff,reduceNeg,Nat.reduceBEq,avt]
   have c1:=bTf s hs
   have c2:=bMu 1500 l hl ho (by decide) (by decide)
   simp only [avt] at c2
   generalize few s=A at *
   generalize bPq 1500 l=B at *
   (refine zt2 c1 c2 ?_; repeat' first | exact trivial | refine zJ ?_ ?_ | refine zH fun hc=>?_)
   all_goals exact aG (by simp_all) rfl
def bZg (a:kD):Nat:=1+a.path.length+a.test.text.length / 40
def bOs:List kD→Nat
 | []=>0
 | a::l=>bZg a+bOs l
@[simp] theorem bOr:bOs []=0:=rfl
end Go.Proofs.YtifefbhllfdmlaaGreatDoor
namespace Go.Proofs.YtifefbhllfdmlaaGreatDoor
open Go Go.Vo
open Nat (reduceAdd reduceSub reduceMul reduceLeDiff reduceLT reduceEqDiff)
open Int (reduceNeg)

def aEx (s:cI) (t:LTerm):Bool:=decide ((argsR2 s t.text).1.length=t.kids.length) && H4 t.kids.length (fun i=>qZ s (ofR s (t.kids.getD i default)).1 ((argsR2 s t.text).1.getD i []) || qZ s ((argsR2 s t.text).1.getD i []) (ofR s (t.kids.getD i default)).1)
mutual
def tU (s:cI):LTerm→Bool
 | .mk k n x so ks rs=>(ofR s (.mk k n x so ks rs)).2 && (fitsRL s ks && (if k=5 then aEx s (.mk k n x so ks rs) else true))
def fitsRL (s:cI):List LTerm→Bool
 | []=>true
 | k::l=>tU s k && fitsRL s l
end
theorem Z0 {s:cI}:∀ l,fitsRL s l=l.all (tU s)
 | []=>rfl
 | k::l=>by rw [fitsRL,Z0 l]; rfl
theorem O2 (s:cI) (t:LTerm):tU s t=((ofR s t).2 && (t.kids.all (tU s) && (if t.kind=5 then aEx s t else true))):=by
 cases t; rw [tU,Z0]; rfl
theorem aWu (s:cI) (t:LTerm) (hm:Small s) (hs:OkS s) (ht:OkT t) (ih:∀ k ∈ t.kids,CT 190 [.agg (bB s),elT k] (.b (tU s k))): CT 190 [.agg (bB s),elT t] (.b (tU s t)):=by
 refine aE mixed Tryz.func190 g0 ?_
 · skip
   have e:=O2 s t
   have hk1:=ht.kids
   have c0:=aGq s t hs
   have c1:=bAp s t.text hs
   obtain ⟨⟨l,so,ok⟩,hq⟩:∃ p,argsR2 s t.text=p:=⟨_,rfl⟩
   obtain ⟨⟨sx,ok0⟩,ho⟩:∃ p,ofR s t=p:=⟨_,rfl⟩
   simp only [aEx,hq,ho] at e
   rw [hq] at c1
   rw [ho] at c0
   cases ok0 with
   | false=>
     (refine zt1 c0 ?_; repeat' first | exact trivial | refine zJ ?_ ?_ | refine zH fun hc=>?_)
     all_goals exact aG (by rw [e,Bool.false_and]) rfl
   | true=>
   rw [Bool.true_and] at e
   (refine zt1 c0 ?_; repeat' first | exact trivial | refine zJ ?_ ?_ | refine zH fun hc=>?_)
   refine fJ (fun (k:Nat)=>[.k,.k,.k,.k,.j,.k,.k,.k,.j,.k,.k,.k,.k,.k,.k,.k,.k,.k,.k,.k,.k,.k,.k,.k,.k,.k,.k,.v (.i .i64 (k:Nat)),.j,.j,.j,.j,.j,.j,.j,.j,.k,.k,.k,.k,.k,.k,.k,.k,.k,.k,.k,.k,.k,.k,.k,.k,.k,.k,.k,.k,.k,.k,.k,.k,.k,.k,.k,.k,.k,.k,.k,.k,.k,.k,.k,.k,.k,.k,.k,.k]) (fun k=>[.box false (bB s),.box false [.i .i64 (t).kind,.i .i64 (t).n,.s (t).text,.s (t).sort,.sl ((t).kids.flatMap aA) (t).kids.length,.sl ((t).rest.flatMap aA) (t).rest.length]]) (fun k=>k≤t.kids.length∧∀ j,j < k→tU s (t.kids.getD j default)=true) (fun k=>t.kids.length - k) (0) [] ⟨aF _,fun j h=>by omega⟩ (by simp [avs,avb,avi,avo,aI,bB]) (by simp [fD]) ?_
   rintro k g j ⟨hk,ha⟩
   have o:k < t.kids.length→CT 190 [.agg (bB s),elT (t.kids.getD k default)] (.b (tU s (t.kids.getD k default))):=fun h=>ih _ (bE h)
   refine zg ?_
   (refine zt2 o c1 ?_; repeat' first | exact trivial | refine zJ ?_ ?_ | refine zH fun hc=>?_)
   all_goals first
     | exact aG (by rw [e,wG k (by omega) hc,Bool.false_and]) rfl
     | exact ⟨k+1,_,⟨by omega,bK ha hc⟩,by omega,rfl,by simp⟩
     | skip
   all_goals rw [oJ (fun j hj=>ha j (by omega)),Bool.true_and] at e
   all_goals first
     | (exfalso; omega)
     | exact aG (by rw [e,if_neg (by assumption)]) rfl
     | exact aG (by rw [e,if_pos (by omega),zf (by omega:¬ l.length=t.kids.length),Bool.false_and]) rfl
     | skip
   have hn:l.length=t.kids.length:=by omega
   rw [if_pos (by omega),zt hn,Bool.true_and] at e
   refine fJ (fun (k:Nat)=>[.k,.k,.k,.k,.j,.k,.k,.k,.k,.k,.k,.k,.j,.j,.j,.j,.k,.k,.k,.k,.k,.k,.k,.k,.k,.k,.k,.k,.k,.k,.k,.k,.k,.k,.k,.k,.k,.k,.k,.k,.k,.k,.k,.k,.k,.k,.k,.k,.k,.k,.k,.k,.k,.k,.k,.k,.v (.i .i64 (k:Nat)),.j,.j,.j,.j,.j,.j,.j,.j,.j,.j,.j,.j,.j,.j,.j,.j,.j,.j,.j]) (fun k=>(.box false (bB s)::.box false [.i .i64 (t).kind,.i .i64 (t).n,.s (t).text,.s (t).sort,.sl ((t).kids.flatMap aA) (t).kids.length,.sl ((t).rest.flatMap aA) (t).rest.length]::g)) (fun k=>k≤t.kids.length∧∀ j,j < k→(qZ s (ofR s (t.kids.getD j default)).1 (l.getD j []) || qZ s (l.getD j []) (ofR s (t.kids.getD j default)).1)=true) (fun k=>t.kids.length - k) (0) [] ⟨aF _,fun j h=>by omega⟩ (by simp [avs,avb,avi,avo,aI,bB]) (by simp [fD]) ?_
   rintro kk g2 j2 ⟨hkk,ha2⟩
   refine zg ?_
   (refine zt2 (aGq s (t.kids.getD kk default) hs) (bSs s (ofR s (t.kids.getD kk default)).1 (l.getD kk []) hm) ?_; repeat' first | exact trivial | refine zJ ?_ ?_ | refine zH fun hc=>?_)
   all_goals first
     | exact aG (by rw [e,gW kk (by omega) hc]) rfl
     | exact ⟨kk+1,_,⟨by omega,bK ha2 hc⟩,by omega,rfl,by simp⟩
     | exact aG (by rw [e,kL (fun j hj=>ha2 j (by omega))]) rfl
     | (exfalso; omega)
theorem bLw (s:cI) (hm:Small s) (hs:OkS s):∀ (t:LTerm),OkT t→CT 190 [.agg (bB s),elT t] (.b (tU s t)):=
 dK fun t hk _ ht=>aWu s t hm hs ht (fun k hmm=>hk k hmm (ht.kid k hmm))
theorem bLx (s:cI) (t:LTerm) (hm:Small s) (hs:OkS s) (ht:OkT t): CT 132 [.agg (bB s),elT t] (.b (gD cP t && tU s t)):=by
 refine aE mixed Tryz.func132 g0 ?_
 · skip
   (refine zt2 (bAq t ht) (bLw s hm hs t ht) ?_; repeat' first | exact trivial | refine zJ ?_ ?_ | refine zH fun hc=>?_)
   all_goals exact aG rfl rfl
end Go.Proofs.YtifefbhllfdmlaaGreatDoor
namespace Go.Proofs.YtifefbhllfdmlaaGreatDoor
open Go Go.Vo
open Nat (reduceAdd reduceSub reduceMul reduceLeDiff reduceLT reduceEqDiff)
open Int (reduceNeg)
theorem aFg {t:LTerm} (h:cP t=true):1≤t.kind∧t.kind≤8:=by
 unfold cP at h
 by_cases h1:t.kind=1; · omega
 by_cases h2:t.kind=2; · omega
 by_cases h3:t.kind=3; · omega
 by_cases h4:t.kind=4; · omega
 by_cases h5:t.kind=5; · omega
 by_cases h6:t.kind=6; · omega
 by_cases h7:t.kind=7; · omega
 by_cases h8:t.kind=8; · omega
 rw [if_neg h1,if_neg h2,if_neg h3,if_neg h4,if_neg h5,if_neg h6,if_neg h7,if_neg h8] at h
 cases h

theorem aHu {s:cI} (h:eN s=true):∀ o ∈ s.funs,N7 s o=true:=by
 simp only [eN,mU,nV,pA,aC,aR,decide_eq_true_eq] at h
 exact h.2.2
theorem aJy:iF.all (fun x=>decide (aKi x=(E5 x).1) && decide (wT x=(E5 x).2) && gA.contains (wT x) && (aKi x).all gA.contains)=true:=by decide +kernel
structure aYs (s:cI) (x:Str):Prop where
 ok:(called s x).2.2=(argsR2 s x).2.2
 args:(called s x).2.2=true→(called s x).1.args=(argsR2 s x).1
 sort:(called s x).2.2=true→(called s x).1.sort=(argsR2 s x).2.1
 exS:(called s x).2.2=true→existsA s (called s x).1.sort=true
 exA:(called s x).2.2=true→∀ y ∈ (called s x).1.args,existsA s y=true
 no:(called s x).2.2=false→(called s x).1.sort=[]
theorem aAn {s:cI} {x:Str} (hv:eN s=true):aYs s x:=by
 cases h1:N2 s x with
 | some o=>
   have ho:=S7 hv o (aEz h1)
   have hs:=aNq ho
   simp only [aOx,opHead,aC,aR] at ho
   have ha:=ho.1.1.1.1.1.1.2
   constructor <;> simp only [called,argsR2,h1] <;> intros <;> first | rfl | exact hs | exact ha _ ‹_› | trivial | contradiction
 | none=>
   cases h2:C8 s x with
   | some o=>
     have ho:=aHu hv o (nT h2)
     simp only [N7,aC,aR] at ho
     have ha:=ho.1.1.2
     have hs:=ho.1.2
     constructor <;> simp only [called,argsR2,h1,h2] <;> intros <;> first | rfl | exact hs | exact ha _ ‹_› | trivial | contradiction
   | none=>
     rcases gM (iF.contains x) with h3 | h3
     · have hb:=aR.1 aJy x (eM.1 h3)
       simp only [aC,decide_eq_true_eq,aR] at hb
       obtain ⟨⟨⟨b1,b2⟩,b3⟩,b4⟩:=hb
       have hs:existsA s (wT x)=true:=jU (eM.1 b3)
       have ha:∀ y ∈ aKi x,existsA s y=true:=fun y hy=>jU (eM.1 (b4 y hy))
       constructor <;> simp only [called,argsR2,h1,h2,sC,h3,if_true] <;> intros <;> first | rfl | exact b1 | exact b2 | exact hs | exact ha _ ‹_› | trivial | contradiction
     · constructor <;> simp only [called,argsR2,h1,h2,sC,h3,aP,if_false] <;> intros <;> first | rfl | trivial | contradiction
theorem bDn {s:cI} {t:LTerm} (hv:eN s=true) (hn:cP t=true):((ofR s t).2=true→iL s t=(ofR s t).1∧existsA s (iL s t)=true)∧((ofR s t).2=false→iL s t=[]):=by
 have hk:=aFg hn
 have hc:=aAn (x:=t.text) hv
 by_cases h5:t.kind=5
 · simp only [iL,ofR,h5,Int.reduceEq,if_true,if_false]
   rw [← hc.ok]
   exact ⟨fun h=>⟨hc.sort h,hc.exS h⟩,hc.no⟩
 by_cases h6:t.kind=6
 · simp only [iL,ofR,h6,Int.reduceEq,if_true,if_false,exists_eq]
   exact ⟨fun h=>by rw [if_pos h]; exact ⟨rfl,h⟩,fun h=>by rw [if_neg (by rw [h]; simp)]⟩
 have e:∀ (a:Str),a ∈ gA→(True→True∧existsA s a=true)∧(true=false→a=[]):=fun a ha=>⟨fun _=>⟨trivial,jU ha⟩,fun h=>by cases h⟩
 by_cases h1:t.kind=1
 · simp only [iL,ofR,h1,Int.reduceEq,if_true,if_false]; exact e kJ (by decide)
 by_cases h2:t.kind=2
 · simp only [iL,ofR,h2,Int.reduceEq,if_true,if_false]; exact e kT (by decide)
 by_cases h3:t.kind=3
 · simp only [iL,ofR,h3,Int.reduceEq,if_true,if_false]; exact e wP (by decide)
 by_cases h4:t.kind=4
 · simp only [iL,ofR,h4,Int.reduceEq,if_true,if_false]; exact e idS (by decide)
 by_cases h7:t.kind=7
 · simp only [iL,ofR,h7,Int.reduceEq,if_true,if_false]; exact e nC (by decide)
 have h8:t.kind=8:=by omega
 simp only [iL,ofR,h8,Int.reduceEq,if_true,if_false]; exact e C2 (by decide)
theorem bEx {s:cI} (hv:eN s=true):∀ t:LTerm,wfT cP t=true→tU s t=pR s t:=
 dK (Q := fun t=>wfT cP t=true→tU s t=pR s t) fun t hk _ hw=>by
   have hw':=mE.1 hw
   have ek:t.kids.all (tU s)=t.kids.all (pR s):=all_congr fun x hx=>hk x hx (hw'.2 x hx)
   rw [O2,aFz,ek]
   rcases gM (t.kids.all (pR s)) with ha | ha
   · rw [ha, Bool.true_and,Bool.true_and]
     have hc:=aAn (x:=t.text) hv
     by_cases h6:t.kind=6
     · rw [if_pos h6,if_neg (by omega),Bool.and_true]
       simp only [ofR,h6,Int.reduceEq,if_true,if_false,exists_eq]
     rw [if_neg h6]
     by_cases h5:t.kind=5
     · rw [if_pos h5,if_pos h5,aEy,aEx]
       have e2:(ofR s t).2=(called s t.text).2.2:=by simp only [ofR,h5,Int.reduceEq,if_true,if_false]; exact hc.ok.symm
       rw [e2]
       rcases gM (called s t.text).2.2 with ho | ho
       · rw [ho,Bool.true_and,Bool.true_and,← hc.args ho]
         by_cases hn:(called s t.text).1.args.length=t.kids.length
         · rw [zt hn,Bool.true_and,Bool.true_and]
           refine xG fun j hj=>?_
           have hm:t.kids.getD j default ∈ t.kids:=bE hj
           have hf:tU s (t.kids.getD j default)=true:=by rw [hk _ hm (hw'.2 _ hm)]; exact aR.1 ha _ hm
           have hof:(ofR s (t.kids.getD j default)).2=true:=by rw [O2,aC] at hf; exact hf.1
           have q:=(bDn hv (mE.1 (hw'.2 _ hm)).1).1 hof
           have hx:existsA s ((called s t.text).1.args.getD j [])=true:=hc.exA ho _ (by
             have:j < (called s t.text).1.args.length:=by omega
             simp only [List.getD,aT this,dU]
             exact uC this)
           rw [← q.1,yQ q.2,yQ hx,aOg]
         · rw [zf hn,Bool.false_and,Bool.false_and]
       · rw [ho,Bool.false_and,Bool.false_and]
     · rw [if_neg h5,if_neg h5,Bool.and_true]
       have hkk:=aFg hw'.1
       simp only [ofR]
       repeat' split
       all_goals first | rfl | omega
   · rw [ha,Bool.false_and,Bool.false_and,Bool.and_false]
end Go.Proofs.YtifefbhllfdmlaaGreatDoor
namespace Go.Proofs.YtifefbhllfdmlaaGreatDoor
open Go Go.Vo
open Nat (reduceAdd reduceSub reduceMul reduceLeDiff reduceLT reduceEqDiff)
open Int (reduceNeg)

theorem I2 {t:LTerm} (h:gD cP t=true):highT t≤1000∧nodesT t≤2000:=by
 simp only [gD,aC,decide_eq_true_eq] at h
 omega
theorem bEy (s:cI) (t:LTerm) (hm:Small s) (hs:OkS s) (ht:OkT t) (hv:eN s=true):CT 132 [.agg (bB s),elT t] (.b (gD cP t && pR s t)):=by
 have c:=bLx s t hm hs ht
 rcases gM (gD cP t) with h | h
 · rwa [bEx hv t (pZ h)] at c
 · rw [h,Bool.false_and] at c ⊢
   exact c
end Go.Proofs.YtifefbhllfdmlaaGreatDoor
namespace Go.Proofs.YtifefbhllfdmlaaGreatDoor
open Go Go.Vo
open Nat (reduceAdd reduceSub reduceMul reduceLeDiff reduceLT reduceEqDiff)
open Int (reduceNeg)

theorem bLk (l:List kD) (f:FuncId) (a b:List AV) (p:kD→Bool) (hl:l.length≤1000000) (ha:persL a=true) (hb:persL b=true) (hw:∀ k,k < l.length→CT f (a++[.agg (bT (l.getD k default))]++b) (.b (p (l.getD k default)))): CT 63 [ava l,.fn f a b] (.i .i64 (idx p l)):=by
 refine cQ mixed Tryz.func63 g0 ?_
 · simp -implicitDefEqProofs (disch:=omega) only [Tryz.f63,go_sem,List.replicate,↓reduceIte,reduceAdd,reduceSub,reduceMul,reduceLeDiff,reduceLT,reduceEqDiff,reduceNeg,Nat.reduceBEq,ava]
   (refine zs0 ?_; repeat' first | exact trivial | refine zJ ?_ ?_ | refine zH fun hc=>?_)
   refine bQ (fun (k:Nat)=>[.k,.k,.k,.k,.j,.j,.k,.k,.v (.i .i64 (k:Nat)),.j,.j,.j,.j,.j,.j,.j,.j,.j,.j]) (fun k=>[]) (fun k=>k≤l.length∧∀ j,j < k→p (l.getD j default)=false) (fun k=>l.length - k) (0) ⟨aF _,fun j h=>by omega⟩ rfl (by simp [fD]) ?_
   rintro k j ⟨hk,hn⟩
   refine zg ?_
   (refine zs0 ?_; repeat' first | exact trivial | refine zJ ?_ ?_ | refine zH fun hc=>?_)
   · refine aY (hw k (by omega)) ?_ ?_
     · exact zv (zA2 @aV.{0,0} (zA2 (fun h=>pB (h:=h) ha) (zA2 (fun h=>pB (h:=h) hb) (zA2 @bT.eq_1 @avt.eq_1))))
     · refine zg ?_
       (refine zs0 ?_; repeat' first | exact trivial | refine zJ ?_ ?_ | refine zH fun hc=>?_)
       · refine aG ?_ (by rfl)
         rw [oD (d:=default) (k:=k) (by omega) hc hn]
       · exact ⟨k+1,⟨by omega,lG hn hc⟩,by omega,by simp⟩
   · refine aG ?_ (by rfl)
     have h1:k=l.length:=by omega
     rw [oE (h1 ▸ hn)]
theorem bLm (l:List kD) (f:FuncId) (a b:List AV) (p:kD→Bool) (hl:l.length≤1000000) (ha:persL a=true) (hb:persL b=true) (hw:∀ k,k < l.length→CT f (a++[.agg (bT (l.getD k default))]++b) (.b (p (l.getD k default)))): CT 59 [ava l,.fn f a b] (.b (l.any p)):=by
 refine cQ mixed Tryz.func59 g0 ?_
 · simp -implicitDefEqProofs (disch:=omega) only [Tryz.f59,go_sem,List.replicate,↓reduceIte,reduceAdd,reduceSub,reduceMul,reduceLeDiff,reduceLT,reduceEqDiff,reduceNeg,Nat.reduceBEq,ava]
   have c:=bLk l f a b p hl ha hb hw
   simp only [ava] at c
   refine aY c ?_ ?_
   · exact zv (zA2 ha hb)
   · refine zg ?_
     refine aG ?_ (by rfl)
     rw [rV]
theorem bOe (l:List LTerm) (f:FuncId) (a b:List AV) (p:LTerm→Bool) (hl:l.length≤1466015503701) (ha:persL a=true) (hb:persL b=true) (hw:∀ k,k < l.length→CT f (a++[elT (l.getD k default)]++b) (.b (p (l.getD k default)))): CT 176 [avt l,.fn f a b] (.i .i64 (idx p l)):=by
 refine aE mixed Tryz.func176 g0 ?_
 · skip
   refine bQ (fun (k:Nat)=>[.k,.k,.k,.k,.j,.j,.k,.k,.v (.i .i64 k),.j,.j,.j,.j,.j,.j,.j,.j,.j,.j]) (fun k=>[]) (fun k=>k≤l.length∧∀ j,j < k→p (l.getD j default)=false) (fun k=>l.length - k) (0) ⟨aF _,fun j h=>by omega⟩ rfl (by simp [fD]) ?_
   rintro k j ⟨hk,hn⟩
   refine zg ?_
   (refine zs0 ?_; repeat' first | exact trivial | refine zJ ?_ ?_ | refine zH fun hc=>?_)
   · refine aY (hw k (by omega)) ?_ ?_
     · exact zv (zA2 @aV.{0,0} (zA2 (fun h=>pB (h:=h) ha) (zA2 (fun h=>pB (h:=h) hb) (zA2 @elT.eq_1 @aW))))
     · refine zg ?_
       (refine zs0 ?_; repeat' first | exact trivial | refine zJ ?_ ?_ | refine zH fun hc=>?_)
       · refine aG ?_ (by rfl)
         rw [oD (d:=default) (k:=k) (by omega) hc hn]
       · exact ⟨k+1,⟨by omega,lG hn hc⟩,by omega,by simp⟩
   · refine aG ?_ (by rfl)
     have h1:k=l.length:=by omega
     rw [oE (h1 ▸ hn)]
theorem bOf (l:List LTerm) (f:FuncId) (a b:List AV) (p:LTerm→Bool) (hl:l.length≤1466015503701) (ha:persL a=true) (hb:persL b=true) (hw:∀ k,k < l.length→CT f (a++[elT (l.getD k default)]++b) (.b (p (l.getD k default)))): CT 112 [avt l,.fn f a b] (.b (l.any p)):=by
 refine aE mixed Tryz.func112 g0 ?_
 · skip
   refine aY (bOe l f a b p hl ha hb hw) ?_ ?_
   · exact zv (zA2 ha (zA2 hb @avt.eq_1))
   · refine zg ?_
     refine aG ?_ (by rfl)
     rw [rV]
theorem bLb (s:cI) (p:LTerm) (hm:Small s) (hs:OkS s) (ht:OkT p): CT 113 [elT p,.box (bB s) 0] (.b (!B0 s p)):=by
 refine aE mixed Tryz.func113 g0 ?_
 · skip
   have c:=aAf s p hm hs ht
   (refine zt1 c ?_; repeat' first | exact trivial | refine zJ ?_ ?_ | refine zH fun hc=>?_)
   all_goals exact aG (by simp_all) rfl
def mX (s:cI) (l:List LTerm):Bool:=eN s && (decide (l.length≤100) && l.all (B0 s))
theorem bLn (s:cI) (l:List LTerm) (hm:Small s) (hs:OkS s) (hl:l.length≤1466015503701) (ho:∀ t ∈ l,OkT t): CT 57 [.agg (bB s),avt l] (.b (mX s l)):=by
 refine cQ mixed Tryz.func57 g0 ?_
 · simp -implicitDefEqProofs (disch:=omega) only [Tryz.f57,go_sem,List.replicate,↓reduceIte,reduceAdd,reduceSub,reduceMul,reduceLeDiff,reduceLT,reduceEqDiff,reduceNeg,Nat.reduceBEq,avt]
   have c1:=aQr s hm hs
   have c2:=bOf l 113 [] [.box (bB s) 0] (fun t => !B0 s t) hl rfl (by simp [persL,pers,aNe]) (fun k hk=>bLb s _ hm hs (ho _ (bE hk)))
   have e:(l.any fun t => !B0 s t) = !l.all (B0 s):=List.not_all_eq_any_not.symm
   rw [e] at c2
   rw [mX]
   simp only [avt] at c2
   generalize eN s=A at *
   generalize l.all (B0 s)=B at *
   (refine zt2 c1 c2 ?_; repeat' first | exact trivial | refine zJ ?_ ?_ | refine zH fun hc=>?_)
   all_goals exact aG (by (simp_all) <;> (intros; omega)) rfl
structure OkP (a:kD):Prop where
 test:OkX a.test
 len:a.path.length≤1000
 ints:∀ i ∈ a.path,0≤i∧i≤1466015503701
theorem OkP.k {a:kD} (h:OkP a):OkK a:=⟨h.test,by have:=h.len; omega⟩
theorem aLf:∀ (t:LTerm),OkT t→∀ p:List Int,p.length+highT t≤1000→(∀ i ∈ p,0≤i∧i≤1466015503701)→∀ a ∈ dZ t p,OkP a:=
 dK (Q := fun t=>OkT t→∀ p:List Int,p.length+highT t≤1000→(∀ i ∈ p,0≤i∧i≤1466015503701)→∀ a ∈ dZ t p,OkP a) fun t hk _ ht p hp hi=>by
   have e:=qM t
   have hkk:=ht.kids
   have L:∀ (l:List LTerm) (i:Nat),(∀ k ∈ l,k ∈ t.kids)→i+l.length≤t.kids.length→p.length+1+highL l≤1000→∀ a ∈ testsL l p i,OkP a:=by
     intro l
     induction l with
     | nil=>intro i _ _ _ a ha; simp [testsL] at ha
     | cons x l ih=>
       intro i hm hil hh a ha
       rw [highL] at hh
       rw [aL] at hil
       rw [testsL,bC] at ha
       rcases ha with ha | ha
       · refine hk x (hm x (by simp)) (ht.kid x (hm x (by simp))) (p++[(i:Int)]) (by simp only [List.length_append,aL,bG]; omega) ?_ a ha
         intro j hj
         rcases bC.1 hj with hj | hj
         · exact hi j hj
         · rw [aU] at hj; omega
       · exact ih (i+1) (fun k hk=>hm k (by simp [hk])) (by omega) (by omega) a ha
   have z:∀ (te:LTest),OkX te→OkP ⟨p,te⟩:=fun te h=>⟨h,by show p.length≤1000; omega,hi⟩
   have zz:∀ {op n:Int} {x:Str},x.length≤140737488355328→OkX ⟨op,zT,x,n⟩:=fun h=>⟨aNt,h⟩
   intro a ha
   rw [lL] at ha
   split at ha
   · rcases cD.1 ha with rfl | ha
     · exact z _ (zz ht.text)
     · exact L t.kids 0 (fun k hk=>hk) (by omega) (by omega) a ha
   · split at ha
     · rcases cD.1 ha with rfl | ha
       · exact z _ (zz (by simp))
       · exact L t.kids 0 (fun k hk=>hk) (by omega) (by omega) a ha
     · split at ha
       · rw [aU] at ha; subst ha; exact z _ (zz (by simp))
       · split at ha
         · split at ha
           · cases ha
           · rw [aU] at ha; subst ha; exact z _ (zz ht.sort)
         · rw [aU] at ha; subst ha; exact z _ ⟨ht,by simp⟩
def wW (s:cI) (t p:LTerm):Bool:=(dZ p []).all fun a=>oF s a t
def iO (s:cI) (t:LTerm):List LTerm→Nat→List Int
 | [],_=>[]
 | p::l,i=>(if wW s t p=true then [(i:Int)] else [])++iO s t l (i+1)
theorem xD {s:cI} {t:LTerm}:∀ {l:List LTerm} {i k:Nat},k < l.length→iO s t (l.take (k+1)) i=iO s t (l.take k) i++(if wW s t (l.getD k default)=true then [((i+k:Nat):Int)] else [])
 | p::l,i,0,_=>by simp [iO]
 | p::l,i,k+1,h=>by
   rw [cV,iO,cV,iO,xD (k:=k) (by simpa using h),bS,show i+1+k=i+(k+1) by omega]; simp
 | [],_,_,h=>by simp at h
theorem wC {s:cI} {t:LTerm}:∀ {l:List LTerm} {i:Nat},(iO s t l i).length≤l.length
 | [],i=>by simp [iO]
 | p::l,i=>by
   have:=wC (l:=l) (i:=i+1) (s:=s) (t:=t)
   rw [iO,List.length_append,aL]
   split <;> simp <;> omega
def aDd (s:cI) (l:List LTerm) (t:LTerm):List Int × Int:=if (mX s l && (eN s && fY s t))=true then (iO s t l 0,0) else ([],2)
def aGw (r:List Int × Int):AV:=.tup [.sl (ints r.1) r.1.length,.i .i64 r.2]
theorem bLl (s:cI) (a:kD) (t:LTerm) (hs:Small s) (ha:OkK a) (ht:OkT t): CT 60 [.agg (bT a),.box [dD s] 0,.box (aA t) 0] (.b (!oF s a t)):=by
 refine cQ mixed Tryz.func60 g0 ?_
 · simp -implicitDefEqProofs (disch:=omega) only [Tryz.f60,go_sem,List.replicate,↓reduceIte,reduceAdd,reduceSub,reduceMul,reduceLeDiff,reduceLT,reduceEqDiff,reduceNeg,Nat.reduceBEq,bT,avt,aW]
   have c:=bAd s a t hs ha.test ha.path ht
   simp only [bT,avt] at c
   (refine zt1 c ?_; repeat' first | exact trivial | refine zJ ?_ ?_ | refine zH fun hc=>?_)
   all_goals exact aG rfl rfl
end Go.Proofs.YtifefbhllfdmlaaGreatDoor

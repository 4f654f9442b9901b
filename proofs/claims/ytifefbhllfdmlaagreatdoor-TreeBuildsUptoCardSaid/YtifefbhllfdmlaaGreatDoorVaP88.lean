/-
  What functions of the chapter return, as plain functions of what they are given; no condition beyond those that each theorem names.
-/
import Derived.Test.YtifefbhllfdmlaaGreatDoorVaP87
set_option maxRecDepth 100000
set_option linter.unusedSimpArgs false
set_option linter.unusedVariables false
set_option maxHeartbeats 4000000
namespace Go.Proofs.YtifefbhllfdmlaaGreatDoor
open Go Go.Vo
open Nat (reduceAdd reduceSub reduceMul reduceLeDiff reduceLT reduceEqDiff)
open Int (reduceNeg)

theorem bPo (b:Bool): CT 267 [.b b] (.s (aFo b)):=by
 refine aL mixed Tryz.func267 g0 ?_
 · skip
   (refine zs0 ?_; repeat' first | exact trivial | refine zJ ?_ ?_ | refine zH fun hc=>?_)
   all_goals (refine aF (congrArg AV.s ?_) rfl; simp_all [aFo])
theorem bPp (b:Bool): CT 246 [.b b] (.s (aFo b)):=by
 refine aL mixed Tryz.func246 g0 ?_
 · skip
   (refine zt1 (bPo b) ?_; repeat' first | exact trivial | refine zJ ?_ ?_ | refine zH fun hc=>?_)
   all_goals exact aF rfl rfl
theorem bEu (t:LTerm) (acc:Str) (v:Value) (ht:OkT t) (hk:t.kind=2) (hn:OkT t) (hf:acc.length+(hJ t).length≤140737488355328): ACalls Tryz.prog G0 219 [.ptr 0 0,elT t] [qW TW v,tA TB v acc] (WrK (acc++hJ t)):=by
 refine dF (rx:=false) (th:=fun _=>some ⟨none,[],false,false,true,[],[]⟩) mixed Tryz.func219 ?_
 · simp -implicitDefEqProofs (disch:=omega) only [Tryz.f219,go_sem,List.replicate,↓reduceIte,reduceAdd,reduceSub,reduceMul,reduceLeDiff,reduceLT,reduceEqDiff,reduceNeg,Nat.reduceBEq]
   have e:=pV t
   have hl:=congrArg List.length e
   have n1:¬ t.kind=1:=by omega
   rw [if_neg n1,if_pos hk] at e hl
   have w1:=wrS (acc:=acc) (s:=aFo (decide (t.n=1))) (by omega)
   refine zh (zA2 (zf n1) (zt hk)) ?_
   (repeat' (first | refine gT ?_ ?_ | refine gF ?_ ?_ | refine gC ?_ ?_ | ((refine bF (bPp (decide (t.n=1))) ?_ ?_; (focus (simp -implicitDefEqProofs (disch:=omega) only [zf n1,zt hk,zdB,go_sem,↓reduceIte,reduceAdd,reduceSub,reduceMul,reduceLeDiff,reduceLT,reduceEqDiff,reduceNeg,Nat.reduceBEq]; done))); simp -implicitDefEqProofs (disch:=omega) only [zf n1,zt hk,go_sem,↓reduceIte,reduceAdd,reduceSub,reduceMul,reduceLeDiff,reduceLT,reduceEqDiff,reduceNeg,Nat.reduceBEq]) | (refine aMm 0 1 g0 (w1) rfl (by decide) rfl rfl (by first | rfl | (simp only [renL,ren,elT,bC,avt,renL_pers _ _ iH,aZe]; done)) ?_; intro v9 g9; simp -implicitDefEqProofs (disch:=omega) only [zf n1,zt hk,go_sem,↓reduceIte,reduceAdd,reduceSub,reduceMul,reduceLeDiff,reduceLT,reduceEqDiff,reduceNeg,Nat.reduceBEq]) | refine bB (by omega) ?_ | (intro hr; have hc:=hr; (try simp only [zdz] at hc); simp -implicitDefEqProofs (disch:=omega) only [hr,zf n1,zt hk,go_sem,↓reduceIte,reduceAdd,reduceSub,reduceMul,reduceLeDiff,reduceLT,reduceEqDiff,reduceNeg,Nat.reduceBEq]; (try clear hr))))
   all_goals exact aGc (by rw [e])
theorem bEt (t:LTerm) (acc:Str) (v:Value) (ht:OkT t) (hk:t.kind=3) (hn:OkT t) (hf:acc.length+(hJ t).length≤140737488355328): ACalls Tryz.prog G0 219 [.ptr 0 0,elT t] [qW TW v,tA TB v acc] (WrK (acc++hJ t)):=by
 refine dF (rx:=false) (th:=fun _=>some ⟨none,[],false,false,true,[],[]⟩) mixed Tryz.func219 ?_
 · simp -implicitDefEqProofs (disch:=omega) only [Tryz.f219,go_sem,List.replicate,↓reduceIte,reduceAdd,reduceSub,reduceMul,reduceLeDiff,reduceLT,reduceEqDiff,reduceNeg,Nat.reduceBEq]
   have e:=pV t
   have hl:=congrArg List.length e
   have n1:¬ t.kind=1:=by omega
   have n2:¬ t.kind=2:=by omega
   rw [if_neg n1,if_neg n2,if_pos hk] at e hl
   simp only [aE,aI,aX] at hl
   have w1:=wrS (acc:=acc) (s:=34::(t.text++[34])) (by simp only [aE,aI,aX]; omega)
   refine zh (zA2 (zf n1) (zA2 (zf n2) (zt hk))) ?_
   (repeat' (first | refine gT ?_ ?_ | refine gF ?_ ?_ | refine gC ?_ ?_ | (refine aMm 0 1 g0 (w1) rfl (by decide) rfl rfl (by first | rfl | (simp only [renL,ren,elT,bC,avt,renL_pers _ _ iH,aZe]; done)) ?_; intro v9 g9; simp -implicitDefEqProofs (disch:=omega) only [zf n1,zf n2,zt hk,go_sem,↓reduceIte,reduceAdd,reduceSub,reduceMul,reduceLeDiff,reduceLT,reduceEqDiff,reduceNeg,Nat.reduceBEq]) | refine bB (by omega) ?_ | (intro hr; have hc:=hr; (try simp only [zdz] at hc); simp -implicitDefEqProofs (disch:=omega) only [hr,zf n1,zf n2,zt hk,go_sem,↓reduceIte,reduceAdd,reduceSub,reduceMul,reduceLeDiff,reduceLT,reduceEqDiff,reduceNeg,Nat.reduceBEq]; (try clear hr))))
   all_goals exact aGc (by rw [e])
theorem bEs (t:LTerm) (acc:Str) (v:Value) (ht:OkT t) (hk:t.kind=4) (hn:OkT t) (hf:acc.length+(hJ t).length≤140737488355328): ACalls Tryz.prog G0 219 [.ptr 0 0,elT t] [qW TW v,tA TB v acc] (WrK (acc++hJ t)):=by
 refine dF (rx:=false) (th:=fun _=>some ⟨none,[],false,false,true,[],[]⟩) mixed Tryz.func219 ?_
 · simp -implicitDefEqProofs (disch:=omega) only [Tryz.f219,go_sem,List.replicate,↓reduceIte,reduceAdd,reduceSub,reduceMul,reduceLeDiff,reduceLT,reduceEqDiff,reduceNeg,Nat.reduceBEq]
   have e:=pV t
   have hl:=congrArg List.length e
   have n1:¬ t.kind=1:=by omega
   have n2:¬ t.kind=2:=by omega
   have n3:¬ t.kind=3:=by omega
   rw [if_neg n1,if_neg n2,if_neg n3,if_pos hk] at e hl
   simp only [aE,aI,aX] at hl
   have w1:=wrS (acc:=acc) (s:=39::t.text) (by simp only [aE,aI,aX]; omega)
   refine zh (zA2 (zf n1) (zA2 (zf n2) (zA2 (zf n3) (zt hk)))) ?_
   (repeat' (first | refine gT ?_ ?_ | refine gF ?_ ?_ | refine gC ?_ ?_ | (refine aMm 0 1 g0 (w1) rfl (by decide) rfl rfl (by first | rfl | (simp only [renL,ren,elT,bC,avt,renL_pers _ _ iH,aZe]; done)) ?_; intro v9 g9; simp -implicitDefEqProofs (disch:=omega) only [zf n1,zf n2,zf n3,zt hk,go_sem,↓reduceIte,reduceAdd,reduceSub,reduceMul,reduceLeDiff,reduceLT,reduceEqDiff,reduceNeg,Nat.reduceBEq]) | refine bB (by omega) ?_ | (intro hr; have hc:=hr; (try simp only [zdz] at hc); simp -implicitDefEqProofs (disch:=omega) only [hr,zf n1,zf n2,zf n3,zt hk,go_sem,↓reduceIte,reduceAdd,reduceSub,reduceMul,reduceLeDiff,reduceLT,reduceEqDiff,reduceNeg,Nat.reduceBEq]; (try clear hr))))
   all_goals exact aGc (by rw [e])
theorem bKy (t:LTerm) (ht:OkT t) (hk:1≤t.kind∧t.kind≤4) (hn:nodeB t=true):WrT t:=fun acc hf v=>by
 rcases (by omega:t.kind=1∨t.kind=2∨t.kind=3∨t.kind=4) with h | h | h | h
 · rw [nodeB,if_pos h,aA] at hn
   exact aNn t acc v ht h hn.1 hf
 · exact bEu t acc v ht h ht hf
 · exact bEt t acc v ht h ht hf
 · exact bEs t acc v ht h ht hf
theorem bIz (t:LTerm) (ht:OkT t) (hk:1≤t.kind∧t.kind≤4) (hn:nodeB t=true) (hl:(hJ t).length≤140737488355328):CT 179 [elT t] (.s (hJ t)):=by
 have hz0:(Tryz.prog.info? TW).map (fun i=>i.zero.map (·.cells))=some (some #[.pointer Option.none,W7]):=by kernel_rfl
 obtain ⟨i,hi,hz1⟩:=bI.1 hz0
 obtain ⟨z,hz,hc⟩:=bI.1 hz1
 refine aOv Tryz.func179 rfl (by kernel_rfl) g0 ?_
 refine aJm ?_
 refine rD (rx:=false) (th:=fun _=>none) mixed _ (ac:=?_) (by kernel_rfl) ?_ _ _ _ ?_
 rotate_left
 · simp only [strip,rP,aKy,RX.off,ckF,ckX,zOf,exd,vOf,cG,kN,eJ,jV,sC,cV,iX,cH,bR,iN,anyPre,Region.binds,Bool.not_true,Bool.not_false,aM,if_true,if_false,gL,fX,Bool.true_and,Bool.false_and,bN,aT,eD,eS,List.append_nil]
   rfl
 · simp -implicitDefEqProofs (disch:=omega) only [Tryz.f179,go_sem,List.replicate,↓reduceIte,reduceAdd,reduceSub,reduceMul,reduceLeDiff,reduceLT,reduceEqDiff,reduceNeg,Nat.reduceBEq]
   refine aJm (bEh TB rfl rfl hi hz hc ?_)
   refine rD (rx:=false) (th:=fun _=>none) mixed _ (ac:=?_) (by kernel_rfl) ?_ _ _ _ ?_
   rotate_left
   · simp only [strip,rP,aKy,RX.off,ckF,ckX,zOf,exd,vOf,cG,kN,eJ,jV,sC,cV,iX,cH,bR,iN,anyPre,Region.binds,Bool.not_true,Bool.not_false,aM,if_true,if_false,gL,fX,Bool.true_and,Bool.false_and,bN,aT,eD,eS,List.append_nil]
     rfl
   · refine zg ?_
     refine aMm 1 2 g0 (bKy t ht hk hn [] (by simpa using hl)) rfl (by decide) rfl rfl (by simp only [renL,ren,elT,bC,avt,renL_pers _ _ iH,bNg]) ?_
     intro v9 g9
     refine zg ?_
     refine bEf 1 2 g0 bXi (by decide) rfl rfl rfl ?_
     refine zg ?_
     exact aF rfl rfl
end Go.Proofs.YtifefbhllfdmlaaGreatDoor

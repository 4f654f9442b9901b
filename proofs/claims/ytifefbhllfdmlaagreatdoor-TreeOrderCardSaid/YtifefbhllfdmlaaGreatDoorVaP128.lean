/-
  What functions of the chapter return, as plain functions of what they are given; no condition beyond those that each theorem names.
-/
import Derived.Test.YtifefbhllfdmlaaGreatDoorVaP127
set_option maxRecDepth 100000
set_option linter.unusedSimpArgs false
set_option linter.unusedVariables false
set_option maxHeartbeats 4000000
namespace Go.Proofs.YtifefbhllfdmlaaGreatDoor
open Go Go.Vo
open Nat (reduceAdd reduceSub reduceMul reduceLeDiff reduceLT reduceEqDiff)
open Int (reduceNeg)

theorem bGe (b:Bool): CT 267 [.b b] (.s (aAu b)):=by
 refine aQ mixed Tryz.func267 g0 ?_
 · skip
   (refine zs0 ?_; repeat' first | exact trivial | refine zJ ?_ ?_ | refine zH fun hc=>?_)
   all_goals (refine aP (congrArg AV.s ?_) rfl; simp_all [aAu])
theorem bGf (b:Bool): CT 246 [.b b] (.s (aAu b)):=by
 refine aQ mixed Tryz.func246 g0 ?_
 · skip
   (refine zt1 (bGe b) ?_; repeat' first | exact trivial | refine zJ ?_ ?_ | refine zH fun hc=>?_)
   all_goals exact aP rfl rfl
theorem aXc (t:LTerm) (acc:Str) (v:Value) (ht:OkT t) (hk:t.kind=2) (hn:OkT t) (hf:acc.length+(gW t).length≤140737488355328): ACalls Tryz.prog G0 219 [.ptr 0 0,elT t] [oQ TW v,qT TB v acc] (WrK (acc++gW t)):=by
 refine fO (rx:=false) (th:=fun _=>some ⟨none,[],false,false,true,[],[],0⟩) mixed Tryz.func219 rfl (by kernel_rfl) (by kernel_rfl) (ac:=?_) ?_ ?_
 rotate_left
 · simp only [strip,kC,A7,RX.off,ckF,ckX,zOf,exd,vOf,bL,bB,bU,bR,bC,bS,aW,bC,dO,dK,gL,lI,bV,dQ,bJ,aU,fN,anyPre,Region.binds,bX,bY,aH,if_true,if_false,cS,cR,aM,aS,bE,aO,bL,bB,List.append_nil,jX,kS,lG,Nat.reduceBEq,dH]
   rfl
 · simp -implicitDefEqProofs (disch:=omega) only [Tryz.f219,go_sem,List.replicate,↓reduceIte,reduceAdd,reduceSub,reduceMul,reduceLeDiff,reduceLT,reduceEqDiff,reduceNeg,Nat.reduceBEq]
   have e:=nW t
   have hl:=congrArg List.length e
   have n1:¬ t.kind=1:=by omega
   rw [if_neg n1,if_pos hk] at e hl
   have w1:=wrS (acc:=acc) (s:=aAu (decide (t.n=1))) (by omega)
   refine zh (zA2 (zf n1) (zt hk)) ?_
   (repeat' (first | refine gT ?_ ?_ | refine gF ?_ ?_ | refine gC ?_ ?_ | ((refine bI (bGf (decide (t.n=1))) ?_ ?_; (focus (simp -implicitDefEqProofs (disch:=omega) only [zf n1,zt hk,zdB,go_sem,↓reduceIte,reduceAdd,reduceSub,reduceMul,reduceLeDiff,reduceLT,reduceEqDiff,reduceNeg,Nat.reduceBEq]; done))); simp -implicitDefEqProofs (disch:=omega) only [zf n1,zt hk,go_sem,↓reduceIte,reduceAdd,reduceSub,reduceMul,reduceLeDiff,reduceLT,reduceEqDiff,reduceNeg,Nat.reduceBEq]) | (refine aGi 0 1 g0 (w1) rfl (by decide) rfl rfl (by first | rfl | (simp only [renL,ren,elT,bT,avt,renL_pers _ _ iF,aSo]; done)) ?_; intro v9 g9; simp -implicitDefEqProofs (disch:=omega) only [zf n1,zt hk,go_sem,↓reduceIte,reduceAdd,reduceSub,reduceMul,reduceLeDiff,reduceLT,reduceEqDiff,reduceNeg,Nat.reduceBEq]) | refine bM (by omega) ?_ | (intro hr; have hc:=hr; (try simp only [zdz] at hc); simp -implicitDefEqProofs (disch:=omega) only [hr,zf n1,zt hk,go_sem,↓reduceIte,reduceAdd,reduceSub,reduceMul,reduceLeDiff,reduceLT,reduceEqDiff,reduceNeg,Nat.reduceBEq]; (try clear hr))))
   all_goals exact aBi (by rw [e])
theorem aXb (t:LTerm) (acc:Str) (v:Value) (ht:OkT t) (hk:t.kind=3) (hn:OkT t) (hf:acc.length+(gW t).length≤140737488355328): ACalls Tryz.prog G0 219 [.ptr 0 0,elT t] [oQ TW v,qT TB v acc] (WrK (acc++gW t)):=by
 refine fO (rx:=false) (th:=fun _=>some ⟨none,[],false,false,true,[],[],0⟩) mixed Tryz.func219 rfl (by kernel_rfl) (by kernel_rfl) (ac:=?_) ?_ ?_
 rotate_left
 · simp only [strip,kC,A7,RX.off,ckF,ckX,zOf,exd,vOf,bL,bB,bU,bR,bC,bS,aW,bC,dO,dK,gL,lI,bV,dQ,bJ,aU,fN,anyPre,Region.binds,bX,bY,aH,if_true,if_false,cS,cR,aM,aS,bE,aO,bL,bB,List.append_nil,jX,kS,lG,Nat.reduceBEq,dH]
   rfl
 · simp -implicitDefEqProofs (disch:=omega) only [Tryz.f219,go_sem,List.replicate,↓reduceIte,reduceAdd,reduceSub,reduceMul,reduceLeDiff,reduceLT,reduceEqDiff,reduceNeg,Nat.reduceBEq]
   have e:=nW t
   have hl:=congrArg List.length e
   have n1:¬ t.kind=1:=by omega
   have n2:¬ t.kind=2:=by omega
   rw [if_neg n1,if_neg n2,if_pos hk] at e hl
   simp only [aG,aD,aY] at hl
   have w1:=wrS (acc:=acc) (s:=34::(t.text++[34])) (by simp only [aG,aD,aY]; omega)
   refine zh (zA2 (zf n1) (zA2 (zf n2) (zt hk))) ?_
   (repeat' (first | refine gT ?_ ?_ | refine gF ?_ ?_ | refine gC ?_ ?_ | (refine aGi 0 1 g0 (w1) rfl (by decide) rfl rfl (by first | rfl | (simp only [renL,ren,elT,bT,avt,renL_pers _ _ iF,aSo]; done)) ?_; intro v9 g9; simp -implicitDefEqProofs (disch:=omega) only [zf n1,zf n2,zt hk,go_sem,↓reduceIte,reduceAdd,reduceSub,reduceMul,reduceLeDiff,reduceLT,reduceEqDiff,reduceNeg,Nat.reduceBEq]) | refine bM (by omega) ?_ | (intro hr; have hc:=hr; (try simp only [zdz] at hc); simp -implicitDefEqProofs (disch:=omega) only [hr,zf n1,zf n2,zt hk,go_sem,↓reduceIte,reduceAdd,reduceSub,reduceMul,reduceLeDiff,reduceLT,reduceEqDiff,reduceNeg,Nat.reduceBEq]; (try clear hr))))
   all_goals exact aBi (by rw [e])
theorem aXa (t:LTerm) (acc:Str) (v:Value) (ht:OkT t) (hk:t.kind=4) (hn:OkT t) (hf:acc.length+(gW t).length≤140737488355328): ACalls Tryz.prog G0 219 [.ptr 0 0,elT t] [oQ TW v,qT TB v acc] (WrK (acc++gW t)):=by
 refine fO (rx:=false) (th:=fun _=>some ⟨none,[],false,false,true,[],[],0⟩) mixed Tryz.func219 rfl (by kernel_rfl) (by kernel_rfl) (ac:=?_) ?_ ?_
 rotate_left
 · simp only [strip,kC,A7,RX.off,ckF,ckX,zOf,exd,vOf,bL,bB,bU,bR,bC,bS,aW,bC,dO,dK,gL,lI,bV,dQ,bJ,aU,fN,anyPre,Region.binds,bX,bY,aH,if_true,if_false,cS,cR,aM,aS,bE,aO,bL,bB,List.append_nil,jX,kS,lG,Nat.reduceBEq,dH]
   rfl
 · simp -implicitDefEqProofs (disch:=omega) only [Tryz.f219,go_sem,List.replicate,↓reduceIte,reduceAdd,reduceSub,reduceMul,reduceLeDiff,reduceLT,reduceEqDiff,reduceNeg,Nat.reduceBEq]
   have e:=nW t
   have hl:=congrArg List.length e
   have n1:¬ t.kind=1:=by omega
   have n2:¬ t.kind=2:=by omega
   have n3:¬ t.kind=3:=by omega
   rw [if_neg n1,if_neg n2,if_neg n3,if_pos hk] at e hl
   simp only [aG,aD,aY] at hl
   have w1:=wrS (acc:=acc) (s:=39::t.text) (by simp only [aG,aD,aY]; omega)
   refine zh (zA2 (zf n1) (zA2 (zf n2) (zA2 (zf n3) (zt hk)))) ?_
   (repeat' (first | refine gT ?_ ?_ | refine gF ?_ ?_ | refine gC ?_ ?_ | (refine aGi 0 1 g0 (w1) rfl (by decide) rfl rfl (by first | rfl | (simp only [renL,ren,elT,bT,avt,renL_pers _ _ iF,aSo]; done)) ?_; intro v9 g9; simp -implicitDefEqProofs (disch:=omega) only [zf n1,zf n2,zf n3,zt hk,go_sem,↓reduceIte,reduceAdd,reduceSub,reduceMul,reduceLeDiff,reduceLT,reduceEqDiff,reduceNeg,Nat.reduceBEq]) | refine bM (by omega) ?_ | (intro hr; have hc:=hr; (try simp only [zdz] at hc); simp -implicitDefEqProofs (disch:=omega) only [hr,zf n1,zf n2,zf n3,zt hk,go_sem,↓reduceIte,reduceAdd,reduceSub,reduceMul,reduceLeDiff,reduceLT,reduceEqDiff,reduceNeg,Nat.reduceBEq]; (try clear hr))))
   all_goals exact aBi (by rw [e])
theorem bCo (t:LTerm) (ht:OkT t) (hk:1≤t.kind∧t.kind≤4) (hn:nodeB t=true):WrT t:=fun acc hf v=>by
 rcases (by omega:t.kind=1∨t.kind=2∨t.kind=3∨t.kind=4) with h | h | h | h
 · rw [nodeB,if_pos h,aB] at hn
   exact aHj t acc v ht h hn.1 hf
 · exact aXc t acc v ht h ht hf
 · exact aXb t acc v ht h ht hf
 · exact aXa t acc v ht h ht hf
theorem bAu (t:LTerm) (ht:OkT t) (hk:1≤t.kind∧t.kind≤4) (hn:nodeB t=true) (hl:(gW t).length≤140737488355328):CT 179 [elT t] (.s (gW t)):=by
 have hz0:(Tryz.prog.info? TW).map (fun i=>i.zero.map (·.cells))=some (some #[.pointer Option.none,M5]):=by kernel_rfl
 obtain ⟨i,hi,hz1⟩:=bG.1 hz0
 obtain ⟨z,hz,hc⟩:=bG.1 hz1
 refine aIv Tryz.func179 rfl (by kernel_rfl) g0 ?_
 refine aDu ?_
 refine oV (rx:=false) (th:=fun _=>none) mixed _ (ac:=?_) (by kernel_rfl) ?_ _ _ _ ?_
 rotate_left
 · simp only [strip,kC,A7,RX.off,ckF,ckX,zOf,exd,vOf,bC,dO,dK,gL,lI,bV,dQ,bJ,aU,fN,anyPre,Region.binds,bX,bY,aH,if_true,if_false,cS,cR,aM,aS,bE,aO,bL,bB,List.append_nil]
   rfl
 · simp -implicitDefEqProofs (disch:=omega) only [Tryz.f179,go_sem,List.replicate,↓reduceIte,reduceAdd,reduceSub,reduceMul,reduceLeDiff,reduceLT,reduceEqDiff,reduceNeg,Nat.reduceBEq]
   refine aDu (aWq TB rfl rfl hi hz hc ?_)
   refine oV (rx:=false) (th:=fun _=>none) mixed _ (ac:=?_) (by kernel_rfl) ?_ _ _ _ ?_
   rotate_left
   · simp only [strip,kC,A7,RX.off,ckF,ckX,zOf,exd,vOf,bC,dO,dK,gL,lI,bV,dQ,bJ,aU,fN,anyPre,Region.binds,bX,bY,aH,if_true,if_false,cS,cR,aM,aS,bE,aO,bL,bB,List.append_nil]
     rfl
   · refine zg ?_
     refine aGi 1 2 g0 (bCo t ht hk hn [] (by simpa using hl)) rfl (by decide) rfl rfl (by simp only [renL,ren,elT,bT,avt,renL_pers _ _ iF,bEr]) ?_
     intro v9 g9
     refine zg ?_
     refine aWo 1 2 g0 bNe (by decide) rfl rfl rfl ?_
     refine zg ?_
     exact aP rfl rfl
end Go.Proofs.YtifefbhllfdmlaaGreatDoor

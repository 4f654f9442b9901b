/-
  Functions of the chapter, as plain functions of what they are given; no condition.
-/
import Derived.Test.YtdjcggcjlphdoaaGreatDoorVaP17
import Derived.Test.YtdjcggcjlphdoaaGreatDoorVoP23
import Derived.Test.YtdjcggcjlphdoaaGreatDoorVdP11
set_option maxRecDepth 100000
set_option linter.unusedSimpArgs false
set_option linter.unusedVariables false
set_option maxHeartbeats 4000000
namespace Go.Proofs.YtdjcggcjlphdoaaGreatDoor
open Go Go.Vo
open Nat (reduceAdd reduceSub reduceMul reduceLeDiff reduceLT reduceEqDiff)
open Int (reduceNeg)
theorem bDw(x y:Value)(w:World)(h:(Extern.SlicesOverlaps.overlaps #[31,31] #[4] #[x,y]).run Tryz.prog w=.ok (.bool false) w):(callFunc 200 #[x,y]).run Tryz.prog w=.ok (.value (.bool false)) w:=by
 rw[run_callFunc_extern Tryz.func200 (by kernel_rfl) (by kernel_rfl) (by kernel_rfl) (e:=Extern.SlicesOverlaps.overlaps #[31,31] #[4]) (by kernel_rfl),h];rfl
theorem bXp(u:LSub)(p:LPr)(i:Nat)(hi:i≤u.length)(hl:u.length≤1000000): ACalls Tryz.prog G0 130 [.hs 0 0 u.length false,.i .i64 (i:Nat),.sl (prT p) 1] [.arr false 7 (u.flatMap prT)] (fun r h'=>∃o sp,r=.hs 1 0 (u.length+1) false∧h'=[o,.arr false 7 ((u.take i++p::u.drop i).flatMap prT++sp)]):=by
 refine oO (rx:=true) (th:=fun i=>if i=7 then some ⟨none,[],false,false,true,[],[],1000⟩else if i=8 then some ⟨none,[],false,false,true,[],[],1000⟩else if i=9 then some ⟨none,[],false,false,true,[],[],1000⟩else if i=13 then some ⟨none,[],false,false,true,[],[],1000⟩else if i=14 then some ⟨none,[],false,false,true,[],[],1000⟩else if i=11 then some ⟨none,[],false,false,true,[],[],0⟩else if i=15 then some ⟨none,[],false,false,true,[],[],0⟩else none) cZ Tryz.func130 ?_
 ·simp -implicitDefEqProofs (disch:=omega) only[Tryz.f130,go_sem,List.replicate,↓reduceIte,reduceAdd,reduceSub,reduceMul,reduceLeDiff,reduceLT,reduceEqDiff,reduceNeg,Nat.reduceBEq];have hm:¬((1:Nat):Int)=0:=by decide
  refine⟨hi,?_⟩;simp -implicitDefEqProofs (disch:=omega) only[zf hm,go_sem,↓reduceIte,reduceAdd,reduceSub,reduceMul,reduceLeDiff,reduceLT,reduceEqDiff,reduceNeg,Nat.reduceBEq];have hw:IntKind.i64.wrap (((u.length:Nat):Int)+((1:Nat):Int))=((u.length+1:Nat):Int):=by rw[wrap64 (by omega) (by omega)];omega
  have hpl:(prT p).length=7:=W4 p;have hps:persL (prT p)=true:=aUq p;by_cases hin:i=u.length
  ·have hii:((i:Nat):Int)=((u.length:Nat):Int):=by omega
   have b1:((u.length+1)*112≤140737488355328)=True:=eq_true (by omega);have b2:(u.length+1≤140737488355328)=True:=eq_true (by omega);simp -implicitDefEqProofs (disch:=omega) only[zt hii,go_sem,↓reduceIte,reduceAdd,reduceSub,reduceMul,reduceLeDiff,reduceLT,reduceEqDiff,reduceNeg,Nat.reduceBEq];refine pN 2 1 (by simp only[strip,lI,eS,lH,RX.off,ckF,ckX,zOf,exd,vOf,aD,aC,bD,bC,aF,bA,aM,aF,bS,bY,dR,fT,bB,bI,aJ,aH,dZ,anyPre,Region.binds,aN,aS,aE,if_true,if_false,aX,aU,aI,aO,aZ,aK,aD,aC,List.append_nil,aL,bR,aT,bG,Nat.reduceAdd];rfl) (by simp only[strip,lI,eS,lH,RX.off,ckF,ckX,zOf,exd,vOf,aD,aC,bD,bC,aF,bA,aM,aF,bS,bY,dR,fT,bB,bI,aJ,aH,dZ,anyPre,Region.binds,aN,aS,aE,if_true,if_false,aX,aU,aI,aO,aZ,aK,aD,aC,List.append_nil,aL,bR,aT,bG,Nat.reduceAdd];rfl) ?_;simp -implicitDefEqProofs (disch:=omega) only[go_sem,↓reduceIte,reduceAdd,reduceSub,reduceMul,reduceLeDiff,reduceLT,reduceEqDiff,reduceNeg,Nat.reduceBEq];intro X w a g r;refine bAi (T:=32) (U:=31) (A:=.hs 0 0 u.length false) (B:=.sl (prT p) 1) (y:=.hs 1 0 (u.length+1) false) (h':=[.dead,.arr false 7 (u.flatMap prT++prT p)]) rfl rfl cCj cGg rfl rfl ?_ ?_ g r
   ·simp -implicitDefEqProofs (disch:=omega) only[b1,b2,hpl,go_sem,↓reduceIte,reduceAdd,reduceSub,reduceMul,reduceLeDiff,reduceLT,reduceEqDiff,reduceNeg,Nat.reduceBEq]
   ·simp -implicitDefEqProofs (disch:=omega) only[go_sem,↓reduceIte,reduceAdd,reduceSub,reduceMul,reduceLeDiff,reduceLT,reduceEqDiff,reduceNeg,Nat.reduceBEq];subst hin;exact⟨.dead,[],by rw[List.drop_length,List.flatMap_append,List.flatMap_cons,List.flatMap_nil,List.append_nil,List.append_nil]⟩
  ·have hii:¬((i:Nat):Int)=((u.length:Nat):Int):=by omega
   have h0:0<u.length:=by omega
   simp -implicitDefEqProofs (disch:=omega) only[zf hii,go_sem,↓reduceIte,reduceAdd,reduceSub,reduceMul,reduceLeDiff,reduceLT,reduceEqDiff,reduceNeg,Nat.reduceBEq];refine pN 3 2 (by simp only[strip,lI,eS,lH,RX.off,ckF,ckX,zOf,exd,vOf,aD,aC,bD,bC,aF,bA,aM,aF,bS,bY,dR,fT,bB,bI,aJ,aH,dZ,anyPre,Region.binds,aN,aS,aE,if_true,if_false,aX,aU,aI,aO,aZ,aK,aD,aC,List.append_nil,aL,bR,aT,bG,Nat.reduceAdd];rfl) (by simp only[strip,lI,eS,lH,RX.off,ckF,ckX,zOf,exd,vOf,aD,aC,bD,bC,aF,bA,aM,aF,bS,bY,dR,fT,bB,bI,aJ,aH,dZ,anyPre,Region.binds,aN,aS,aE,if_true,if_false,aX,aU,aI,aO,aZ,aK,aD,aC,List.append_nil,aL,bR,aT,bG,Nat.reduceAdd];rfl) ?_;simp -implicitDefEqProofs (disch:=omega) only[hw,go_sem,↓reduceIte,reduceAdd,reduceSub,reduceMul,reduceLeDiff,reduceLT,reduceEqDiff,reduceNeg,Nat.reduceBEq];intro X w a g r;refine aZg (T:=32) (el:=62) (j:=0) (j1:=29) (j2:=30) (id:=0) (n:=u.length) (sz:=7) (cells:=u.flatMap prT) rfl rfl rfl rfl rfl rfl cCj rfl rfl iB h0 (by decide) (by simp) (by decide) (by decide) ?_ ?_ g r
   ·have hlt:((u.length:Nat):Int)<((u.length+1:Nat):Int):=by omega
    have hw2:IntKind.i64.wrap (((u.length+1:Nat):Int)-((i:Nat):Int))=((u.length+1-i:Nat):Int):=by rw[wrap64 (by omega) (by omega)];omega
    have hw3:IntKind.i64.wrap (((i:Nat):Int)+((1:Nat):Int))=((i+1:Nat):Int):=by rw[wrap64 (by omega) (by omega)];omega
    simp -implicitDefEqProofs (disch:=omega) only[zt hlt,go_sem,↓reduceIte,reduceAdd,reduceSub,reduceMul,reduceLeDiff,reduceLT,reduceEqDiff,reduceNeg,Nat.reduceBEq];clear r g X w a;refine pN 2 7 (by simp only[strip,lI,eS,lH,RX.off,ckF,ckX,zOf,exd,vOf,aD,aC,bD,bC,aF,bA,aM,aF,bS,bY,dR,fT,bB,bI,aJ,aH,dZ,anyPre,Region.binds,aN,aS,aE,if_true,if_false,aX,aU,aI,aO,aZ,aK,aD,aC,List.append_nil,aL,bR,aT,bG,Nat.reduceAdd];rfl) (by simp only[strip,lI,eS,lH,RX.off,ckF,ckX,zOf,exd,vOf,aD,aC,bD,bC,aF,bA,aM,aF,bS,bY,dR,fT,bB,bI,aJ,aH,dZ,anyPre,Region.binds,aN,aS,aE,if_true,if_false,aX,aU,aI,aO,aZ,aK,aD,aC,List.append_nil,aL,bR,aT,bG,Nat.reduceAdd];rfl) ?_;simp -implicitDefEqProofs (disch:=omega) only[go_sem,↓reduceIte,reduceAdd,reduceSub,reduceMul,reduceLeDiff,reduceLT,reduceEqDiff,reduceNeg,Nat.reduceBEq];intro X w a g r;refine aJj (T:=32) (U:=3) (el:=62) (i:=33) (j:=32) (d1:=34) (d2:=39) (id:=0) (n:=u.length) (m:=i) (q:=u.length+1-i) (by_:=112) (cells:=u.flatMap prT) 2 5 rfl rfl rfl rfl (by simp only[strip,lI,eS,lH,RX.off,ckF,ckX,zOf,exd,vOf,aD,aC,bD,bC,aF,bA,aM,aF,bS,bY,dR,fT,bB,bI,aJ,aH,dZ,anyPre,Region.binds,aN,aS,aE,if_true,if_false,aX,aU,aI,aO,aZ,aK,aD,aC,List.append_nil,aL,bR,aT,bG,Nat.reduceAdd];rfl) rfl rfl cHw un3 cGe cBh cIa (by decide) rfl rfl rfl h0 hi (by omega) (by simp) (by omega) (by omega) ?_ g r;intro v;have e1:i+(u.length+1-i)=u.length+1:=by omega
    have e2:u.length+1-(i+1)=u.length-i:=by omega
    have e3:min 1 (u.length+1-i)=1:=by omega
    have e4:min (u.length-i) (u.length-i)=u.length-i:=by omega
    have hZl:(List.replicate (u.length+1-i) ([.s [],.i .i64 0,.i .i64 0,.s [],.s [],.e0,.e0]:List AV)).flatten.length=(u.length+1-i)*7:=lT _ _;generalize (List.replicate (u.length+1-i) ([.s [],.i .i64 0,.i .i64 0,.s [],.s [],.e0,.e0]:List AV)).flatten=Z at *
    rw[e1];have b1:(i≤u.length)=True:=eq_true hi;have b2:(i*7+(u.length-i)*7≤u.length*7)=True:=eq_true (by omega);have hX:((u.take i).flatMap prT).length=i*7:=by rw[iB,List.length_take];omega
    have hD:((u.drop i).flatMap prT).length=(u.length-i)*7:=by rw[iB,dI]
    have b5:List.take (i*7) ((u.take i).flatMap prT++Z)=(u.take i).flatMap prT:=by rw[← hX,S0]
    have b6:List.drop (i*7+7) ((u.take i).flatMap prT++Z)=Z.drop 7:=by rw[← hX,List.drop_append,tQ (by omega)];simp
    have b7:∀W:List AV,List.take ((i+1)*7) ((u.take i).flatMap prT++(prT p++W))=(u.take i).flatMap prT++prT p:=fun W=>by
     rw[← bU,show(i+1)*7=((u.take i).flatMap prT++prT p).length by rw[List.length_append,hX,hpl];omega,S0]
    have b8:List.drop ((i+1)*7+(u.length-i)*7) ((u.take i).flatMap prT++(prT p++Z.drop 7))=[]:=tQ (by rw[List.length_append,List.length_append,dI,hX,hpl,hZl];omega);have bw:List.take ((u.length-i)*7) (List.drop (i*7) (u.flatMap prT))=(u.drop i).flatMap prT:=by rw[bNt,bE (by rw[hD];omega)]
    have bw2:List.take ((u.length-i)*7) ((u.drop i).flatMap prT)=(u.drop i).flatMap prT:=bE (by rw[hD];omega);simp -implicitDefEqProofs (disch:=omega) only[hw,hw2,hw3,hZl,e2,e3,e4,hpl,b5,b6,hX,go_sem,↓reduceIte,reduceAdd,reduceSub,reduceMul,reduceLeDiff,reduceLT,reduceEqDiff,reduceNeg,Nat.reduceBEq];refine⟨⟨by omega,by omega⟩,⟨hi,by omega⟩,?_⟩;simp -implicitDefEqProofs (disch:=omega) only[hw,hw2,hw3,hZl,e2,e3,e4,hpl,b1,b2,b5,b6,hX,hD,bw,bw2,b7,b8,ne_eq,not_true_eq_false,go_sem,↓reduceIte,reduceAdd,reduceSub,reduceMul,reduceLeDiff,reduceLT,reduceEqDiff,reduceNeg,Nat.reduceBEq];exact⟨by omega,_,[],by rw[List.flatMap_append,List.flatMap_cons,List.append_nil]⟩
   ·intro c hc;have hlt:¬((c:Nat):Int)<((u.length+1:Nat):Int):=by omega
    have hw3:IntKind.i64.wrap (((i:Nat):Int)+((1:Nat):Int))=((i+1:Nat):Int):=by rw[wrap64 (by omega) (by omega)];omega
    have hS:(List.replicate ((c-u.length)*7) AV.u).length=(c-u.length)*7:=List.length_replicate;generalize List.replicate ((c-u.length)*7) AV.u=S at *
    have hS7:7≤S.length:=by omega
    simp -implicitDefEqProofs (disch:=omega) only[zf hlt,go_sem,↓reduceIte,reduceAdd,reduceSub,reduceMul,reduceLeDiff,reduceLT,reduceEqDiff,reduceNeg,Nat.reduceBEq];clear r g X w a;refine pN 4 1 (by simp only[strip,lI,eS,lH,RX.off,ckF,ckX,zOf,exd,vOf,aD,aC,bD,bC,aF,bA,aM,aF,bS,bY,dR,fT,bB,bI,aJ,aH,dZ,anyPre,Region.binds,aN,aS,aE,if_true,if_false,aX,aU,aI,aO,aZ,aK,aD,aC,List.append_nil,aL,bR,aT,bG,Nat.reduceAdd];rfl) (by simp only[strip,lI,eS,lH,RX.off,ckF,ckX,zOf,exd,vOf,aD,aC,bD,bC,aF,bA,aM,aF,bS,bY,dR,fT,bB,bI,aJ,aH,dZ,anyPre,Region.binds,aN,aS,aE,if_true,if_false,aX,aU,aI,aO,aZ,aK,aD,aC,List.append_nil,aL,bR,aT,bG,Nat.reduceAdd];rfl) ?_;simp -implicitDefEqProofs (disch:=omega) only[hw,go_sem,↓reduceIte,reduceAdd,reduceSub,reduceMul,reduceLeDiff,reduceLT,reduceEqDiff,reduceNeg,Nat.reduceBEq];intro X w a g r;refine bBs (T:=32) (el:=62) (j:=56) (i:=59) (id:=1) (n:=u.length) (m:=u.length+1) (sz:=7) (cells:=u.flatMap prT++S) rfl rfl cCj cBh rfl rfl rfl h0 (by decide) (by rw[List.length_append,iB];omega) ?_ g r;simp -implicitDefEqProofs (disch:=omega) only[go_sem,↓reduceIte,reduceAdd,reduceSub,reduceMul,reduceLeDiff,reduceLT,reduceEqDiff,reduceNeg,Nat.reduceBEq];clear r g X w a;refine pN 6 1 (by simp only[strip,lI,eS,lH,RX.off,ckF,ckX,zOf,exd,vOf,aD,aC,bD,bC,aF,bA,aM,aF,bS,bY,dR,fT,bB,bI,aJ,aH,dZ,anyPre,Region.binds,aN,aS,aE,if_true,if_false,aX,aU,aI,aO,aZ,aK,aD,aC,List.append_nil,aL,bR,aT,bG,Nat.reduceAdd];rfl) (by simp only[strip,lI,eS,lH,RX.off,ckF,ckX,zOf,exd,vOf,aD,aC,bD,bC,aF,bA,aM,aF,bS,bY,dR,fT,bB,bI,aJ,aH,dZ,anyPre,Region.binds,aN,aS,aE,if_true,if_false,aX,aU,aI,aO,aZ,aK,aD,aC,List.append_nil,aL,bR,aT,bG,Nat.reduceAdd];rfl) ?_;simp -implicitDefEqProofs (disch:=omega) only[hw3,go_sem,↓reduceIte,reduceAdd,reduceSub,reduceMul,reduceLeDiff,reduceLT,reduceEqDiff,reduceNeg,Nat.reduceBEq];refine⟨⟨by omega,by omega⟩,?_⟩;intro X w a g r;refine aQc (f:=200) (tS:=31) (tR:=4) (el:=62) (s0:=7) (j:=61) (i:=66) (id:=1) (off:=(i+1)*7) (n:=u.length+1-(i+1)) (m:=1) (cells:=u.flatMap prT++S) (c0:=prT p) rfl rfl bDw cGg (gL cBh) rfl (by omega) rfl rfl (by omega) ?_ g r;clear r g X w a;simp -implicitDefEqProofs (disch:=omega) only[hw,hw3,go_sem,↓reduceIte,reduceAdd,reduceSub,reduceMul,reduceLeDiff,reduceLT,reduceEqDiff,reduceNeg,Nat.reduceBEq];have e2:u.length+1-(i+1)=u.length-i:=by omega
    have e3:min 1 (u.length+1-i)=1:=by omega
    have e5:min (u.length+1-i) (u.length-i)=u.length-i:=by omega
    have hD:((u.drop i).flatMap prT).length=(u.length-i)*7:=by rw[iB,dI]
    have hX:((u.take i).flatMap prT).length=i*7:=by rw[iB,List.length_take];omega
    have hU:u.flatMap prT=(u.take i).flatMap prT++(u.drop i).flatMap prT:=by rw[← List.flatMap_append,cI]
    have c1:(i*7+(u.length+1-i)*7≤u.length*7+S.length)=True:=eq_true (by omega);have c2:((i+1)*7+(u.length-i)*7≤u.length*7+S.length)=True:=eq_true (by omega);have bw:List.take ((u.length-i)*7) (List.take ((u.length+1-i)*7) (List.drop (i*7) (u.flatMap prT++S)))=(u.drop i).flatMap prT:=by
     rw[List.take_take,show min ((u.length-i)*7) ((u.length+1-i)*7)=(u.length-i)*7 by omega,hU,bU,← hX,List.drop_left,← hD,S0]
    refine⟨⟨hi,by omega⟩,⟨by omega,by omega⟩,?_⟩;simp only[e2,e5,c1,c2,bw,hD,if_true];have hTl:(List.take ((i+1)*7) (u.flatMap prT++S)).length=(i+1)*7:=by rw[List.length_take,List.length_append,iB];omega
    have hTx:List.take (i*7) (List.take ((i+1)*7) (u.flatMap prT++S))=(u.take i).flatMap prT:=by
     rw[List.take_take,show min (i*7) ((i+1)*7)=i*7 by omega,hU,bU,← hX,S0]
    have hRl:(List.drop ((i+1)*7+(u.length-i)*7) (u.flatMap prT++S)).length=S.length-7:=by rw[dI,List.length_append,iB];omega
    generalize List.take ((i+1)*7) (u.flatMap prT++S)=T1 at *
    generalize List.drop ((i+1)*7+(u.length-i)*7) (u.flatMap prT++S)=R1 at *
    have d1:List.take (i*7) (T1++((u.drop i).flatMap prT++R1))=(u.take i).flatMap prT:=by rw[List.take_append_of_le_length (by omega),hTx]
    have d2:List.drop (i*7+7) (T1++((u.drop i).flatMap prT++R1))=(u.drop i).flatMap prT++R1:=by rw[show i*7+7=T1.length by omega,List.drop_left]
    simp -implicitDefEqProofs (disch:=omega) only[hw,hw3,hTl,hRl,hD,hpl,e3,d1,d2,go_sem,↓reduceIte,reduceAdd,reduceSub,reduceMul,reduceLeDiff,reduceLT,reduceEqDiff,reduceNeg,Nat.reduceBEq];exact⟨⟨by omega,by omega⟩,by omega,_,R1,by rw[List.flatMap_append,List.flatMap_cons,bU,bU]⟩
theorem bJt{a b:Str}:gtS a b=decide (b<a):=by
 rw[gtS,bytesLess_eq,fA];simp only[eF,gR,decide_eq_false_iff_not,decide_eq_true_eq];exact⟨fun h=>zD h.1 h.2,fun h=>⟨fun h2=>lO _ (mS h h2),fun e=>by rw[e]at h;exact lO _ h⟩⟩
theorem aEv{u:LSub}{x:Str}{k:Nat}(h1:0<k→¬x<(u.getD (k-1) default).1):∀{n:Nat},k≤n→(∀j,k≤j→j<n→x<(u.getD j default).1)→aIx u x n=k
 |0,hk,_=>by rw[aIx];omega
 |n + 1,hk,h2=>by
  rw[aIx];by_cases hn:k=n+1
  ·subst hn;rw[if_neg];rw[bJt];simpa using h1 (by omega)
  ·rw[if_pos (by rw[bJt,decide_eq_true_eq];exact h2 n (by omega) (by omega))];exact aEv h1 (by omega) (fun j a b=>h2 j a (by omega))
theorem bJm{u:LSub}{x:Str}{j:Nat}(h:j<pG u x):(u.getD j default).1<x:=by
 induction u generalizing j with
 |nil=>simp[pG]at h
 |cons p u ih=>
  by_cases hp:p.1<x
  ·have e:pG (p::u) x=pG u x+1:=by rw[pG,jL,zt hp];rfl
   cases j with
   |zero=>exact hp
   |succ j=>rw[dE];exact ih (by omega)
  ·have e:pG (p::u) x=0:=by rw[pG,jL,zf hp];rfl
   omega
theorem bVn{u:LSub}{x:Str}(h:pG u x<u.length):¬(u.getD (pG u x) default).1<x:=by
 induction u with
 |nil=>simp at h
 |cons p u ih=>
  by_cases hp:p.1<x
  ·have e:pG (p::u) x=pG u x+1:=by rw[pG,jL,zt hp];rfl
   rw[e]at h ⊢;rw[dE];exact ih (by simpa using h)
  ·have e:pG (p::u) x=0:=by rw[pG,jL,zf hp];rfl
   rw[e];exact hp
theorem aWb{u:LSub}{x:Str}(h:AscU u)(hn:mOf u x=none){j:Nat}(h1:pG u x≤j)(h2:j<u.length):x<(u.getD j default).1:=by
 have h3:=bVn (u:=u) (x:=x) (by omega);have h4:¬(u.getD (pG u x) default).1=x:=fun e=>by
  rw[aVz h,if_pos ⟨by omega,e⟩]at hn;cases hn
 have h5:=zD h3 h4;by_cases he:j=pG u x
 ·rw[he];exact h5
 ·exact mS h5 (aKb h (by omega) h2)
theorem aMk{u:LSub}{x:Str}(h:AscU u)(hn:mOf u x=none):aIx u x u.length=pG u x:=
 aEv (fun h0 h1=>lO _ (mS h1 (bJm (by omega)))) aWc (fun j a b=>aWb h hn a b)
theorem bRw{u:LSub}{x:Str}{t:LTerm}(h:AscU u)(hn:mOf u x=none):AscU (X6 u x t):=by
 rw[X6,aMk h hn];refine eC.2 ⟨h.sublist (List.take_sublist _ _),gH.2 ⟨fun q hq=>?_,h.sublist (List.drop_sublist _ _)⟩,fun p hp q hq=>?_⟩
 ·obtain⟨j,hj⟩:=cW.1 hq;rw[eL]at hj;have hjl:=bP hj;have:=aWb h hn (j:=pG u x+j) (by omega) hjl;simpa[List.getD,hj]using this
 ·obtain⟨i,hi⟩:=cW.1 hp;rw[dY]at hi;split at hi
  ·rename_i hil;have h1:=bJm (u:=u) (x:=x) (j:=i) hil;have h1:p.1<x:=by simpa[List.getD,hi]using h1
   rcases cH.1 hq with rfl|hq
   ·exact h1
   ·obtain⟨j,hj⟩:=cW.1 hq;rw[eL]at hj;have hjl:=bP hj;have:=aWb h hn (j:=pG u x+j) (by omega) hjl;exact mS h1 (by simpa[List.getD,hj]using this)
  ·cases hi
theorem bPs{h:List AObj}{id n sz:Nat}{fz:Bool}{cells sp:List AV}(hi:h[id]? = some (.arr fz sz (cells++sp)))(hl:cells.length=n*sz)(hp:persL cells=true):Fin h (.hs id 0 n false) (.sl cells n):=by
 refine .inr ⟨?_,by simp[dJ],by simp[dJ]⟩;show AV.sl cells n=gZ dep h (.hs id 0 n false);have hd:((cells++sp).drop 0).take (n*sz)=cells:=by rw[bG,← hl,S0]
 simp only[gE,pers,rQ,hi,hd,hp,if_true,aE,if_false];rw[if_pos (by rw[List.length_append];omega)]
theorem bKm(u:LSub)(x:Str)(t:LTerm)(ha:AscU u)(hn:mOf u x=none)(hl:u.length≤1000000): CT 70 [avu u,.s x,elT t] (avu (X6 u x t)):=by
 refine aPl (rx:=true) (th:=fun i=>if i=2 then some ⟨none,[],true,false,true,[],[],7⟩else none) cZ Tryz.func70 g0 ?_
 ·generalize hR:((avu (X6 u x t)):AV)=R;simp -implicitDefEqProofs (disch:=omega) only[Tryz.f70,go_sem,List.replicate,simprocAttr,avu,elT,aW];have c:=bKl u x ha (by omega);have c2:=bXn u hl;simp only[avu]at c c2;(refine zy2 (zA2 @elT.eq_1 (zA2 @aW (zA2 @avt.eq_1 (zA2 @tE (zA2 @fB.{0} (zA2 @fP.{0} @List.append_nil.{0})))))) c c2 ?_;repeat' first|exact trivial|refine zJ ?_ ?_|refine zH fun hc=>?_);refine fM (Vo.frame (is:=[1]) g0 (bXp u (x,t) (pG u x) aWc hl) (by simp) rfl (fun i o ho=>?_) (by simp only[renL,ren,renL_pers _ _ iL,T8,prT,aW,avt])) ?_
  ·cases i with
   |zero=>simp only[bT,aB]at ho;subst ho;simp only[eM,AObj.ren,renL_pers _ _ lZ];rfl
   |succ i=>simp at ho
  ·rintro r' h' ⟨r0,h1,⟨o,sp,rfl,rfl⟩,_,rfl,rfl⟩;simp only[yQ,aK,aZ,mW,aQ,cB,dM,aT,bG,AObj.ren,ren];have e:renL (emb [1] 2) ((u.take (pG u x)++(x,t)::u.drop (pG u x)).flatMap prT++sp)=(X6 u x t).flatMap prT++renL (emb [1] 2) sp:=by
    rw[vO,cG,← vO,← vO,renL_pers _ _ lZ,X6,aMk ha hn]
   have em:emb [1] (1+1) 1=2:=rfl;rw[em,e];refine zg ?_;subst hR;have hlen:(X6 u x t).length=u.length+1:=by rw[X6,List.length_append,aQ,List.length_take,dI];have:=aIw (u:=u) (x:=x) u.length;omega
   rw[avu,hlen];exact bPs rfl (by rw[iB,hlen]) lZ
def yV(s:dX)(p t:LTerm)(u:LSub):LSub×Bool:=
 if p.kind=6 then(if nQ s (qM s t) p.sort=true then(if p.text=[95]then(u,true)else match mOf u p.text with
  |some o=>(u,decide (o=t))
  |none=>(X6 u p.text t,true))else([],false))else(u,decide (p=t))
theorem aFa{s:dX}{p t:LTerm}{u:LSub}:iT s p t u=if(yV s p t u).2=true then [(yV s p t u).1]else []:=by
 rw[iT,yV];split
 ·rw[oK]
  split
  ·split
   ·rfl
   ·cases mOf u p.text with
    |none=>rfl
    |some o=>by_cases h:o=t<;>simp[h]
  ·rfl
 ·by_cases h:p=t<;>simp[h]
theorem bWd{h:List AObj}{b:Bool}:Vo.Fin h (.tup [.e0,.b b]) (.tup [avu [],.b b]):=.inr ⟨⟨rfl,rfl,trivial⟩,fI,fun i hi=>by cases hi⟩
theorem aNc{h:List AObj}{u:LSub}{n:Nat}{b:Bool}(hn:n=u.length):Vo.Fin h (.tup [.sl (u.flatMap prT) n,.b b]) (.tup [avu u,.b b]):=by subst hn;exact .inl ⟨rfl,by simp[pers,persL,lZ]⟩
theorem bKk(s:dX)(u:LSub)(p t:LTerm)(hm:Small s)(ha:AscU u)(hu:OkU 1000000 u)(op:OkT p)(ot:OkT t): CT 168 [.agg [cM s],avu u,elT p,elT t] (.tup [avu (yV s p t u).1,.b (yV s p t u).2]):=by
 refine eG cZ Tryz.func168 g0 ?_
 ·generalize hR:((.tup [avu (yV s p t u).1,.b (yV s p t u).2]):AV)=R;simp -implicitDefEqProofs (disch:=omega) only[Tryz.f168,go_sem,List.replicate,simprocAttr,avu,elT,aW];have c1:=aFy p t op ot;have c2:=aGa s t;have c3:=aQw s (qM s t) p.sort hm;have hul:=hu.1;have c4:=aYo u p.text ha (by omega);simp only[avu,cM]at c2 c3 c4;rw[yV]at hR;by_cases h6:p.kind=6
  ·rw[if_pos h6]at hR
   by_cases hat:nQ s (qM s t) p.sort=true
   ·rw[if_pos hat]at hR
    rw[hat]at c3;by_cases hw:p.text=[95]
    ·rw[if_pos hw]at hR;refine zh (zA2 (zt h6) (zA2 aN @cM.eq_1)) ?_;(refine zy2 (zA2 (zt h6) (zA2 (zt hw) (zA2 @cM.eq_1 aN))) c2 c3 ?_;repeat' first|exact trivial|refine zJ ?_ ?_|refine zH fun hc=>?_);subst hR;exact aNc rfl
    ·rw[if_neg hw]at hR;cases ho:mOf u p.text with
     |some o=>
      rw[ho]at hR c4;rw[T3,elT,aW]at c4;have c5:=aFy o t (bJl hu ho) ot;refine zh (zA2 (zt h6) (zA2 aN @cM.eq_1)) ?_;(refine zy4 (zA2 (zt h6) (zA2 (zf hw) (zA2 @cM.eq_1 aN))) c2 c3 c4 c5 ?_;repeat' first|exact trivial|refine zJ ?_ ?_|refine zH fun hc=>?_);subst hR;exact aNc rfl
     |none=>
      rw[ho]at hR c4;rw[T3,elT,aW]at c4;have c5:=bKm u p.text t ha ho (by omega);simp only[avu]at c5;refine zh (zA2 (zt h6) (zA2 aN @cM.eq_1)) ?_;(refine zy4 (zA2 (zt h6) (zA2 (zf hw) (zA2 @cM.eq_1 aN))) c2 c3 c4 c5 ?_;repeat' first|exact trivial|refine zJ ?_ ?_|refine zH fun hc=>?_);subst hR;exact aNc rfl
   ·rw[if_neg hat]at hR;rw[dD.2 hat]at c3;refine zh (zA2 (zt h6) (zA2 aN @cM.eq_1)) ?_;(refine zy2 (zA2 (zt h6) (zA2 @cM.eq_1 aN)) c2 c3 ?_;repeat' first|exact trivial|refine zJ ?_ ?_|refine zH fun hc=>?_);subst hR;exact bWd
  ·rw[if_neg h6]at hR;refine zh (zA2 (zf h6) aS) ?_;(refine zy1 (zA2 (zf h6) aS) c1 ?_;repeat' first|exact trivial|refine zJ ?_ ?_|refine zH fun hc=>?_);subst hR;exact aNc rfl
end Go.Proofs.YtdjcggcjlphdoaaGreatDoor

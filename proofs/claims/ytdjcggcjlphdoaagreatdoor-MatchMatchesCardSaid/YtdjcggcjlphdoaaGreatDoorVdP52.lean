/-
  Functions of the chapter, as plain functions of what they are given; no condition.
-/
import Derived.Test.YtdjcggcjlphdoaaGreatDoorVdP51
import Derived.Test.YtdjcggcjlphdoaaGreatDoorVoP63
set_option maxRecDepth 100000
set_option linter.unusedSimpArgs false
set_option linter.unusedVariables false
set_option maxHeartbeats 4000000
namespace Go.Proofs.YtdjcggcjlphdoaaGreatDoor
open Go Go.Vo
open Nat (reduceAdd reduceSub reduceMul reduceLeDiff reduceLT reduceEqDiff)
open Int (reduceNeg)
theorem aZn(x y:Value)(w:World)(h:(Extern.SlicesOverlaps.overlaps #[31,31] #[4] #[x,y]).run Tryz.prog w=.ok (.bool false) w):(callFunc 200 #[x,y]).run Tryz.prog w=.ok (.value (.bool false)) w:=by
 rw[run_callFunc_extern Tryz.func200 (by kernel_rfl) (by kernel_rfl) (by kernel_rfl) (e:=Extern.SlicesOverlaps.overlaps #[31,31] #[4]) (by kernel_rfl),h];rfl
theorem bRo(u:LSub)(p:LPr)(i:Nat)(hi:i≤u.length)(hl:u.length≤1000000): ACalls Tryz.prog G0 130 [.hs 0 0 u.length false,.i .i64 (i:Nat),.sl (prT p) 1] [.arr false 7 (u.flatMap prT)] (fun r h'=>∃o sp,r=.hs 1 0 (u.length+1) false∧h'=[o,.arr false 7 ((u.take i++p::u.drop i).flatMap prT++sp)]):=by
 refine jD (rx:=true) (th:=fun i=>if i=7 then some ⟨none,[],false,false,true,[],[],1000⟩else if i=8 then some ⟨none,[],false,false,true,[],[],1000⟩else if i=9 then some ⟨none,[],false,false,true,[],[],1000⟩else if i=13 then some ⟨none,[],false,false,true,[],[],1000⟩else if i=14 then some ⟨none,[],false,false,true,[],[],1000⟩else if i=11 then some ⟨none,[],false,false,true,[],[],0⟩else if i=15 then some ⟨none,[],false,false,true,[],[],0⟩else none) cI Tryz.func130 ?_
 ·simp -implicitDefEqProofs (disch:=omega) only[Tryz.f130,go_sem,List.replicate,↓reduceIte,reduceAdd,reduceSub,reduceMul,reduceLeDiff,reduceLT,reduceEqDiff,reduceNeg,Nat.reduceBEq];have hm:¬((1:Nat):Int)=0:=by decide
  refine⟨hi,?_⟩;simp -implicitDefEqProofs (disch:=omega) only[zf hm,go_sem,↓reduceIte,reduceAdd,reduceSub,reduceMul,reduceLeDiff,reduceLT,reduceEqDiff,reduceNeg,Nat.reduceBEq];have hw:IntKind.i64.wrap (((u.length:Nat):Int)+((1:Nat):Int))=((u.length+1:Nat):Int):=by rw[wrap64 (by omega) (by omega)];omega
  have hpl:(prT p).length=7:=S2 p;have hps:persL (prT p)=true:=aRr p;by_cases hin:i=u.length
  ·have hii:((i:Nat):Int)=((u.length:Nat):Int):=by omega
   have b1:((u.length+1)*112≤140737488355328)=True:=eq_true (by omega);have b2:(u.length+1≤140737488355328)=True:=eq_true (by omega);simp -implicitDefEqProofs (disch:=omega) only[zt hii,go_sem,↓reduceIte,reduceAdd,reduceSub,reduceMul,reduceLeDiff,reduceLT,reduceEqDiff,reduceNeg,Nat.reduceBEq];refine oZ 2 1 (by simp only[strip,lA,eH,kZ,RX.off,ckF,ckX,zOf,exd,vOf,aD,aC,aY,aX,aF,Bool.and_true,Bool.and_false,aF,bP,bR,dI,fD,aW,bE,aJ,aH,dO,anyPre,Region.binds,Bool.not_true,Bool.not_false,aE,if_true,if_false,aP,aO,Bool.true_and,Bool.false_and,aT,aK,aD,aC,List.append_nil,aL,bK,aQ,bA,Nat.reduceAdd];rfl) (by simp only[strip,lA,eH,kZ,RX.off,ckF,ckX,zOf,exd,vOf,aD,aC,aY,aX,aF,Bool.and_true,Bool.and_false,aF,bP,bR,dI,fD,aW,bE,aJ,aH,dO,anyPre,Region.binds,Bool.not_true,Bool.not_false,aE,if_true,if_false,aP,aO,Bool.true_and,Bool.false_and,aT,aK,aD,aC,List.append_nil,aL,bK,aQ,bA,Nat.reduceAdd];rfl) ?_;simp -implicitDefEqProofs (disch:=omega) only[go_sem,↓reduceIte,reduceAdd,reduceSub,reduceMul,reduceLeDiff,reduceLT,reduceEqDiff,reduceNeg,Nat.reduceBEq];intro X w a g r;refine aWq (T:=32) (U:=31) (A:=.hs 0 0 u.length false) (B:=.sl (prT p) 1) (y:=.hs 1 0 (u.length+1) false) (h':=[.dead,.arr false 7 (u.flatMap prT++prT p)]) rfl rfl bWm cAj rfl rfl ?_ ?_ g r
   ·simp -implicitDefEqProofs (disch:=omega) only[b1,b2,hpl,go_sem,↓reduceIte,reduceAdd,reduceSub,reduceMul,reduceLeDiff,reduceLT,reduceEqDiff,reduceNeg,Nat.reduceBEq]
   ·simp -implicitDefEqProofs (disch:=omega) only[go_sem,↓reduceIte,reduceAdd,reduceSub,reduceMul,reduceLeDiff,reduceLT,reduceEqDiff,reduceNeg,Nat.reduceBEq];subst hin;exact⟨.dead,[],by rw[List.drop_length,List.flatMap_append,List.flatMap_cons,List.flatMap_nil,List.append_nil,List.append_nil]⟩
  ·have hii:¬((i:Nat):Int)=((u.length:Nat):Int):=by omega
   have h0:0<u.length:=by omega
   simp -implicitDefEqProofs (disch:=omega) only[zf hii,go_sem,↓reduceIte,reduceAdd,reduceSub,reduceMul,reduceLeDiff,reduceLT,reduceEqDiff,reduceNeg,Nat.reduceBEq];refine oZ 3 2 (by simp only[strip,lA,eH,kZ,RX.off,ckF,ckX,zOf,exd,vOf,aD,aC,aY,aX,aF,Bool.and_true,Bool.and_false,aF,bP,bR,dI,fD,aW,bE,aJ,aH,dO,anyPre,Region.binds,Bool.not_true,Bool.not_false,aE,if_true,if_false,aP,aO,Bool.true_and,Bool.false_and,aT,aK,aD,aC,List.append_nil,aL,bK,aQ,bA,Nat.reduceAdd];rfl) (by simp only[strip,lA,eH,kZ,RX.off,ckF,ckX,zOf,exd,vOf,aD,aC,aY,aX,aF,Bool.and_true,Bool.and_false,aF,bP,bR,dI,fD,aW,bE,aJ,aH,dO,anyPre,Region.binds,Bool.not_true,Bool.not_false,aE,if_true,if_false,aP,aO,Bool.true_and,Bool.false_and,aT,aK,aD,aC,List.append_nil,aL,bK,aQ,bA,Nat.reduceAdd];rfl) ?_;simp -implicitDefEqProofs (disch:=omega) only[hw,go_sem,↓reduceIte,reduceAdd,reduceSub,reduceMul,reduceLeDiff,reduceLT,reduceEqDiff,reduceNeg,Nat.reduceBEq];intro X w a g r;refine aVo (T:=32) (el:=62) (j:=0) (j1:=29) (j2:=30) (id:=0) (n:=u.length) (sz:=7) (cells:=u.flatMap prT) rfl rfl rfl rfl rfl rfl bWm rfl rfl fQ h0 (by decide) (by simp) (by decide) (by decide) ?_ ?_ g r
   ·have hlt:((u.length:Nat):Int)<((u.length+1:Nat):Int):=by omega
    have hw2:IntKind.i64.wrap (((u.length+1:Nat):Int)-((i:Nat):Int))=((u.length+1-i:Nat):Int):=by rw[wrap64 (by omega) (by omega)];omega
    have hw3:IntKind.i64.wrap (((i:Nat):Int)+((1:Nat):Int))=((i+1:Nat):Int):=by rw[wrap64 (by omega) (by omega)];omega
    simp -implicitDefEqProofs (disch:=omega) only[zt hlt,go_sem,↓reduceIte,reduceAdd,reduceSub,reduceMul,reduceLeDiff,reduceLT,reduceEqDiff,reduceNeg,Nat.reduceBEq];clear r g X w a;refine oZ 2 7 (by simp only[strip,lA,eH,kZ,RX.off,ckF,ckX,zOf,exd,vOf,aD,aC,aY,aX,aF,Bool.and_true,Bool.and_false,aF,bP,bR,dI,fD,aW,bE,aJ,aH,dO,anyPre,Region.binds,Bool.not_true,Bool.not_false,aE,if_true,if_false,aP,aO,Bool.true_and,Bool.false_and,aT,aK,aD,aC,List.append_nil,aL,bK,aQ,bA,Nat.reduceAdd];rfl) (by simp only[strip,lA,eH,kZ,RX.off,ckF,ckX,zOf,exd,vOf,aD,aC,aY,aX,aF,Bool.and_true,Bool.and_false,aF,bP,bR,dI,fD,aW,bE,aJ,aH,dO,anyPre,Region.binds,Bool.not_true,Bool.not_false,aE,if_true,if_false,aP,aO,Bool.true_and,Bool.false_and,aT,aK,aD,aC,List.append_nil,aL,bK,aQ,bA,Nat.reduceAdd];rfl) ?_;simp -implicitDefEqProofs (disch:=omega) only[go_sem,↓reduceIte,reduceAdd,reduceSub,reduceMul,reduceLeDiff,reduceLT,reduceEqDiff,reduceNeg,Nat.reduceBEq];intro X w a g r;refine aHp (T:=32) (U:=3) (el:=62) (i:=33) (j:=32) (d1:=34) (d2:=39) (id:=0) (n:=u.length) (m:=i) (q:=u.length+1-i) (by_:=112) (cells:=u.flatMap prT) 2 5 rfl rfl rfl rfl (by simp only[strip,lA,eH,kZ,RX.off,ckF,ckX,zOf,exd,vOf,aD,aC,aY,aX,aF,Bool.and_true,Bool.and_false,aF,bP,bR,dI,fD,aW,bE,aJ,aH,dO,anyPre,Region.binds,Bool.not_true,Bool.not_false,aE,if_true,if_false,aP,aO,Bool.true_and,Bool.false_and,aT,aK,aD,aC,List.append_nil,aL,bK,aQ,bA,Nat.reduceAdd];rfl) rfl rfl cCa un3 cAi bVp cCe (by decide) rfl rfl rfl h0 hi (by omega) (by simp) (by omega) (by omega) ?_ g r;intro v;have e1:i+(u.length+1-i)=u.length+1:=by omega
    have e2:u.length+1-(i+1)=u.length-i:=by omega
    have e3:min 1 (u.length+1-i)=1:=by omega
    have e4:min (u.length-i) (u.length-i)=u.length-i:=by omega
    have hZl:(List.replicate (u.length+1-i) ([.s [],.i .i64 0,.i .i64 0,.s [],.s [],.e0,.e0]:List AV)).flatten.length=(u.length+1-i)*7:=lL _ _;generalize (List.replicate (u.length+1-i) ([.s [],.i .i64 0,.i .i64 0,.s [],.s [],.e0,.e0]:List AV)).flatten=Z at *
    rw[e1];have b1:(i≤u.length)=True:=eq_true hi;have b2:(i*7+(u.length-i)*7≤u.length*7)=True:=eq_true (by omega);have hX:((u.take i).flatMap prT).length=i*7:=by rw[fQ,bS];omega
    have hD:((u.drop i).flatMap prT).length=(u.length-i)*7:=by rw[fQ,eJ]
    have b5:List.take (i*7) ((u.take i).flatMap prT++Z)=(u.take i).flatMap prT:=by rw[← hX,O3]
    have b6:List.drop (i*7+7) ((u.take i).flatMap prT++Z)=Z.drop 7:=by rw[← hX,List.drop_append,tE (by omega)];simp
    have b7:∀W:List AV,List.take ((i+1)*7) ((u.take i).flatMap prT++(prT p++W))=(u.take i).flatMap prT++prT p:=fun W=>by
     rw[← cK,show(i+1)*7=((u.take i).flatMap prT++prT p).length by rw[List.length_append,hX,hpl];omega,O3]
    have b8:List.drop ((i+1)*7+(u.length-i)*7) ((u.take i).flatMap prT++(prT p++Z.drop 7))=[]:=tE (by rw[List.length_append,List.length_append,eJ,hX,hpl,hZl];omega);have bw:List.take ((u.length-i)*7) (List.drop (i*7) (u.flatMap prT))=(u.drop i).flatMap prT:=by rw[aGn,aS (by rw[hD];omega)]
    have bw2:List.take ((u.length-i)*7) ((u.drop i).flatMap prT)=(u.drop i).flatMap prT:=aS (by rw[hD];omega);simp -implicitDefEqProofs (disch:=omega) only[hw,hw2,hw3,hZl,e2,e3,e4,hpl,b5,b6,hX,go_sem,↓reduceIte,reduceAdd,reduceSub,reduceMul,reduceLeDiff,reduceLT,reduceEqDiff,reduceNeg,Nat.reduceBEq];refine⟨⟨by omega,by omega⟩,⟨hi,by omega⟩,?_⟩;simp -implicitDefEqProofs (disch:=omega) only[hw,hw2,hw3,hZl,e2,e3,e4,hpl,b1,b2,b5,b6,hX,hD,bw,bw2,b7,b8,ne_eq,not_true_eq_false,go_sem,↓reduceIte,reduceAdd,reduceSub,reduceMul,reduceLeDiff,reduceLT,reduceEqDiff,reduceNeg,Nat.reduceBEq];exact⟨by omega,_,[],by rw[List.flatMap_append,List.flatMap_cons,List.append_nil]⟩
   ·intro c hc;have hlt:¬((c:Nat):Int)<((u.length+1:Nat):Int):=by omega
    have hw3:IntKind.i64.wrap (((i:Nat):Int)+((1:Nat):Int))=((i+1:Nat):Int):=by rw[wrap64 (by omega) (by omega)];omega
    have hS:(List.replicate ((c-u.length)*7) AV.u).length=(c-u.length)*7:=List.length_replicate;generalize List.replicate ((c-u.length)*7) AV.u=S at *
    have hS7:7≤S.length:=by omega
    simp -implicitDefEqProofs (disch:=omega) only[zf hlt,go_sem,↓reduceIte,reduceAdd,reduceSub,reduceMul,reduceLeDiff,reduceLT,reduceEqDiff,reduceNeg,Nat.reduceBEq];clear r g X w a;refine oZ 4 1 (by simp only[strip,lA,eH,kZ,RX.off,ckF,ckX,zOf,exd,vOf,aD,aC,aY,aX,aF,Bool.and_true,Bool.and_false,aF,bP,bR,dI,fD,aW,bE,aJ,aH,dO,anyPre,Region.binds,Bool.not_true,Bool.not_false,aE,if_true,if_false,aP,aO,Bool.true_and,Bool.false_and,aT,aK,aD,aC,List.append_nil,aL,bK,aQ,bA,Nat.reduceAdd];rfl) (by simp only[strip,lA,eH,kZ,RX.off,ckF,ckX,zOf,exd,vOf,aD,aC,aY,aX,aF,Bool.and_true,Bool.and_false,aF,bP,bR,dI,fD,aW,bE,aJ,aH,dO,anyPre,Region.binds,Bool.not_true,Bool.not_false,aE,if_true,if_false,aP,aO,Bool.true_and,Bool.false_and,aT,aK,aD,aC,List.append_nil,aL,bK,aQ,bA,Nat.reduceAdd];rfl) ?_;simp -implicitDefEqProofs (disch:=omega) only[hw,go_sem,↓reduceIte,reduceAdd,reduceSub,reduceMul,reduceLeDiff,reduceLT,reduceEqDiff,reduceNeg,Nat.reduceBEq];intro X w a g r;refine aXt (T:=32) (el:=62) (j:=56) (i:=59) (id:=1) (n:=u.length) (m:=u.length+1) (sz:=7) (cells:=u.flatMap prT++S) rfl rfl bWm bVp rfl rfl rfl h0 (by decide) (by rw[List.length_append,fQ];omega) ?_ g r;simp -implicitDefEqProofs (disch:=omega) only[go_sem,↓reduceIte,reduceAdd,reduceSub,reduceMul,reduceLeDiff,reduceLT,reduceEqDiff,reduceNeg,Nat.reduceBEq];clear r g X w a;refine oZ 6 1 (by simp only[strip,lA,eH,kZ,RX.off,ckF,ckX,zOf,exd,vOf,aD,aC,aY,aX,aF,Bool.and_true,Bool.and_false,aF,bP,bR,dI,fD,aW,bE,aJ,aH,dO,anyPre,Region.binds,Bool.not_true,Bool.not_false,aE,if_true,if_false,aP,aO,Bool.true_and,Bool.false_and,aT,aK,aD,aC,List.append_nil,aL,bK,aQ,bA,Nat.reduceAdd];rfl) (by simp only[strip,lA,eH,kZ,RX.off,ckF,ckX,zOf,exd,vOf,aD,aC,aY,aX,aF,Bool.and_true,Bool.and_false,aF,bP,bR,dI,fD,aW,bE,aJ,aH,dO,anyPre,Region.binds,Bool.not_true,Bool.not_false,aE,if_true,if_false,aP,aO,Bool.true_and,Bool.false_and,aT,aK,aD,aC,List.append_nil,aL,bK,aQ,bA,Nat.reduceAdd];rfl) ?_;simp -implicitDefEqProofs (disch:=omega) only[hw3,go_sem,↓reduceIte,reduceAdd,reduceSub,reduceMul,reduceLeDiff,reduceLT,reduceEqDiff,reduceNeg,Nat.reduceBEq];refine⟨⟨by omega,by omega⟩,?_⟩;intro X w a g r;refine aNo (f:=200) (tS:=31) (tR:=4) (el:=62) (s0:=7) (j:=61) (i:=66) (id:=1) (off:=(i+1)*7) (n:=u.length+1-(i+1)) (m:=1) (cells:=u.flatMap prT++S) (c0:=prT p) rfl rfl aZn cAj (fP bVp) rfl (by omega) rfl rfl (by omega) ?_ g r;clear r g X w a;simp -implicitDefEqProofs (disch:=omega) only[hw,hw3,go_sem,↓reduceIte,reduceAdd,reduceSub,reduceMul,reduceLeDiff,reduceLT,reduceEqDiff,reduceNeg,Nat.reduceBEq];have e2:u.length+1-(i+1)=u.length-i:=by omega
    have e3:min 1 (u.length+1-i)=1:=by omega
    have e5:min (u.length+1-i) (u.length-i)=u.length-i:=by omega
    have hD:((u.drop i).flatMap prT).length=(u.length-i)*7:=by rw[fQ,eJ]
    have hX:((u.take i).flatMap prT).length=i*7:=by rw[fQ,bS];omega
    have hU:u.flatMap prT=(u.take i).flatMap prT++(u.drop i).flatMap prT:=by rw[← List.flatMap_append,eQ]
    have c1:(i*7+(u.length+1-i)*7≤u.length*7+S.length)=True:=eq_true (by omega);have c2:((i+1)*7+(u.length-i)*7≤u.length*7+S.length)=True:=eq_true (by omega);have bw:List.take ((u.length-i)*7) (List.take ((u.length+1-i)*7) (List.drop (i*7) (u.flatMap prT++S)))=(u.drop i).flatMap prT:=by
     rw[List.take_take,show min ((u.length-i)*7) ((u.length+1-i)*7)=(u.length-i)*7 by omega,hU,cK,← hX,List.drop_left,← hD,O3]
    refine⟨⟨hi,by omega⟩,⟨by omega,by omega⟩,?_⟩;simp only[e2,e5,c1,c2,bw,hD,if_true];have hTl:(List.take ((i+1)*7) (u.flatMap prT++S)).length=(i+1)*7:=by rw[bS,List.length_append,fQ];omega
    have hTx:List.take (i*7) (List.take ((i+1)*7) (u.flatMap prT++S))=(u.take i).flatMap prT:=by
     rw[List.take_take,show min (i*7) ((i+1)*7)=i*7 by omega,hU,cK,← hX,O3]
    have hRl:(List.drop ((i+1)*7+(u.length-i)*7) (u.flatMap prT++S)).length=S.length-7:=by rw[eJ,List.length_append,fQ];omega
    generalize List.take ((i+1)*7) (u.flatMap prT++S)=T1 at *
    generalize List.drop ((i+1)*7+(u.length-i)*7) (u.flatMap prT++S)=R1 at *
    have d1:List.take (i*7) (T1++((u.drop i).flatMap prT++R1))=(u.take i).flatMap prT:=by rw[List.take_append_of_le_length (by omega),hTx]
    have d2:List.drop (i*7+7) (T1++((u.drop i).flatMap prT++R1))=(u.drop i).flatMap prT++R1:=by rw[show i*7+7=T1.length by omega,List.drop_left]
    simp -implicitDefEqProofs (disch:=omega) only[hw,hw3,hTl,hRl,hD,hpl,e3,d1,d2,go_sem,↓reduceIte,reduceAdd,reduceSub,reduceMul,reduceLeDiff,reduceLT,reduceEqDiff,reduceNeg,Nat.reduceBEq];exact⟨⟨by omega,by omega⟩,by omega,_,R1,by rw[List.flatMap_append,List.flatMap_cons,cK,cK]⟩
theorem bEy{a b:Str}:gtS a b=decide (b<a):=by
 rw[gtS,bytesLess_eq,dK];simp only[dB,pF,decide_eq_false_iff_not,decide_eq_true_eq];exact⟨fun h=>K7 h.1 h.2,fun h=>⟨fun h2=>O4 _ (yX h h2),fun e=>by rw[e]at h;exact O4 _ h⟩⟩
theorem aDl{u:LSub}{x:Str}{k:Nat}(h1:0<k→¬x<(u.getD (k-1) default).1):∀{n:Nat},k≤n→(∀j,k≤j→j<n→x<(u.getD j default).1)→aHe u x n=k
 |0,hk,_=>by rw[aHe];omega
 |n + 1,hk,h2=>by
  rw[aHe];by_cases hn:k=n+1
  ·subst hn;rw[if_neg];rw[bEy];simpa using h1 (by omega)
  ·rw[if_pos (by rw[bEy,decide_eq_true_eq];exact h2 n (by omega) (by omega))];exact aDl h1 (by omega) (fun j a b=>h2 j a (by omega))
theorem bEq{u:LSub}{x:Str}{j:Nat}(h:j<oT u x):(u.getD j default).1<x:=by
 induction u generalizing j with
 |nil=>simp[oT]at h
 |cons p u ih=>
  by_cases hp:p.1<x
  ·have e:oT (p::u) x=oT u x+1:=by rw[oT,iX,zt hp];rfl
   cases j with
   |zero=>exact hp
   |succ j=>rw[eU];exact ih (by omega)
  ·have e:oT (p::u) x=0:=by rw[oT,iX,zf hp];rfl
   omega
theorem bPw{u:LSub}{x:Str}(h:oT u x<u.length):¬(u.getD (oT u x) default).1<x:=by
 induction u with
 |nil=>simp at h
 |cons p u ih=>
  by_cases hp:p.1<x
  ·have e:oT (p::u) x=oT u x+1:=by rw[oT,iX,zt hp];rfl
   rw[e]at h ⊢;rw[eU];exact ih (by simpa using h)
  ·have e:oT (p::u) x=0:=by rw[oT,iX,zf hp];rfl
   rw[e];exact hp
theorem aSv{u:LSub}{x:Str}(h:AscU u)(hn:mOf u x=none){j:Nat}(h1:oT u x≤j)(h2:j<u.length):x<(u.getD j default).1:=by
 have h3:=bPw (u:=u) (x:=x) (by omega);have h4:¬(u.getD (oT u x) default).1=x:=fun e=>by
  rw[aSu h,if_pos ⟨by omega,e⟩]at hn;cases hn
 have h5:=K7 h3 h4;by_cases he:j=oT u x
 ·rw[he];exact h5
 ·exact yX h5 (aWm h (by omega) h2)
theorem aKb{u:LSub}{x:Str}(h:AscU u)(hn:mOf u x=none):aHe u x u.length=oT u x:=
 aDl (fun h0 h1=>O4 _ (yX h1 (bEq (by omega)))) aSw (fun j a b=>aSv h hn a b)
theorem bMx{u:LSub}{x:Str}{t:LTerm}(h:AscU u)(hn:mOf u x=none):AscU (Y1 u x t):=by
 rw[Y1,aKb h hn];refine List.pairwise_append.2 ⟨h.sublist (List.take_sublist _ _),List.pairwise_cons.2 ⟨fun q hq=>?_,h.sublist (List.drop_sublist _ _)⟩,fun p hp q hq=>?_⟩
 ·obtain⟨j,hj⟩:=cU.1 hq;rw[eG]at hj;have hjl:=bH hj;have:=aSv h hn (j:=oT u x+j) (by omega) hjl;simpa[List.getD,hj]using this
 ·obtain⟨i,hi⟩:=cU.1 hp;rw[dZ]at hi;split at hi
  ·rename_i hil;have h1:=bEq (u:=u) (x:=x) (j:=i) hil;have h1:p.1<x:=by simpa[List.getD,hi]using h1
   rcases dD.1 hq with rfl|hq
   ·exact h1
   ·obtain⟨j,hj⟩:=cU.1 hq;rw[eG]at hj;have hjl:=bH hj;have:=aSv h hn (j:=oT u x+j) (by omega) hjl;exact yX h1 (by simpa[List.getD,hj]using this)
  ·cases hi
theorem bLa{h:List AObj}{id n sz:Nat}{fz:Bool}{cells sp:List AV}(hi:h[id]? = some (.arr fz sz (cells++sp)))(hl:cells.length=n*sz)(hp:persL cells=true):Fin h (.hs id 0 n false) (.sl cells n):=by
 refine .inr ⟨?_,by simp[cX],by simp[cX]⟩;show AV.sl cells n=gJ dep h (.hs id 0 n false);have hd:((cells++sp).drop 0).take (n*sz)=cells:=by rw[bA,← hl,O3]
 simp only[fS,pers,rQ,hi,hd,hp,if_true,aE,if_false];rw[if_pos (by rw[List.length_append];omega)]
theorem bFo(u:LSub)(x:Str)(t:LTerm)(ha:AscU u)(hn:mOf u x=none)(hl:u.length≤1000000): CT 70 [avu u,.s x,elT t] (avu (Y1 u x t)):=by
 refine aMz (rx:=true) (th:=fun i=>if i=2 then some ⟨none,[],true,false,true,[],[],7⟩else none) cI Tryz.func70 g0 ?_
 ·generalize hR:((avu (Y1 u x t)):AV)=R;simp -implicitDefEqProofs (disch:=omega) only[Tryz.f70,go_sem,List.replicate,simprocAttr,avu,elT,aI];have c:=bFn u x ha (by omega);have c2:=bRm u hl;simp only[avu]at c c2;(refine zy2 (zA2 @elT.eq_1 (zA2 @aI (zA2 @avt.eq_1 (zA2 @mL (zA2 @dV.{0} (zA2 @eO.{0} @List.append_nil.{0})))))) c c2 ?_;repeat' first|exact trivial|refine zJ ?_ ?_|refine zH fun hc=>?_);refine jC (Vo.frame (is:=[1]) g0 (bRo u (x,t) (oT u x) aSw hl) (by simp) rfl (fun i o ho=>?_) (by simp only[renL,ren,renL_pers _ _ eW,mY,prT,aI,avt])) ?_
  ·cases i with
   |zero=>simp only[bY,aA]at ho;subst ho;simp only[gG,AObj.ren,renL_pers _ _ jG];rfl
   |succ i=>simp at ho
  ·rintro r' h' ⟨r0,h1,⟨o,sp,rfl,rfl⟩,_,rfl,rfl⟩;simp only[D5,aK,aT,nX,bB,cH,dU,aQ,bA,AObj.ren,ren];have e:renL (emb [1] 2) ((u.take (oT u x)++(x,t)::u.drop (oT u x)).flatMap prT++sp)=(Y1 u x t).flatMap prT++renL (emb [1] 2) sp:=by
    rw[uP,bO,← uP,← uP,renL_pers _ _ jG,Y1,aKb ha hn]
   have em:emb [1] (1+1) 1=2:=rfl;rw[em,e];refine zg ?_;subst hR;have hlen:(Y1 u x t).length=u.length+1:=by rw[Y1,List.length_append,bB,bS,eJ];have:=aHd (u:=u) (x:=x) u.length;omega
   rw[avu,hlen];exact bLa rfl (by rw[fQ,hlen]) jG
end Go.Proofs.YtdjcggcjlphdoaaGreatDoor

/-
  Functions of the chapter, as plain functions of what they are given; no condition.
-/
import Derived.Test.YtdjcggcjlphdoaaGreatDoorVaP55
import Derived.Test.YtdjcggcjlphdoaaGreatDoorSoP53
import Derived.Test.YtdjcggcjlphdoaaGreatDoorSoP52
import Derived.Test.YtdjcggcjlphdoaaGreatDoorVoP61
import Derived.Test.YtdjcggcjlphdoaaGreatDoorTeP53
import Derived.Test.YtdjcggcjlphdoaaGreatDoorTeP54
import Derived.Test.YtdjcggcjlphdoaaGreatDoorVaP54
import Derived.Test.YtdjcggcjlphdoaaGreatDoorVoP60
import Derived.Test.YtdjcggcjlphdoaaGreatDoorVaP53
set_option maxRecDepth 100000
set_option linter.unusedSimpArgs false
set_option linter.unusedVariables false
set_option maxHeartbeats 4000000
namespace Go.Proofs.YtdjcggcjlphdoaaGreatDoor
open Go Go.Vo Go.Shelf Go.RowKit
open Nat (reduceAdd reduceSub reduceMul reduceLeDiff reduceLT reduceEqDiff)
open Int (reduceNeg)
end Go.Proofs.YtdjcggcjlphdoaaGreatDoor
namespace Go.Proofs.YtdjcggcjlphdoaaGreatDoor
open Go Go.Vo
open Nat (reduceAdd reduceSub reduceMul reduceLeDiff reduceLT reduceEqDiff)
open Int (reduceNeg)
end Go.Proofs.YtdjcggcjlphdoaaGreatDoor
namespace Go.Proofs.YtdjcggcjlphdoaaGreatDoor
open Go Go.Vo
open Nat (reduceAdd reduceSub reduceMul reduceLeDiff reduceLT reduceEqDiff)
open Int (reduceNeg)
end Go.Proofs.YtdjcggcjlphdoaaGreatDoor
namespace Go.Proofs.YtdjcggcjlphdoaaGreatDoor
open Go Go.Vo
open Nat (reduceAdd reduceSub reduceMul reduceLeDiff reduceLT reduceEqDiff)
open Int (reduceNeg)
def cGc(a:bVl):Nat:=1+a.path.length+a.test.text.length / 40
def bUz:List bVl→Nat
 | []=>0
 |a::l=>cGc a+bUz l
@[simp] theorem bUy:bUz []=0:=rfl
end Go.Proofs.YtdjcggcjlphdoaaGreatDoor
namespace Go.Proofs.YtdjcggcjlphdoaaGreatDoor
open Go Go.Vo
open Nat (reduceAdd reduceSub reduceMul reduceLeDiff reduceLT reduceEqDiff)
open Int (reduceNeg)
def aJr(s:dF)(t:LTerm):Bool:=decide ((argsR2 s t.text).1.length=t.kids.length)&&Q1 t.kids.length (fun i=>sP s (ofR s (t.kids.getD i default)).1 ((argsR2 s t.text).1.getD i [])||sP s ((argsR2 s t.text).1.getD i []) (ofR s (t.kids.getD i default)).1)
mutual
def wO(s:dF):LTerm→Bool
 | .mk k n x so ks rs=>(ofR s (.mk k n x so ks rs)).2&&(fitsRL s ks&&(if k=5 then aJr s (.mk k n x so ks rs)else true))
def fitsRL(s:dF):List LTerm→Bool
 | []=>true
 |k::l=>wO s k&&fitsRL s l
end
theorem aEd{s:dF}:∀l,fitsRL s l=l.all (wO s)
 | []=>rfl
 |k::l=>by rw[fitsRL,aEd l];rfl
theorem Z0(s:dF)(t:LTerm):wO s t=((ofR s t).2&&(t.kids.all (wO s)&&(if t.kind=5 then aJr s t else true))):=by
 cases t;rw[wO,aEd];rfl
theorem bBt(s:dF)(t:LTerm)(hm:Small s)(hs:OkS s)(ht:OkT t)(ih:∀k∈t.kids,CT 185 [.agg (bX s),elT k] (.b (wO s k))): CT 185 [.agg (bX s),elT t] (.b (wO s t)):=by
 refine aZ cI Tryz.func185 g0 ?_
 ·skip;have e:=Z0 s t;have hk1:=ht.kids;have c0:=aLi s t hs;have c1:=bGd s t.text hs;obtain⟨⟨l,so,ok⟩,hq⟩:∃p,argsR2 s t.text=p:=⟨_,rfl⟩;obtain⟨⟨sx,ok0⟩,ho⟩:∃p,ofR s t=p:=⟨_,rfl⟩;simp only[aJr,hq,ho]at e;rw[hq]at c1;rw[ho]at c0;cases ok0 with
  |false=>
   (refine zt1 c0 ?_;repeat' first|exact trivial|refine zJ ?_ ?_|refine zH fun hc=>?_);all_goals exact aV (by rw[e,Bool.false_and]) rfl
  |true=>
  rw[Bool.true_and]at e;(refine zt1 c0 ?_;repeat' first|exact trivial|refine zJ ?_ ?_|refine zH fun hc=>?_);refine gW (fun(k:Nat)=>(.k::.k::.k::.k::.j::.k::.k::.k::.j::(rp 18 .k (.v (.i .i64 (k:Nat))::(rp 8 .j (rp 40 .k [])))))) (fun k=>[.box false (bX s),.box false (tmC t)]) (fun k=>k≤t.kids.length∧∀j,j<k→wO s (t.kids.getD j default)=true) (fun k=>t.kids.length-k) (0) [] ⟨aR _,fun j h=>by omega⟩ (by simp[avs,avb,avi,avo,bG,bX]) (by simp[fO]) ?_;rintro k g j ⟨hk,ha⟩;have o:k<t.kids.length→CT 185 [.agg (bX s),elT (t.kids.getD k default)] (.b (wO s (t.kids.getD k default))):=fun h=>ih _ (cC h);refine zg ?_;(refine zt2 o c1 ?_;repeat' first|exact trivial|refine zJ ?_ ?_|refine zH fun hc=>?_);all_goals first
   |exact aV (by rw[e,yT k (by omega) hc,Bool.false_and]) rfl
   |exact⟨k+1,_,⟨by omega,cR ha hc⟩,by omega,rfl,by simp⟩
   |skip
  all_goals rw[pX (fun j hj=>ha j (by omega)),Bool.true_and]at e
  all_goals first
   |(exfalso;omega)
   |exact aV (by rw[e,if_neg (by assumption)]) rfl
   |exact aV (by rw[e,if_pos (by omega),zf (by omega:¬l.length=t.kids.length),Bool.false_and]) rfl
   |skip
  have hn:l.length=t.kids.length:=by omega
  rw[if_pos (by omega),zt hn,Bool.true_and]at e;refine gW (fun(k:Nat)=>(.k::.k::.k::.k::.j::(rp 7 .k (.j::.j::.j::.j::(rp 40 .k (.v (.i .i64 (k:Nat))::(rp 19 .j []))))))) (fun k=>(.box false (bX s)::.box false (tmC t)::g)) (fun k=>k≤t.kids.length∧∀j,j<k→(sP s (ofR s (t.kids.getD j default)).1 (l.getD j [])||sP s (l.getD j []) (ofR s (t.kids.getD j default)).1)=true) (fun k=>t.kids.length-k) (0) [] ⟨aR _,fun j h=>by omega⟩ (by simp[avs,avb,avi,avo,bG,bX]) (by simp[fO]) ?_;rintro kk g2 j2 ⟨hkk,ha2⟩;refine zg ?_;(refine zt2 (aLi s (t.kids.getD kk default) hs) (bZb s (ofR s (t.kids.getD kk default)).1 (l.getD kk []) hm) ?_;repeat' first|exact trivial|refine zJ ?_ ?_|refine zH fun hc=>?_);all_goals first
   |exact aV (by rw[e,iZ kk (by omega) hc]) rfl
   |exact⟨kk+1,_,⟨by omega,cR ha2 hc⟩,by omega,rfl,by simp⟩
   |exact aV (by rw[e,mH (fun j hj=>ha2 j (by omega))]) rfl
   |(exfalso;omega)
theorem bSm(s:dF)(hm:Small s)(hs:OkS s):∀(t:LTerm),OkT t→CT 185 [.agg (bX s),elT t] (.b (wO s t)):=
 fG fun t hk _ ht=>bBt s t hm hs ht (fun k hmm=>hk k hmm (ht.kid k hmm))
theorem bSn(s:dF)(t:LTerm)(hm:Small s)(hs:OkS s)(ht:OkT t): CT 113 [.agg (bX s),elT t] (.b (iQ dQ t&&wO s t)):=by
 refine aZ cI Tryz.func113 g0 ?_
 ·skip;(refine zt2 (bGe t ht) (bSm s hm hs t ht) ?_;repeat' first|exact trivial|refine zJ ?_ ?_|refine zH fun hc=>?_);all_goals exact aV rfl rfl
end Go.Proofs.YtdjcggcjlphdoaaGreatDoor
namespace Go.Proofs.YtdjcggcjlphdoaaGreatDoor
open Go Go.Vo
open Nat (reduceAdd reduceSub reduceMul reduceLeDiff reduceLT reduceEqDiff)
open Int (reduceNeg)
theorem aJx{t:LTerm}(h:dQ t=true):1≤t.kind∧t.kind≤8:=by
 unfold dQ at h;by_cases h1:t.kind=1;· omega
 by_cases h2:t.kind=2;· omega
 by_cases h3:t.kind=3;· omega
 by_cases h4:t.kind=4;· omega
 by_cases h5:t.kind=5;· omega
 by_cases h6:t.kind=6;· omega
 by_cases h7:t.kind=7;· omega
 by_cases h8:t.kind=8;· omega
 rw[if_neg h1,if_neg h2,if_neg h3,if_neg h4,if_neg h5,if_neg h6,if_neg h7,if_neg h8]at h;cases h
theorem aMr{s:dF}(h:fM s=true):∀o∈s.funs,Y4 s o=true:=by
 simp only[fM,oO,pO,qL,aB,bF,decide_eq_true_eq]at h;exact h.2.2
theorem aOp:jO.all (fun x=>decide (aOx x=(N1 x).1)&&decide (zI x=(N1 x).2)&&iD.contains (zI x)&&(aOx x).all iD.contains)=true:=by decide +kernel
structure bDv(s:dF)(x:Str):Prop where
 ok:(called s x).2.2=(argsR2 s x).2.2
 args:(called s x).2.2=true→(called s x).1.args=(argsR2 s x).1
 sort:(called s x).2.2=true→(called s x).1.sort=(argsR2 s x).2.1
 exS:(called s x).2.2=true→existsA s (called s x).1.sort=true
 exA:(called s x).2.2=true→∀y∈(called s x).1.args,existsA s y=true
 no:(called s x).2.2=false→(called s x).1.sort=[]
theorem aEz{s:dF}{x:Str}(hv:fM s=true):bDv s x:=by
 cases h1:X5 s x with
 |some o=>
  have ho:=aBr hv o (aJt h1);have hs:=aSh ho;simp only[aTk,opHead,aB,bF]at ho;have ha:=ho.1.1.1.1.1.1.2;constructor<;>simp only[called,argsR2,h1]<;>intros<;>first|rfl|exact hs|exact ha _ ‹_› |trivial|contradiction
 |none=>
  cases h2:K8 s x with
  |some o=>
   have ho:=aMr hv o (lH h2);simp only[Y4,aB,bF]at ho;have ha:=ho.1.1.2;have hs:=ho.1.2;constructor<;>simp only[called,argsR2,h1,h2]<;>intros<;>first|rfl|exact hs|exact ha _ ‹_› |trivial|contradiction
  |none=>
   rcases kC (jO.contains x)with h3|h3
   ·have hb:=bF.1 aOp x (eS.1 h3);simp only[aB,decide_eq_true_eq,bF]at hb;obtain⟨⟨⟨b1,b2⟩,b3⟩,b4⟩:=hb;have hs:existsA s (zI x)=true:=mF (eS.1 b3);have ha:∀y∈aOx x,existsA s y=true:=fun y hy=>mF (eS.1 (b4 y hy));constructor<;>simp only[called,argsR2,h1,h2,uD,h3,if_true]<;>intros<;>first|rfl|exact b1|exact b2|exact hs|exact ha _ ‹_› |trivial|contradiction
   ·constructor<;>simp only[called,argsR2,h1,h2,uD,h3,aE,if_false]<;>intros<;>first|rfl|trivial|contradiction
theorem bJn{s:dF}{t:LTerm}(hv:fM s=true)(hn:dQ t=true):((ofR s t).2=true→jU s t=(ofR s t).1∧existsA s (jU s t)=true)∧((ofR s t).2=false→jU s t=[]):=by
 have hk:=aJx hn;have hc:=aEz (x:=t.text) hv;by_cases h5:t.kind=5
 ·simp only[jU,ofR,h5,Int.reduceEq,if_true,if_false];rw[← hc.ok];exact⟨fun h=>⟨hc.sort h,hc.exS h⟩,hc.no⟩
 by_cases h6:t.kind=6
 ·simp only[jU,ofR,h6,Int.reduceEq,if_true,if_false,exists_eq];exact⟨fun h=>by rw[if_pos h];exact⟨rfl,h⟩,fun h=>by rw[if_neg (by rw[h];simp)]⟩
 have e:∀(a:Str),a∈iD→(True→True∧existsA s a=true)∧(true=false→a=[]):=fun a ha=>⟨fun _=>⟨trivial,mF ha⟩,fun h=>by cases h⟩;by_cases h1:t.kind=1
 ·simp only[jU,ofR,h1,Int.reduceEq,if_true,if_false];exact e mE (by decide)
 by_cases h2:t.kind=2
 ·simp only[jU,ofR,h2,Int.reduceEq,if_true,if_false];exact e mM (by decide)
 by_cases h3:t.kind=3
 ·simp only[jU,ofR,h3,Int.reduceEq,if_true,if_false];exact e zF (by decide)
 by_cases h4:t.kind=4
 ·simp only[jU,ofR,h4,Int.reduceEq,if_true,if_false];exact e idS (by decide)
 by_cases h7:t.kind=7
 ·simp only[jU,ofR,h7,Int.reduceEq,if_true,if_false];exact e tW (by decide)
 have h8:t.kind=8:=by omega
 simp only[jU,ofR,h8,Int.reduceEq,if_true,if_false];exact e J8 (by decide)
theorem bKw{s:dF}(hv:fM s=true):∀t:LTerm,wfT dQ t=true→wO s t=qE s t:=
 fG (Q := fun t=>wfT dQ t=true→wO s t=qE s t) fun t hk _ hw=>by
  have hw':=nF.1 hw;have ek:t.kids.all (wO s)=t.kids.all (qE s):=all_congr fun x hx=>hk x hx (hw'.2 x hx);rw[Z0,aKo,ek];rcases kC (t.kids.all (qE s))with ha|ha
  ·rw[ha,Bool.true_and,Bool.true_and]
   have hc:=aEz (x:=t.text) hv;by_cases h6:t.kind=6
   ·rw[if_pos h6,if_neg (by omega),Bool.and_true];simp only[ofR,h6,Int.reduceEq,if_true,if_false,exists_eq]
   rw[if_neg h6];by_cases h5:t.kind=5
   ·rw[if_pos h5,if_pos h5,aJs,aJr]
    have e2:(ofR s t).2=(called s t.text).2.2:=by simp only[ofR,h5,Int.reduceEq,if_true,if_false];exact hc.ok.symm
    rw[e2];rcases kC (called s t.text).2.2 with ho|ho
    ·rw[ho,Bool.true_and,Bool.true_and,← hc.args ho]
     by_cases hn:(called s t.text).1.args.length=t.kids.length
     ·rw[zt hn,Bool.true_and,Bool.true_and];refine zY fun j hj=>?_;have hm:t.kids.getD j default∈t.kids:=cC hj;have hf:wO s (t.kids.getD j default)=true:=by rw[hk _ hm (hw'.2 _ hm)];exact bF.1 ha _ hm
      have hof:(ofR s (t.kids.getD j default)).2=true:=by rw[Z0,aB]at hf;exact hf.1
      have q:=(bJn hv (nF.1 (hw'.2 _ hm)).1).1 hof;have hx:existsA s ((called s t.text).1.args.getD j [])=true:=hc.exA ho _ (by
       have:j<(called s t.text).1.args.length:=by omega
       simp only[List.getD,bQ this,eC];exact wU this)
      rw[← q.1,E5 q.2,E5 hx,aSr]
     ·rw[zf hn,Bool.false_and,Bool.false_and]
    ·rw[ho,Bool.false_and,Bool.false_and]
   ·rw[if_neg h5,if_neg h5,Bool.and_true];have hkk:=aJx hw'.1;simp only[ofR];repeat' split
    all_goals first|rfl|omega
  ·rw[ha,Bool.false_and,Bool.false_and,Bool.and_false]
end Go.Proofs.YtdjcggcjlphdoaaGreatDoor
namespace Go.Proofs.YtdjcggcjlphdoaaGreatDoor
open Go Go.Vo
open Nat (reduceAdd reduceSub reduceMul reduceLeDiff reduceLT reduceEqDiff)
open Int (reduceNeg)
theorem bKx(s:dF)(t:LTerm)(hm:Small s)(hs:OkS s)(ht:OkT t)(hv:fM s=true):CT 113 [.agg (bX s),elT t] (.b (iQ dQ t&&qE s t)):=by
 have c:=bSn s t hm hs ht;rcases kC (iQ dQ t)with h|h
 ·rwa[bKw hv t (pN h)]at c
 ·rw[h,Bool.false_and]at c ⊢;exact c
end Go.Proofs.YtdjcggcjlphdoaaGreatDoor
namespace Go.Proofs.YtdjcggcjlphdoaaGreatDoor
open Go Go.Vo
open Nat (reduceAdd reduceSub reduceMul reduceLeDiff reduceLT reduceEqDiff)
open Int (reduceNeg)
end Go.Proofs.YtdjcggcjlphdoaaGreatDoor

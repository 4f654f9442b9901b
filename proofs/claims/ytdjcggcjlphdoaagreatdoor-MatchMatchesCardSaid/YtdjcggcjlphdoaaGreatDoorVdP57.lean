/-
  Functions of the chapter, as plain functions of what they are given; no condition.
-/
import Derived.Test.YtdjcggcjlphdoaaGreatDoorVdP56
import Derived.Test.YtdjcggcjlphdoaaGreatDoorVoP65
set_option maxRecDepth 100000
set_option linter.unusedSimpArgs false
set_option linter.unusedVariables false
set_option maxHeartbeats 4000000
namespace Go.Proofs.YtdjcggcjlphdoaaGreatDoor
open Go Go.Vo
open Nat (reduceAdd reduceSub reduceMul reduceLeDiff reduceLT reduceEqDiff)
open Int (reduceNeg)
theorem bMg:aXi Tryz.prog 49 wK 138:=⟨aOl,aOk⟩
def rM(s:dF)(p t:LTerm)(u:LSub):MR:=dX s (nodesT p) p t [u] false
theorem aHy(x:Value)(w:World):(invoke (.fn (.func 49) #[]) #[x]).run Tryz.prog w=.ok (.enter 49 #[x]) w:=by
 simp[invoke,B5 (show gK Tryz.prog 49=true by kernel_rfl)]
theorem bLb{pre g:List AObj}{sz n:Nat}{out:AV}{cells:List AV}{e:Int}(ho:gD sz pre.length g out cells n)(hp:persL cells=true):Fin (pre++g) (.tup [out,.i .i64 e]) (.tup [.sl cells n,.i .i64 e]):=by
 rcases ho with⟨rfl,rfl,rfl⟩|⟨i,rfl,hi,hl⟩
 ·exact .inr ⟨⟨rfl,rfl,trivial⟩,by simp[cX,finIdsL],by simp[cX,finIdsL]⟩
 ·have e1:pI (pre++g) (.hs (i+pre.length) 0 n false) (.sl cells n):=by
   show AV.sl cells n=gJ dep (pre++g) (.hs (i+pre.length) 0 n false);have hg:(pre++g)[i+pre.length]? = some (.arr false sz cells):=by
    rw[aN (by omega)];simpa using hi
   have hd:(cells.drop 0).take (n*sz)=cells:=by rw[bA,aS (by omega)]
   simp only[fS,pers,rQ,hg,hd,hp,if_true,aE,if_false];rw[if_pos (by omega)]
  exact .inr ⟨⟨e1,rfl,trivial⟩,by simp[cX,finIdsL],by simp[cX,finIdsL]⟩
theorem L4{h:List AObj}{o:Int}:Vo.Fin h (.tup [.e0,.i .i64 o]) (.tup [avw [],.i .i64 o]):=.inr ⟨⟨rfl,rfl,trivial⟩,eM,fun i hi=>by cases hi⟩
def kU(s:dF)(p t:LTerm)(u:LSub):List LSub×Int:=
 if aJl s p=true∧fN s t=true∧nV s u=true then(if(rM s p t u).2=true then([],3)else((rM s p t u).1,0))else([],2)
theorem M3(s:dF)(p t:LTerm)(u:LSub)(hm:Small s)(hs:OkS s)(op:OkT p)(ot:OkT t)(hu:OkU 100000 u)(hn:∀q∈u,q.1.length≤140737488355328)(hnp:nodesT p≤100000)(hnt:nodesT t≤100000) :
 CT 12 [.agg (bX s),elT p,elT t,avu u] (.tup [avw (kU s p t u).1,.i .i64 (kU s p t u).2]):=by
 generalize hR:(AV.tup [avw (kU s p t u).1,.i .i64 (kU s p t u).2])=R;refine aAa g0 (aAz Tryz.func12 rfl (by kernel_rfl) fun X w g=>?_);have hu6:=hu.mono (show 100000≤1000000 by omega);have c1:=aOg s hm hs;have c3:=bFt s p hm op;have c4:=aVg s t hm ot;have c5:=aLa s u hm hu6 hn;simp only[avu]at c5;have hul:=hu.1;simp only[avu,elT,aI,Tryz.ntmps12,bB,cH,List.replicate,aH,aJ,Nat.reduceAdd,Nat.reduceSub];refine aAs (ac:=?_) (rx:=false) (th:=fun _=>none) cI (by kernel_rfl) ?_ ?_;rotate_left
 ·simp only[strip,lA,eH,kZ,RX.off,ckF,ckX,zOf,exd,vOf,aD,aC,aY,aX,aF,Bool.and_true,Bool.and_false,aF,bP,bR,dI,fD,aW,bE,aJ,aH,dO,anyPre,Region.binds,Bool.not_true,Bool.not_false,aE,if_true,if_false,aP,aO,Bool.true_and,Bool.false_and,aT,aK,aD,aC,List.append_nil,aL,bK,aQ,bA,Nat.reduceAdd];rfl
 refine zg ?_;refine aAs (ac:=?_) (rx:=false) (th:=fun _=>none) cI (by kernel_rfl) ?_ ?_;rotate_left
 ·simp only[strip,lA,eH,kZ,RX.off,ckF,ckX,zOf,exd,vOf,aD,aC,aY,aX,aF,Bool.and_true,Bool.and_false,aF,bP,bR,dI,fD,aW,bE,aJ,aH,dO,anyPre,Region.binds,Bool.not_true,Bool.not_false,aE,if_true,if_false,aP,aO,Bool.true_and,Bool.false_and,aT,aK,aD,aC,List.append_nil,aL,bK,aQ,bA,Nat.reduceAdd];rfl
 rw[kU,aJl]at hR;by_cases hv:fM s=true
 ·rw[hv]at c1
  have c2:=aEr s hm (jF hv);rw[hv,Bool.true_and]at hR;refine zg ?_;(repeat'(first|refine gT ?_ ?_|refine gF ?_ ?_|refine gC ?_ ?_|((refine bM (c1) ?_ ?_;(focus(simp -implicitDefEqProofs (disch:=omega) only[Bool.not_true,zdB,go_sem,simprocAttr];done)));simp -implicitDefEqProofs (disch:=omega) only[Bool.not_true,go_sem,simprocAttr])|refine aU (by omega) ?_|(intro hr;have hc:=hr;(try simp only[zdz]at hc);simp -implicitDefEqProofs (disch:=omega) only[hr,Bool.not_true,go_sem,simprocAttr];(try clear hr))));refine aAs (ac:=?_) (rx:=false) (th:=fun _=>none) cI (by kernel_rfl) ?_ ?_;rotate_left
  ·simp only[strip,lA,eH,kZ,RX.off,ckF,ckX,zOf,exd,vOf,aD,aC,aY,aX,aF,Bool.and_true,Bool.and_false,aF,bP,bR,dI,fD,aW,bE,aJ,aH,dO,anyPre,Region.binds,Bool.not_true,Bool.not_false,aE,if_true,if_false,aP,aO,Bool.true_and,Bool.false_and,aT,aK,aD,aC,List.append_nil,aL,bK,aQ,bA,Nat.reduceAdd];rfl
  refine zg ?_;(refine zt1 c2 ?_;repeat' first|exact trivial|refine zJ ?_ ?_|refine zH fun hc=>?_);refine aAs (ac:=?_) (rx:=false) (th:=fun _=>none) cI (by kernel_rfl) ?_ ?_;rotate_left
  ·simp only[strip,lA,eH,kZ,RX.off,ckF,ckX,zOf,exd,vOf,aD,aC,aY,aX,aF,Bool.and_true,Bool.and_false,aF,bP,bR,dI,fD,aW,bE,aJ,aH,dO,anyPre,Region.binds,Bool.not_true,Bool.not_false,aE,if_true,if_false,aP,aO,Bool.true_and,Bool.false_and,aT,aK,aD,aC,List.append_nil,aL,bK,aQ,bA,Nat.reduceAdd];rfl
  by_cases hq:aZi s p=true∧fN s t=true∧nV s u=true
  ·rw[if_pos hq]at hR
   obtain⟨h1,h2,h3⟩:=hq;rw[h1]at c3;rw[h2]at c4;rw[h3]at c5;have on:OkN p:=⟨op,pN (S7 (by rw[aJl,hv,h1];rfl))⟩;have otn:OkN t:=⟨ot,pN (by rw[fN,aB]at h2;exact h2.1)⟩;have cA:=bRr s p t [u] hm on otn h2 hnp (by omega) (fun x hx=>by rw[bJ.1 hx];exact hu) (fun x hx=>by rw[bJ.1 hx];exact Q9 h3) (by simp);rw[show dX s (nodesT p) p t [u] false=rM s p t u from rfl]at cA;refine zg ?_;(repeat'(first|refine gT ?_ ?_|refine gF ?_ ?_|refine gC ?_ ?_|((first|(refine bM (c3) ?_ ?_;(focus(simp -implicitDefEqProofs (disch:=omega) only[Bool.not_true,zdB,go_sem,simprocAttr];done)))|(refine bM (c4) ?_ ?_;(focus(simp -implicitDefEqProofs (disch:=omega) only[Bool.not_true,zdB,go_sem,simprocAttr];done)))|(refine bM (c5) ?_ ?_;(focus(simp -implicitDefEqProofs (disch:=omega) only[Bool.not_true,zdB,go_sem,simprocAttr];done))));simp -implicitDefEqProofs (disch:=omega) only[Bool.not_true,go_sem,simprocAttr])|refine aU (by omega) ?_|(intro hr;have hc:=hr;(try simp only[zdz]at hc);simp -implicitDefEqProofs (disch:=omega) only[hr,Bool.not_true,go_sem,simprocAttr];(try clear hr))));refine aWg (ac:=?_) (rx:=false) (th:=fun _=>none) cI bMg cDl rfl rfl rfl aHy rfl rfl (by kernel_rfl) ?_ ?_;rotate_left
   ·simp only[strip,lA,eH,kZ,RX.off,ckF,ckX,zOf,exd,vOf,aD,aC,aY,aX,aF,Bool.and_true,Bool.and_false,aF,bP,bR,dI,fD,aW,bE,aJ,aH,dO,anyPre,Region.binds,Bool.not_true,Bool.not_false,aE,if_true,if_false,aP,aO,Bool.true_and,Bool.false_and,aT,aK,aD,aC,List.append_nil,aL,bK,aQ,bA,Nat.reduceAdd];rfl
   ·intro ds;simp -implicitDefEqProofs (disch:=omega) only[Tryz.results12,go_sem,simprocAttr];refine aAi (fun fz=>[.box false (bX s),.box false (tmC p),.box false (tmC t),.box false [.i .i64 0],.arr fz 1 [.sl (u.flatMap prT) u.length]]) cA (fun H=>rfl) ?_ rfl ?_ (fun hb=>?_) (fun fz hb=>?_)
    ·exact zv (zA2 @avw.eq_1 (zA2 @avu.eq_1 (zA2 @elT.eq_1 (zA2 @aI @cD.eq_1))))
    ·exact zu
    ·refine zg ?_;rw[if_pos hb]at hR;subst hR;exact⟨⟨_,rfl⟩,L4⟩
    ·rw[if_neg (by rw[hb];simp)]at hR;refine zh @avw.eq_1 ?_;obtain⟨hok,hlen⟩:=mQ (s:=s) (nodesT p) p t [u] false 100000 otn (fun x hx=>by rw[bJ.1 hx];exact hu) (by simp);rw[show dX s (nodesT p) p t [u] false=rM s p t u from rfl]at hok hlen;have hok:=hok.mono (show 100000+nodesT p≤1000000 by omega);generalize (rM s p t u).1=L at *
     refine cO (fun(q:Nat×AV×List AObj)=>(rp 11 .k (.v (q.2.1)::.k::.j::(rp 28 .k (.v (.i .i64 (q.1:Nat))::(rp 9 .j [.k,.k])))))) (fun q=>(.box false (bX s)::.box false (tmC p)::.box false (tmC t)::.box false [.i .i64 0]::q.2.2)) (fun q=>q.1≤L.length∧gD 1 4 q.2.2 q.2.1 ((L.take q.1).map avu) (L.take q.1).length) (fun q=>L.length-q.1) ((0,.e0,[.arr fz 1 [.sl (u.flatMap prT) u.length]])) ⟨aR _,eX⟩ rfl (by simp[fO]) ?_;rintro⟨k,out,g⟩ j ⟨hk,hb'⟩;dsimp only at hk hb';have hll:=hlen;by_cases hlt:k<L.length
     ·have hki:decide ((k:Int)<((L.length:Nat):Int))=true:=zt (by omega);have hX:(L.take (k+1)).map avu=(L.take k).map avu++[avu (L.getD k default)]:=by rw[lI hlt,bO];simp[List.getD,hlt]
      have hl:(L.take k).length≤1000:=by rw[bS];omega
      have hl2:(L.take (k+1)).length=(L.take k).length+1:=by rw[bS,bS];omega
      have c2:=bRq (L.getD k default) (hok _ (cC (d:=default) hlt));refine zh (zA2 hki @avu.eq_1) ?_;repeat refine aU (by omega) ?_
      refine bM c2 ?_ ?_
      ·exact zv @avu.eq_1
      refine zh @avu.eq_1 ?_;refine eI (pre:=[.box false (bX s),.box false (tmC p),.box false (tmC t),.box false [.i .i64 0]]) (g:=g) (more:=[.arr false 1 [avu (L.getD k default)]]) (news:=[avu (L.getD k default)]) (m:=1) hb' rfl ?_ bBg aXo aYa bCq rfl (by decide) ?_ ?_ ⟨by omega,by omega⟩ ?_
      ·simp only[aH,aJ,cK,avu,bX,avs,avb,avo]
      ·exact zu
      ·exact zv @avu.eq_1
      intro out' g' ho' _;refine zg ?_;refine⟨(k+1,out',g'),⟨by dsimp only;omega,?_⟩,by dsimp only;omega,rfl,by simp⟩;dsimp only;rw[hX,hl2];exact ho'
     ·have hki:decide ((k:Int)<((L.length:Nat):Int))=false:=zf (by omega);obtain rfl:k=L.length:=by omega
      rw[aS (bT _)]at hb';simp -implicitDefEqProofs (disch:=omega) only[hki,Tryz.results12,go_sem,simprocAttr];subst hR;exact bLb (pre:=[.box false (bX s),.box false (tmC p),.box false (tmC t),.box false [.i .i64 0]]) hb' iW
  ·rw[if_neg hq]at hR
   refine zg ?_;cases h1:aZi s p with
   |false=>
    rw[h1]at c3;(repeat'(first|refine gT ?_ ?_|refine gF ?_ ?_|refine gC ?_ ?_|((refine bM (c3) ?_ ?_;(focus(simp -implicitDefEqProofs (disch:=omega) only[Bool.not_true,Bool.not_false,zdB,go_sem,simprocAttr];done)));simp -implicitDefEqProofs (disch:=omega) only[Bool.not_true,Bool.not_false,go_sem,simprocAttr])|refine aU (by omega) ?_|(intro hr;have hc:=hr;(try simp only[zdz]at hc);simp -implicitDefEqProofs (disch:=omega) only[hr,Bool.not_true,Bool.not_false,go_sem,simprocAttr];(try clear hr))));subst hR;simp -implicitDefEqProofs (disch:=omega) only[Tryz.results12,go_sem,simprocAttr];exact L4
   |true=>
    rw[h1]at c3;cases h2:fN s t with
    |false=>
     rw[h2]at c4;(repeat'(first|refine gT ?_ ?_|refine gF ?_ ?_|refine gC ?_ ?_|((first|(refine bM (c3) ?_ ?_;(focus(simp -implicitDefEqProofs (disch:=omega) only[Bool.not_true,Bool.not_false,zdB,go_sem,simprocAttr];done)))|(refine bM (c4) ?_ ?_;(focus(simp -implicitDefEqProofs (disch:=omega) only[Bool.not_true,Bool.not_false,zdB,go_sem,simprocAttr];done))));simp -implicitDefEqProofs (disch:=omega) only[Bool.not_true,Bool.not_false,go_sem,simprocAttr])|refine aU (by omega) ?_|(intro hr;have hc:=hr;(try simp only[zdz]at hc);simp -implicitDefEqProofs (disch:=omega) only[hr,Bool.not_true,Bool.not_false,go_sem,simprocAttr];(try clear hr))));subst hR;simp -implicitDefEqProofs (disch:=omega) only[Tryz.results12,go_sem,simprocAttr];exact L4
    |true=>
     have h3:nV s u=false:=cT.2 fun h=>hq ⟨h1,h2,h⟩;rw[h2]at c4;rw[h3]at c5;(repeat'(first|refine gT ?_ ?_|refine gF ?_ ?_|refine gC ?_ ?_|((first|(refine bM (c3) ?_ ?_;(focus(simp -implicitDefEqProofs (disch:=omega) only[Bool.not_true,Bool.not_false,zdB,go_sem,simprocAttr];done)))|(refine bM (c4) ?_ ?_;(focus(simp -implicitDefEqProofs (disch:=omega) only[Bool.not_true,Bool.not_false,zdB,go_sem,simprocAttr];done)))|(refine bM (c5) ?_ ?_;(focus(simp -implicitDefEqProofs (disch:=omega) only[Bool.not_true,Bool.not_false,zdB,go_sem,simprocAttr];done))));simp -implicitDefEqProofs (disch:=omega) only[Bool.not_true,Bool.not_false,go_sem,simprocAttr])|refine aU (by omega) ?_|(intro hr;have hc:=hr;(try simp only[zdz]at hc);simp -implicitDefEqProofs (disch:=omega) only[hr,Bool.not_true,Bool.not_false,go_sem,simprocAttr];(try clear hr))));subst hR;simp -implicitDefEqProofs (disch:=omega) only[Tryz.results12,go_sem,simprocAttr];exact L4
 ·rw[cT.2 hv]at c1;rw[if_neg (fun h=>by simp[hv]at h)]at hR;refine zg ?_;(repeat'(first|refine gT ?_ ?_|refine gF ?_ ?_|refine gC ?_ ?_|((refine bM (c1) ?_ ?_;(focus(simp -implicitDefEqProofs (disch:=omega) only[Bool.not_false,zdB,go_sem,simprocAttr];done)));simp -implicitDefEqProofs (disch:=omega) only[Bool.not_false,go_sem,simprocAttr])|refine aU (by omega) ?_|(intro hr;have hc:=hr;(try simp only[zdz]at hc);simp -implicitDefEqProofs (disch:=omega) only[hr,Bool.not_false,go_sem,simprocAttr];(try clear hr))));subst hR;simp -implicitDefEqProofs (disch:=omega) only[Tryz.results12,go_sem,simprocAttr];exact L4
end Go.Proofs.YtdjcggcjlphdoaaGreatDoor

/-
  Functions of the chapter, as plain functions of what they are given; no condition.
-/
import Derived.Test.YtdjcggcjlphdoaaGreatDoorVdP74
import Derived.Test.YtdjcggcjlphdoaaGreatDoorVoP85
set_option maxRecDepth 100000
set_option linter.unusedSimpArgs false
set_option linter.unusedVariables false
set_option maxHeartbeats 4000000
namespace Go.Proofs.YtdjcggcjlphdoaaGreatDoor
open Go Go.Vo
open Nat (reduceAdd reduceSub reduceMul reduceLeDiff reduceLT reduceEqDiff)
open Int (reduceNeg)
theorem bOb:aYx Tryz.prog 49 vX 138:=⟨aOp,aOo⟩
def rM(s:dK)(p t:LTerm)(u:LSub):MR:=fM s (nodesT p) p t [u] false
theorem aIk(x:Value)(w:World):(invoke (.fn (.func 49) #[]) #[x]).run Tryz.prog w=.ok (.enter 49 #[x]) w:=by
 simp[invoke,A9 (show gU Tryz.prog 49=true by kernel_rfl)]
theorem bMo{pre g:List AObj}{sz n:Nat}{out:AV}{cells:List AV}{e:Int}(ho:jU sz pre.length g out cells n)(hp:persL cells=true):Fin (pre++g) (.tup [out,.i .i64 e]) (.tup [.sl cells n,.i .i64 e]):=by
 rcases ho with⟨rfl,rfl,rfl⟩|⟨i,rfl,hi,hl⟩
 ·exact .inr ⟨⟨rfl,rfl,trivial⟩,by simp[dN,finIdsL],by simp[dN,finIdsL]⟩
 ·have e1:oZ (pre++g) (.hs (i+pre.length) 0 n false) (.sl cells n):=by
   show AV.sl cells n=iA dep (pre++g) (.hs (i+pre.length) 0 n false);have hg:(pre++g)[i+pre.length]? = some (.arr false sz cells):=by
    rw[aX (by omega)];simpa using hi
   have hd:(cells.drop 0).take (n*sz)=cells:=by rw[bK,bB (by omega)]
   simp only[gN,pers,rV,hg,hd,hp,if_true,aI,if_false];rw[if_pos (by omega)]
  exact .inr ⟨⟨e1,rfl,trivial⟩,by simp[dN,finIdsL],by simp[dN,finIdsL]⟩
theorem L8{h:List AObj}{o:Int}:Vo.Fin h (.tup [.e0,.i .i64 o]) (.tup [avw [],.i .i64 o]):=.inr ⟨⟨rfl,rfl,trivial⟩,fL,fun i hi=>by cases hi⟩
def kM(s:dK)(p t:LTerm)(u:LSub):List LSub×Int:=
 if D3 s p=true∧jW s t=true∧pU s u=true then(if(rM s p t u).2=true then([],3)else((rM s p t u).1,0))else([],2)
theorem M7(s:dK)(p t:LTerm)(u:LSub)(hm:Small s)(hs:OkS s)(op:OkT p)(ot:OkT t)(hu:OkU 100000 u)(hn:∀q∈u,q.1.length≤140737488355328)(hnp:nodesT p≤100000)(hnt:nodesT t≤100000) :
 CT 12 [.agg (dW s),elT p,elT t,avu u] (.tup [avw (kM s p t u).1,.i .i64 (kM s p t u).2]):=by
 generalize hR:(AV.tup [avw (kM s p t u).1,.i .i64 (kM s p t u).2])=R;refine aAi g0 (aBf Tryz.func12 rfl (by kernel_rfl) fun X w g=>?_);have hu6:=hu.mono (show 100000≤1000000 by omega);have c1:=aOk s hm hs;have c3:=bHo s p hm op;have c4:=aWe s t hm ot;have c5:=aLi s u hm hu6 hn;simp only[avu]at c5;have hul:=hu.1;simp only[avu,elT,aL,Tryz.ntmps12,bF,bZ,List.replicate,aC,aE,Nat.reduceAdd,Nat.reduceSub];refine aAz (ac:=?_) (rx:=false) (th:=fun _=>none) dE (by kernel_rfl) ?_ ?_;rotate_left
 ·simp only[strip,kV,eR,kU,RX.off,ckF,ckX,zOf,exd,vOf,aH,aG,bH,bG,aK,bA,aS,aK,bT,bY,dP,fQ,bD,bM,aE,aC,eB,anyPre,Region.binds,aA,aB,aI,if_true,if_false,aY,aW,aR,aT,aZ,aQ,aH,aG,List.append_nil,aO,bS,aV,bK,Nat.reduceAdd];rfl
 refine zg ?_;refine aAz (ac:=?_) (rx:=false) (th:=fun _=>none) dE (by kernel_rfl) ?_ ?_;rotate_left
 ·simp only[strip,kV,eR,kU,RX.off,ckF,ckX,zOf,exd,vOf,aH,aG,bH,bG,aK,bA,aS,aK,bT,bY,dP,fQ,bD,bM,aE,aC,eB,anyPre,Region.binds,aA,aB,aI,if_true,if_false,aY,aW,aR,aT,aZ,aQ,aH,aG,List.append_nil,aO,bS,aV,bK,Nat.reduceAdd];rfl
 rw[kM,D3]at hR;by_cases hv:iH s=true
 ·rw[hv]at c1
  have c2:=aAk s hm (iP hv);rw[hv,aR]at hR;refine zg ?_;(repeat'(first|refine gT ?_ ?_|refine gF ?_ ?_|refine gC ?_ ?_|((refine bJ (c1) ?_ ?_;(focus(simp -implicitDefEqProofs (disch:=omega) only[aA,zdB,go_sem,simprocAttr];done)));simp -implicitDefEqProofs (disch:=omega) only[aA,go_sem,simprocAttr])|refine bE (by omega) ?_|(intro hr;have hc:=hr;(try simp only[zdz]at hc);simp -implicitDefEqProofs (disch:=omega) only[hr,aA,go_sem,simprocAttr];(try clear hr))));refine aAz (ac:=?_) (rx:=false) (th:=fun _=>none) dE (by kernel_rfl) ?_ ?_;rotate_left
  ·simp only[strip,kV,eR,kU,RX.off,ckF,ckX,zOf,exd,vOf,aH,aG,bH,bG,aK,bA,aS,aK,bT,bY,dP,fQ,bD,bM,aE,aC,eB,anyPre,Region.binds,aA,aB,aI,if_true,if_false,aY,aW,aR,aT,aZ,aQ,aH,aG,List.append_nil,aO,bS,aV,bK,Nat.reduceAdd];rfl
  refine zg ?_;(refine zt1 c2 ?_;repeat' first|exact trivial|refine zJ ?_ ?_|refine zH fun hc=>?_);refine aAz (ac:=?_) (rx:=false) (th:=fun _=>none) dE (by kernel_rfl) ?_ ?_;rotate_left
  ·simp only[strip,kV,eR,kU,RX.off,ckF,ckX,zOf,exd,vOf,aH,aG,bH,bG,aK,bA,aS,aK,bT,bY,dP,fQ,bD,bM,aE,aC,eB,anyPre,Region.binds,aA,aB,aI,if_true,if_false,aY,aW,aR,aT,aZ,aQ,aH,aG,List.append_nil,aO,bS,aV,bK,Nat.reduceAdd];rfl
  by_cases hq:bAt s p=true∧jW s t=true∧pU s u=true
  ·rw[if_pos hq]at hR
   obtain⟨h1,h2,h3⟩:=hq;rw[h1]at c3;rw[h2]at c4;rw[h3]at c5;have on:OkN p:=⟨op,uA (yW (by rw[D3,hv,h1];rfl))⟩;have otn:OkN t:=⟨ot,uA (by rw[jW,aD]at h2;exact h2.1)⟩;have cA:=bTp s p t [u] hm on otn h2 hnp (by omega) (fun x hx=>by rw[aP.1 hx];exact hu) (fun x hx=>by rw[aP.1 hx];exact R6 h3) (by simp);rw[show fM s (nodesT p) p t [u] false=rM s p t u from rfl]at cA;refine zg ?_;(repeat'(first|refine gT ?_ ?_|refine gF ?_ ?_|refine gC ?_ ?_|((first|(refine bJ (c3) ?_ ?_;(focus(simp -implicitDefEqProofs (disch:=omega) only[aA,zdB,go_sem,simprocAttr];done)))|(refine bJ (c4) ?_ ?_;(focus(simp -implicitDefEqProofs (disch:=omega) only[aA,zdB,go_sem,simprocAttr];done)))|(refine bJ (c5) ?_ ?_;(focus(simp -implicitDefEqProofs (disch:=omega) only[aA,zdB,go_sem,simprocAttr];done))));simp -implicitDefEqProofs (disch:=omega) only[aA,go_sem,simprocAttr])|refine bE (by omega) ?_|(intro hr;have hc:=hr;(try simp only[zdz]at hc);simp -implicitDefEqProofs (disch:=omega) only[hr,aA,go_sem,simprocAttr];(try clear hr))));refine aXi (ac:=?_) (rx:=false) (th:=fun _=>none) dE bOb cEo rfl rfl rfl aIk rfl rfl (by kernel_rfl) ?_ ?_;rotate_left
   ·simp only[strip,kV,eR,kU,RX.off,ckF,ckX,zOf,exd,vOf,aH,aG,bH,bG,aK,bA,aS,aK,bT,bY,dP,fQ,bD,bM,aE,aC,eB,anyPre,Region.binds,aA,aB,aI,if_true,if_false,aY,aW,aR,aT,aZ,aQ,aH,aG,List.append_nil,aO,bS,aV,bK,Nat.reduceAdd];rfl
   ·intro ds;simp -implicitDefEqProofs (disch:=omega) only[Tryz.results12,go_sem,simprocAttr];refine aAr (fun fz=>[.box false (dW s),.box false (tmC p),.box false (tmC t),.box false [.i .i64 0],.arr fz 1 [.sl (u.flatMap prT) u.length]]) cA (fun H=>rfl) ?_ rfl ?_ (fun hb=>?_) (fun fz hb=>?_)
    ·exact zv (zA2 @avw.eq_1 (zA2 @avu.eq_1 (zA2 @elT.eq_1 (zA2 @aL @bQ.eq_1))))
    ·exact zu
    ·refine zg ?_;rw[if_pos hb]at hR;subst hR;exact⟨⟨_,rfl⟩,L8⟩
    ·rw[if_neg (by rw[hb];simp)]at hR;refine zh @avw.eq_1 ?_;obtain⟨hok,hlen⟩:=tQ (s:=s) (nodesT p) p t [u] false 100000 otn (fun x hx=>by rw[aP.1 hx];exact hu) (by simp);rw[show fM s (nodesT p) p t [u] false=rM s p t u from rfl]at hok hlen;have hok:=hok.mono (show 100000+nodesT p≤1000000 by omega);generalize (rM s p t u).1=L at *
     refine dV (fun(q:Nat×AV×List AObj)=>(rp 11 .k (.v (q.2.1)::.k::.j::(rp 28 .k (.v (.i .i64 (q.1:Nat))::(rp 9 .j [.k,.k])))))) (fun q=>(.box false (dW s)::.box false (tmC p)::.box false (tmC t)::.box false [.i .i64 0]::q.2.2)) (fun q=>q.1≤L.length∧jU 1 4 q.2.2 q.2.1 ((L.take q.1).map avu) (L.take q.1).length) (fun q=>L.length-q.1) ((0,.e0,[.arr fz 1 [.sl (u.flatMap prT) u.length]])) ⟨bX _,jN⟩ rfl (by simp[iS]) ?_;rintro⟨k,out,g⟩ j ⟨hk,hb'⟩;dsimp only at hk hb';have hll:=hlen;by_cases hlt:k<L.length
     ·have hki:decide ((k:Int)<((L.length:Nat):Int))=true:=zt (by omega);have hX:(L.take (k+1)).map avu=(L.take k).map avu++[avu (L.getD k default)]:=by rw[sD hlt,cL];simp[List.getD,hlt]
      have hl:(L.take k).length≤1000:=by rw[cN];omega
      have hl2:(L.take (k+1)).length=(L.take k).length+1:=by rw[cN,cN];omega
      have c2:=bTo (L.getD k default) (hok _ (cS (d:=default) hlt));refine zh (zA2 hki @avu.eq_1) ?_;repeat refine bE (by omega) ?_
      refine bJ c2 ?_ ?_
      ·exact zv @avu.eq_1
      refine zh @avu.eq_1 ?_;refine fN (pre:=[.box false (dW s),.box false (tmC p),.box false (tmC t),.box false [.i .i64 0]]) (g:=g) (more:=[.arr false 1 [avu (L.getD k default)]]) (news:=[avu (L.getD k default)]) (m:=1) hb' rfl ?_ bSr bPo bQn bWa rfl (by decide) ?_ ?_ ⟨by omega,by omega⟩ ?_
      ·simp only[aC,aE,cM,avu,dW,avs,avb,avo]
      ·exact zu
      ·exact zv @avu.eq_1
      intro out' g' ho' _;refine zg ?_;refine⟨(k+1,out',g'),⟨by dsimp only;omega,?_⟩,by dsimp only;omega,rfl,by simp⟩;dsimp only;rw[hX,hl2];exact ho'
     ·have hki:decide ((k:Int)<((L.length:Nat):Int))=false:=zf (by omega);obtain rfl:k=L.length:=by omega
      rw[bB (bV _)]at hb';simp -implicitDefEqProofs (disch:=omega) only[hki,Tryz.results12,go_sem,simprocAttr];subst hR;exact bMo (pre:=[.box false (dW s),.box false (tmC p),.box false (tmC t),.box false [.i .i64 0]]) hb' J1
  ·rw[if_neg hq]at hR
   refine zg ?_;cases h1:bAt s p with
   |false=>
    rw[h1]at c3;(repeat'(first|refine gT ?_ ?_|refine gF ?_ ?_|refine gC ?_ ?_|((refine bJ (c3) ?_ ?_;(focus(simp -implicitDefEqProofs (disch:=omega) only[aA,aB,zdB,go_sem,simprocAttr];done)));simp -implicitDefEqProofs (disch:=omega) only[aA,aB,go_sem,simprocAttr])|refine bE (by omega) ?_|(intro hr;have hc:=hr;(try simp only[zdz]at hc);simp -implicitDefEqProofs (disch:=omega) only[hr,aA,aB,go_sem,simprocAttr];(try clear hr))));subst hR;simp -implicitDefEqProofs (disch:=omega) only[Tryz.results12,go_sem,simprocAttr];exact L8
   |true=>
    rw[h1]at c3;cases h2:jW s t with
    |false=>
     rw[h2]at c4;(repeat'(first|refine gT ?_ ?_|refine gF ?_ ?_|refine gC ?_ ?_|((first|(refine bJ (c3) ?_ ?_;(focus(simp -implicitDefEqProofs (disch:=omega) only[aA,aB,zdB,go_sem,simprocAttr];done)))|(refine bJ (c4) ?_ ?_;(focus(simp -implicitDefEqProofs (disch:=omega) only[aA,aB,zdB,go_sem,simprocAttr];done))));simp -implicitDefEqProofs (disch:=omega) only[aA,aB,go_sem,simprocAttr])|refine bE (by omega) ?_|(intro hr;have hc:=hr;(try simp only[zdz]at hc);simp -implicitDefEqProofs (disch:=omega) only[hr,aA,aB,go_sem,simprocAttr];(try clear hr))));subst hR;simp -implicitDefEqProofs (disch:=omega) only[Tryz.results12,go_sem,simprocAttr];exact L8
    |true=>
     have h3:pU s u=false:=dG.2 fun h=>hq ⟨h1,h2,h⟩;rw[h2]at c4;rw[h3]at c5;(repeat'(first|refine gT ?_ ?_|refine gF ?_ ?_|refine gC ?_ ?_|((first|(refine bJ (c3) ?_ ?_;(focus(simp -implicitDefEqProofs (disch:=omega) only[aA,aB,zdB,go_sem,simprocAttr];done)))|(refine bJ (c4) ?_ ?_;(focus(simp -implicitDefEqProofs (disch:=omega) only[aA,aB,zdB,go_sem,simprocAttr];done)))|(refine bJ (c5) ?_ ?_;(focus(simp -implicitDefEqProofs (disch:=omega) only[aA,aB,zdB,go_sem,simprocAttr];done))));simp -implicitDefEqProofs (disch:=omega) only[aA,aB,go_sem,simprocAttr])|refine bE (by omega) ?_|(intro hr;have hc:=hr;(try simp only[zdz]at hc);simp -implicitDefEqProofs (disch:=omega) only[hr,aA,aB,go_sem,simprocAttr];(try clear hr))));subst hR;simp -implicitDefEqProofs (disch:=omega) only[Tryz.results12,go_sem,simprocAttr];exact L8
 ·rw[dG.2 hv]at c1;rw[if_neg (fun h=>by simp[hv]at h)]at hR;refine zg ?_;(repeat'(first|refine gT ?_ ?_|refine gF ?_ ?_|refine gC ?_ ?_|((refine bJ (c1) ?_ ?_;(focus(simp -implicitDefEqProofs (disch:=omega) only[aB,zdB,go_sem,simprocAttr];done)));simp -implicitDefEqProofs (disch:=omega) only[aB,go_sem,simprocAttr])|refine bE (by omega) ?_|(intro hr;have hc:=hr;(try simp only[zdz]at hc);simp -implicitDefEqProofs (disch:=omega) only[hr,aB,go_sem,simprocAttr];(try clear hr))));subst hR;simp -implicitDefEqProofs (disch:=omega) only[Tryz.results12,go_sem,simprocAttr];exact L8
end Go.Proofs.YtdjcggcjlphdoaaGreatDoor

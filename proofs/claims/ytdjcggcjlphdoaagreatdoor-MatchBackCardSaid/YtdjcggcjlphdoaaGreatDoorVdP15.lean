/-
  Functions of the chapter, as plain functions of what they are given; no condition.
-/
import Derived.Test.YtdjcggcjlphdoaaGreatDoorVdP14
import Derived.Test.YtdjcggcjlphdoaaGreatDoorVoP25
set_option maxRecDepth 100000
set_option linter.unusedSimpArgs false
set_option linter.unusedVariables false
set_option maxHeartbeats 4000000
namespace Go.Proofs.YtdjcggcjlphdoaaGreatDoor
open Go Go.Vo
open Nat (reduceAdd reduceSub reduceMul reduceLeDiff reduceLT reduceEqDiff)
open Int (reduceNeg)
theorem bRg:bBg Tryz.prog 49 xH 138:=⟨aRd,aRc⟩
def rM(s:dX)(p t:LTerm)(u:LSub):MR:=fJ s (nodesT p) p t [u] false
theorem aJw(x:Value)(w:World):(invoke (.fn (.func 49) #[]) #[x]).run Tryz.prog w=.ok (.enter 49 #[x]) w:=by
 simp[invoke,qE (show iC Tryz.prog 49=true by kernel_rfl)]
theorem bPt{pre g:List AObj}{sz n:Nat}{out:AV}{cells:List AV}{e:Int}(ho:jI sz pre.length g out cells n)(hp:persL cells=true):Fin (pre++g) (.tup [out,.i .i64 e]) (.tup [.sl cells n,.i .i64 e]):=by
 rcases ho with⟨rfl,rfl,rfl⟩|⟨i,rfl,hi,hl⟩
 ·exact .inr ⟨⟨rfl,rfl,trivial⟩,by simp[dJ,finIdsL],by simp[dJ,finIdsL]⟩
 ·have e1:oM (pre++g) (.hs (i+pre.length) 0 n false) (.sl cells n):=by
   show AV.sl cells n=gZ dep (pre++g) (.hs (i+pre.length) 0 n false);have hg:(pre++g)[i+pre.length]? = some (.arr false sz cells):=by
    rw[aR (by omega)];simpa using hi
   have hd:(cells.drop 0).take (n*sz)=cells:=by rw[bG,bE (by omega)]
   simp only[gE,pers,rQ,hg,hd,hp,if_true,aE,if_false];rw[if_pos (by omega)]
  exact .inr ⟨⟨e1,rfl,trivial⟩,by simp[dJ,finIdsL],by simp[dJ,finIdsL]⟩
theorem P2{h:List AObj}{o:Int}:Vo.Fin h (.tup [.e0,.i .i64 o]) (.tup [avw [],.i .i64 o]):=.inr ⟨⟨rfl,rfl,trivial⟩,fI,fun i hi=>by cases hi⟩
def kD(s:dX)(p t:LTerm)(u:LSub):List LSub×Int:=
 if aAm s p=true∧gI s t=true∧mK s u=true then(if(rM s p t u).2=true then([],3)else((rM s p t u).1,0))else([],2)
theorem Y8(s:dX)(p t:LTerm)(u:LSub)(hm:Small s)(hs:OkS s)(op:OkT p)(ot:OkT t)(hu:OkU 100000 u)(hn:∀q∈u,q.1.length≤140737488355328)(hnp:nodesT p≤100000)(hnt:nodesT t≤100000) :
 CT 12 [.agg (dT s),elT p,elT t,avu u] (.tup [avw (kD s p t u).1,.i .i64 (kD s p t u).2]):=by
 generalize hR:(AV.tup [avw (kD s p t u).1,.i .i64 (kD s p t u).2])=R;refine aBk g0 (aCe Tryz.func12 rfl (by kernel_rfl) fun X w g=>?_);have hu6:=hu.mono (show 100000≤1000000 by omega);have c1:=aQx s hm hs;have c3:=bKp s p hm op;have c4:=aYw s t hm ot;have c5:=aNn s u hm hu6 hn;simp only[avu]at c5;have hul:=hu.1;simp only[avu,elT,aW,Tryz.ntmps12,aQ,cB,List.replicate,aH,aJ,Nat.reduceAdd,Nat.reduceSub];refine aBz (ac:=?_) (rx:=false) (th:=fun _=>none) cZ (by kernel_rfl) ?_ ?_;rotate_left
 ·simp only[strip,lI,eS,lH,RX.off,ckF,ckX,zOf,exd,vOf,aD,aC,bD,bC,aF,bA,aM,aF,bS,bY,dR,fT,bB,bI,aJ,aH,dZ,anyPre,Region.binds,aN,aS,aE,if_true,if_false,aX,aU,aI,aO,aZ,aK,aD,aC,List.append_nil,aL,bR,aT,bG,Nat.reduceAdd];rfl
 refine zg ?_;refine aBz (ac:=?_) (rx:=false) (th:=fun _=>none) cZ (by kernel_rfl) ?_ ?_;rotate_left
 ·simp only[strip,lI,eS,lH,RX.off,ckF,ckX,zOf,exd,vOf,aD,aC,bD,bC,aF,bA,aM,aF,bS,bY,dR,fT,bB,bI,aJ,aH,dZ,anyPre,Region.binds,aN,aS,aE,if_true,if_false,aX,aU,aI,aO,aZ,aK,aD,aC,List.append_nil,aL,bR,aT,bG,Nat.reduceAdd];rfl
 rw[kD,aAm]at hR;by_cases hv:kV s=true
 ·rw[hv]at c1
  have c2:=aFx s hm (jR hv);rw[hv,aI]at hR;refine zg ?_;(refine zy1 aN c1 ?_;repeat' first|exact trivial|refine zJ ?_ ?_|refine zH fun hc=>?_);refine aBz (ac:=?_) (rx:=false) (th:=fun _=>none) cZ (by kernel_rfl) ?_ ?_;rotate_left
  ·simp only[strip,lI,eS,lH,RX.off,ckF,ckX,zOf,exd,vOf,aD,aC,bD,bC,aF,bA,aM,aF,bS,bY,dR,fT,bB,bI,aJ,aH,dZ,anyPre,Region.binds,aN,aS,aE,if_true,if_false,aX,aU,aI,aO,aZ,aK,aD,aC,List.append_nil,aL,bR,aT,bG,Nat.reduceAdd];rfl
  refine zg ?_;(refine zt1 c2 ?_;repeat' first|exact trivial|refine zJ ?_ ?_|refine zH fun hc=>?_);refine aBz (ac:=?_) (rx:=false) (th:=fun _=>none) cZ (by kernel_rfl) ?_ ?_;rotate_left
  ·simp only[strip,lI,eS,lH,RX.off,ckF,ckX,zOf,exd,vOf,aD,aC,bD,bC,aF,bA,aM,aF,bS,bY,dR,fT,bB,bI,aJ,aH,dZ,anyPre,Region.binds,aN,aS,aE,if_true,if_false,aX,aU,aI,aO,aZ,aK,aD,aC,List.append_nil,aL,bR,aT,bG,Nat.reduceAdd];rfl
  by_cases hq:aSa s p=true∧gI s t=true∧mK s u=true
  ·rw[if_pos hq]at hR
   obtain⟨h1,h2,h3⟩:=hq;rw[h1]at c3;rw[h2]at c4;rw[h3]at c5;have on:OkN p:=⟨op,oF (aPz (by rw[aAm,hv,h1];rfl))⟩;have otn:OkN t:=⟨ot,oF (by rw[gI,aA]at h2;exact h2.1)⟩;have cA:=bXt s p t [u] hm on otn h2 hnp (by omega) (fun x hx=>by rw[aV.1 hx];exact hu) (fun x hx=>by rw[aV.1 hx];exact vL h3) (by simp);rw[show fJ s (nodesT p) p t [u] false=rM s p t u from rfl]at cA;refine zg ?_;(refine zy3 aN c3 c4 c5 ?_;repeat' first|exact trivial|refine zJ ?_ ?_|refine zH fun hc=>?_);refine aZy (ac:=?_) (rx:=false) (th:=fun _=>none) cZ bRg cJh rfl rfl rfl aJw rfl rfl (by kernel_rfl) ?_ ?_;rotate_left
   ·simp only[strip,lI,eS,lH,RX.off,ckF,ckX,zOf,exd,vOf,aD,aC,bD,bC,aF,bA,aM,aF,bS,bY,dR,fT,bB,bI,aJ,aH,dZ,anyPre,Region.binds,aN,aS,aE,if_true,if_false,aX,aU,aI,aO,aZ,aK,aD,aC,List.append_nil,aL,bR,aT,bG,Nat.reduceAdd];rfl
   ·intro ds;simp -implicitDefEqProofs (disch:=omega) only[Tryz.results12,go_sem,simprocAttr];refine aBp (fun fz=>[.box false (dT s),.box false (tmC p),.box false (tmC t),.box false [.i .i64 0],.arr fz 1 [.sl (u.flatMap prT) u.length]]) cA (fun H=>rfl) ?_ rfl ?_ (fun hb=>?_) (fun fz hb=>?_)
    ·exact zv (zA2 @avw.eq_1 (zA2 @avu.eq_1 (zA2 @elT.eq_1 (zA2 @aW @cM.eq_1))))
    ·exact zu
    ·refine zg ?_;rw[if_pos hb]at hR;subst hR;exact⟨⟨_,rfl⟩,P2⟩
    ·rw[if_neg (by rw[hb];simp)]at hR;refine zh @avw.eq_1 ?_;obtain⟨hok,hlen⟩:=sZ (s:=s) (nodesT p) p t [u] false 100000 otn (fun x hx=>by rw[aV.1 hx];exact hu) (by simp);rw[show fJ s (nodesT p) p t [u] false=rM s p t u from rfl]at hok hlen;have hok:=hok.mono (show 100000+nodesT p≤1000000 by omega);generalize (rM s p t u).1=L at *
     refine dF (fun(q:Nat×AV×List AObj)=>(rp 11 .k (.v (q.2.1)::.k::.j::(rp 28 .k (.v (.i .i64 (q.1:Nat))::(rp 9 .j [.k,.k])))))) (fun q=>(.box false (dT s)::.box false (tmC p)::.box false (tmC t)::.box false [.i .i64 0]::q.2.2)) (fun q=>q.1≤L.length∧jI 1 4 q.2.2 q.2.1 ((L.take q.1).map avu) (L.take q.1).length) (fun q=>L.length-q.1) ((0,.e0,[.arr fz 1 [.sl (u.flatMap prT) u.length]])) ⟨bJ _,kX⟩ rfl (by simp[hZ]) ?_;rintro⟨k,out,g⟩ j ⟨hk,hb'⟩;dsimp only at hk hb';have hll:=hlen;by_cases hlt:k<L.length
     ·have hki:decide ((k:Int)<((L.length:Nat):Int))=true:=zt (by omega);have hX:(L.take (k+1)).map avu=(L.take k).map avu++[avu (L.getD k default)]:=by rw[tO hlt,cG];simp[List.getD,hlt]
      have hl:(L.take k).length≤1000:=by rw[List.length_take];omega
      have hl2:(L.take (k+1)).length=(L.take k).length+1:=by rw[List.length_take,List.length_take];omega
      have c2:=bXs (L.getD k default) (hok _ (cT (d:=default) hlt));refine zh (zA2 hki @avu.eq_1) ?_;repeat refine bX (by omega) ?_
      refine dA c2 ?_ ?_
      ·exact zv @avu.eq_1
      refine zh @avu.eq_1 ?_;refine gM (pre:=[.box false (dT s),.box false (tmC p),.box false (tmC t),.box false [.i .i64 0]]) (g:=g) (more:=[.arr false 1 [avu (L.getD k default)]]) (news:=[avu (L.getD k default)]) (m:=1) hb' rfl ?_ bWl bSp bTz cAf rfl (by decide) ?_ ?_ ⟨by omega,by omega⟩ ?_
      ·simp only[aH,aJ,bU,avu,dT,avs,avb,avo]
      ·exact zu
      ·exact zv @avu.eq_1
      intro out' g' ho' _;refine zg ?_;refine⟨(k+1,out',g'),⟨by dsimp only;omega,?_⟩,by dsimp only;omega,rfl,by simp⟩;dsimp only;rw[hX,hl2];exact ho'
     ·have hki:decide ((k:Int)<((L.length:Nat):Int))=false:=zf (by omega);obtain rfl:k=L.length:=by omega
      rw[bE (bK _)]at hb';simp -implicitDefEqProofs (disch:=omega) only[hki,Tryz.results12,go_sem,simprocAttr];subst hR;exact bPt (pre:=[.box false (dT s),.box false (tmC p),.box false (tmC t),.box false [.i .i64 0]]) hb' M8
  ·rw[if_neg hq]at hR
   refine zg ?_;cases h1:aSa s p with
   |false=>
    rw[h1]at c3;(refine zy1 (zA2 aN aS) c3 ?_;repeat' first|exact trivial|refine zJ ?_ ?_|refine zH fun hc=>?_);subst hR;simp -implicitDefEqProofs (disch:=omega) only[Tryz.results12,go_sem,simprocAttr];exact P2
   |true=>
    rw[h1]at c3;cases h2:gI s t with
    |false=>
     rw[h2]at c4;(refine zy2 (zA2 aN aS) c3 c4 ?_;repeat' first|exact trivial|refine zJ ?_ ?_|refine zH fun hc=>?_);subst hR;simp -implicitDefEqProofs (disch:=omega) only[Tryz.results12,go_sem,simprocAttr];exact P2
    |true=>
     have h3:mK s u=false:=dD.2 fun h=>hq ⟨h1,h2,h⟩;rw[h2]at c4;rw[h3]at c5;(refine zy3 (zA2 aN aS) c3 c4 c5 ?_;repeat' first|exact trivial|refine zJ ?_ ?_|refine zH fun hc=>?_);subst hR;simp -implicitDefEqProofs (disch:=omega) only[Tryz.results12,go_sem,simprocAttr];exact P2
 ·rw[dD.2 hv]at c1;rw[if_neg (fun h=>by simp[hv]at h)]at hR;refine zg ?_;(refine zy1 aS c1 ?_;repeat' first|exact trivial|refine zJ ?_ ?_|refine zH fun hc=>?_);subst hR;simp -implicitDefEqProofs (disch:=omega) only[Tryz.results12,go_sem,simprocAttr];exact P2
end Go.Proofs.YtdjcggcjlphdoaaGreatDoor

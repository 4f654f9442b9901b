/-
  Functions of the chapter, as plain functions of what they are given; no condition.
-/
import Derived.Test.YtdjcggcjlphdoaaGreatDoorVdP16
import Derived.Test.YtdjcggcjlphdoaaGreatDoorVoP25
set_option maxRecDepth 100000
set_option linter.unusedSimpArgs false
set_option linter.unusedVariables false
set_option maxHeartbeats 4000000
namespace Go.Proofs.YtdjcggcjlphdoaaGreatDoor
open Go Go.Vo
open Nat (reduceAdd reduceSub reduceMul reduceLeDiff reduceLT reduceEqDiff)
open Int (reduceNeg)

theorem bEs:aRw Tryz.prog 49 tD 138:=⟨aJc,aJb⟩
def rM (s:eD) (p t:LTerm) (u:LSub):MR:=eH s (nodesT p) p t [u] false
theorem aDe (x:Value) (w:World):(invoke (.fn (.func 49) #[]) #[x]).run Tryz.prog w=.ok (.enter 49 #[x]) w:=by
 simp [invoke,xC (show fY Tryz.prog 49=true by kernel_rfl)]
theorem bDt {pre g:List AObj} {sz n:Nat} {out:AV} {cells:List AV} {e:Int} (ho:gW sz pre.length g out cells n) (hp:persL cells=true):Fin (pre++g) (.tup [out,.i .i64 e]) (.tup [.sl cells n,.i .i64 e]):=by
 rcases ho with ⟨rfl,rfl,rfl⟩ | ⟨i,rfl,hi,hl⟩
 · exact .inr ⟨⟨rfl,rfl,trivial⟩,by simp [cV,finIdsL],by simp [cV,finIdsL]⟩
 · have e1:nE (pre++g) (.hs (i+pre.length) 0 n false) (.sl cells n):=by
     show AV.sl cells n=gG dep (pre++g) (.hs (i+pre.length) 0 n false)
     have hg:(pre++g)[i+pre.length]? = some (.arr false sz cells):=by
       rw [aR (by omega)]; simpa using hi
     have hd:(cells.drop 0).take (n * sz)=cells:=by rw [bC,bD (by omega)]
     simp only [fQ,pers,qH,hg,hd,hp,if_true,aG,if_false]
     rw [if_pos (by omega)]
   exact .inr ⟨⟨e1,rfl,trivial⟩,by simp [cV,finIdsL],by simp [cV,finIdsL]⟩
theorem B5 {h:List AObj} {o:Int}:Vo.Fin h (.tup [.e0,.i .i64 o]) (.tup [avw [],.i .i64 o]):=.inr ⟨⟨rfl,rfl,trivial⟩,fJ,fun i hi=>by cases hi⟩
def jB (s:eD) (p t:LTerm) (u:LSub):List LSub × Int:=
 if aBy s p=true∧jH s t=true∧oD s u=true then (if (rM s p t u).2=true then ([],3) else ((rM s p t u).1,0)) else ([],2)
theorem C1 (s:eD) (p t:LTerm) (u:LSub) (hm:Small s) (hs:OkS s) (op:OkT p) (ot:OkT t) (hu:OkU 100000 u) (hn:∀ q ∈ u,q.1.length≤140737488355328) (hnp:nodesT p≤100000) (hnt:nodesT t≤100000) :
   CT 12 [.agg (dD s),elT p,elT t,avu u] (.tup [avw (jB s p t u).1,.i .i64 (jB s p t u).2]):=by
 generalize hR:(AV.tup [avw (jB s p t u).1,.i .i64 (jB s p t u).2])=R
 refine P0 g0 (Q8 Tryz.func12 rfl (by kernel_rfl) fun X w g=>?_)
 have hu6:=hu.mono (show 100000≤1000000 by omega)
 have c1:=aIx s hm hs
 have c3:=aZj s p hm op
 have c4:=aPr s t hm ot
 have c5:=aFu s u hm hu6 hn
 simp only [avu] at c5
 have hul:=hu.1
 simp only [avu,elT,aS,Tryz.ntmps12,bH,cL,List.replicate,aI,aK,Nat.reduceAdd,Nat.reduceSub]
 refine Q3 (ac:=?_) (rx:=false) (th:=fun _=>none) cU (by kernel_rfl) ?_ ?_
 rotate_left
 · simp only [strip,kE,dT,kD,RX.off,ckF,ckX,zOf,exd,vOf,aF,aC,bB,aZ,aH,aX,aM,aH,bM,bP,cZ,eQ,aY,bF,aK,aI,dH,anyPre,Region.binds,aB,aD,aG,if_true,if_false,aT,aQ,aO,aP,aW,aN,aF,aC,List.append_nil,aL,bK,aU,bC,Nat.reduceAdd]
   rfl
 refine zg ?_
 refine Q3 (ac:=?_) (rx:=false) (th:=fun _=>none) cU (by kernel_rfl) ?_ ?_
 rotate_left
 · simp only [strip,kE,dT,kD,RX.off,ckF,ckX,zOf,exd,vOf,aF,aC,bB,aZ,aH,aX,aM,aH,bM,bP,cZ,eQ,aY,bF,aK,aI,dH,anyPre,Region.binds,aB,aD,aG,if_true,if_false,aT,aQ,aO,aP,aW,aN,aF,aC,List.append_nil,aL,bK,aU,bC,Nat.reduceAdd]
   rfl
 rw [jB,aBy] at hR
 by_cases hv:kH s=true
 · rw [hv] at c1
   have c2:=aAd s hm (iK hv)
   rw [hv,aO] at hR
   refine zg ?_
   (repeat' (first | refine gT ?_ ?_ | refine gF ?_ ?_ | refine gC ?_ ?_ | ((refine bU (c1) ?_ ?_; (focus (simp -implicitDefEqProofs (disch:=omega) only [aB,zdB,go_sem,simprocAttr]; done))); simp -implicitDefEqProofs (disch:=omega) only [aB,go_sem,simprocAttr]) | refine bG (by omega) ?_ | (intro hr; have hc:=hr; (try simp only [zdz] at hc); simp -implicitDefEqProofs (disch:=omega) only [hr,aB,go_sem,simprocAttr]; (try clear hr))))
   refine Q3 (ac:=?_) (rx:=false) (th:=fun _=>none) cU (by kernel_rfl) ?_ ?_
   rotate_left
   · simp only [strip,kE,dT,kD,RX.off,ckF,ckX,zOf,exd,vOf,aF,aC,bB,aZ,aH,aX,aM,aH,bM,bP,cZ,eQ,aY,bF,aK,aI,dH,anyPre,Region.binds,aB,aD,aG,if_true,if_false,aT,aQ,aO,aP,aW,aN,aF,aC,List.append_nil,aL,bK,aU,bC,Nat.reduceAdd]
     rfl
   refine zg ?_
   (refine zt1 c2 ?_; repeat' first | exact trivial | refine zJ ?_ ?_ | refine zH fun hc=>?_)
   refine Q3 (ac:=?_) (rx:=false) (th:=fun _=>none) cU (by kernel_rfl) ?_ ?_
   rotate_left
   · simp only [strip,kE,dT,kD,RX.off,ckF,ckX,zOf,exd,vOf,aF,aC,bB,aZ,aH,aX,aM,aH,bM,bP,cZ,eQ,aY,bF,aK,aI,dH,anyPre,Region.binds,aB,aD,aG,if_true,if_false,aT,aQ,aO,aP,aW,aN,aF,aC,List.append_nil,aL,bK,aU,bC,Nat.reduceAdd]
     rfl
   by_cases hq:aYa s p=true∧jH s t=true∧oD s u=true
   · rw [if_pos hq] at hR
     obtain ⟨h1,h2,h3⟩:=hq
     rw [h1] at c3
     rw [h2] at c4
     rw [h3] at c5
     have on:OkN p:=⟨op,tQ (vZ (by rw [aBy,hv,h1]; rfl))⟩
     have otn:OkN t:=⟨ot,tQ (by rw [jH,aE] at h2; exact h2.1)⟩
     have cA:=bJt s p t [u] hm on otn h2 hnp (by omega) (fun x hx=>by rw [bV.1 hx]; exact hu) (fun x hx=>by rw [bV.1 hx]; exact G9 h3) (by simp)
     rw [show eH s (nodesT p) p t [u] false=rM s p t u from rfl] at cA
     refine zg ?_
     (repeat' (first | refine gT ?_ ?_ | refine gF ?_ ?_ | refine gC ?_ ?_ | ((first | (refine bU (c3) ?_ ?_; (focus (simp -implicitDefEqProofs (disch:=omega) only [aB,zdB,go_sem,simprocAttr]; done))) | (refine bU (c4) ?_ ?_; (focus (simp -implicitDefEqProofs (disch:=omega) only [aB,zdB,go_sem,simprocAttr]; done))) | (refine bU (c5) ?_ ?_; (focus (simp -implicitDefEqProofs (disch:=omega) only [aB,zdB,go_sem,simprocAttr]; done)))); simp -implicitDefEqProofs (disch:=omega) only [aB,go_sem,simprocAttr]) | refine bG (by omega) ?_ | (intro hr; have hc:=hr; (try simp only [zdz] at hc); simp -implicitDefEqProofs (disch:=omega) only [hr,aB,go_sem,simprocAttr]; (try clear hr))))
     refine aQt (ac:=?_) (rx:=false) (th:=fun _=>none) cU bEs bUa rfl rfl rfl aDe rfl rfl (by kernel_rfl) ?_ ?_
     rotate_left
     · simp only [strip,kE,dT,kD,RX.off,ckF,ckX,zOf,exd,vOf,aF,aC,bB,aZ,aH,aX,aM,aH,bM,bP,cZ,eQ,aY,bF,aK,aI,dH,anyPre,Region.binds,aB,aD,aG,if_true,if_false,aT,aQ,aO,aP,aW,aN,aF,aC,List.append_nil,aL,bK,aU,bC,Nat.reduceAdd]
       rfl
     · intro ds
       simp -implicitDefEqProofs (disch:=omega) only [Tryz.results12,go_sem,simprocAttr]
       refine P5 (fun fz=>[.box false (dD s),.box false (tmC p),.box false (tmC t),.box false [.i .i64 0],.arr fz 1 [.sl (u.flatMap prT) u.length]]) cA (fun H=>rfl) ?_ rfl ?_ (fun hb=>?_) (fun fz hb=>?_)
       · exact zv (zA2 @avw.eq_1 (zA2 @avu.eq_1 (zA2 @elT.eq_1 (zA2 @aS @cC.eq_1))))
       · exact zu
       · refine zg ?_
         rw [if_pos hb] at hR
         subst hR
         exact ⟨⟨_,rfl⟩,B5⟩
       · rw [if_neg (by rw [hb]; simp)] at hR
         refine zh @avw.eq_1 ?_
         obtain ⟨hok,hlen⟩:=qF (s:=s) (nodesT p) p t [u] false 100000 otn (fun x hx=>by rw [bV.1 hx]; exact hu) (by simp)
         rw [show eH s (nodesT p) p t [u] false=rM s p t u from rfl] at hok hlen
         have hok:=hok.mono (show 100000+nodesT p≤1000000 by omega)
         generalize (rM s p t u).1=L at *
         refine dB (fun (q:Nat × AV × List AObj)=>(rp 11 .k (.v (q.2.1)::.k::.j::(rp 28 .k (.v (.i .i64 (q.1:Nat))::(rp 9 .j [.k,.k])))))) (fun q=>(.box false (dD s)::.box false (tmC p)::.box false (tmC t)::.box false [.i .i64 0]::q.2.2)) (fun q=>q.1≤L.length∧gW 1 4 q.2.2 q.2.1 ((L.take q.1).map avu) (L.take q.1).length) (fun q=>L.length - q.1) ((0,.e0,[.arr fz 1 [.sl (u.flatMap prT) u.length]])) ⟨bJ _,iI⟩ rfl (by simp [gX]) ?_
         rintro ⟨k,out,g⟩ j ⟨hk,hb'⟩
         dsimp only at hk hb'
         have hll:=hlen
         by_cases hlt:k < L.length
         · have hki:decide ((k:Int) < ((L.length:Nat):Int))=true:=zt (by omega)
           have hX:(L.take (k+1)).map avu=(L.take k).map avu++[avu (L.getD k default)]:=by rw [kK hlt,cB]; simp [List.getD,hlt]
           have hl:(L.take k).length≤1000:=by rw [cH]; omega
           have hl2:(L.take (k+1)).length=(L.take k).length+1:=by rw [cH,cH]; omega
           have c2:=bJs (L.getD k default) (hok _ (cQ (d:=default) hlt))
           refine zh (zA2 hki @avu.eq_1) ?_
           repeat refine bG (by omega) ?_
           refine bU c2 ?_ ?_
           · exact zv @avu.eq_1
           refine zh @avu.eq_1 ?_
           refine eK (pre:=[.box false (dD s),.box false (tmC p),.box false (tmC t),.box false [.i .i64 0]]) (g:=g) (more:=[.arr false 1 [avu (L.getD k default)]]) (news:=[avu (L.getD k default)]) (m:=1) hb' rfl ?_ bIx bFx bGw bMd rfl (by decide) ?_ ?_ ⟨by omega,by omega⟩ ?_
           · simp only [aI,aK,cD,avu,dD,avs,avb,avo]
           · exact zu
           · exact zv @avu.eq_1
           intro out' g' ho' _
           refine zg ?_
           refine ⟨(k+1,out',g'),⟨by dsimp only; omega,?_⟩,by dsimp only; omega,rfl,by simp⟩
           dsimp only
           rw [hX,hl2]
           exact ho'
         · have hki:decide ((k:Int) < ((L.length:Nat):Int))=false:=zf (by omega)
           obtain rfl:k=L.length:=by omega
           rw [bD (bQ _)] at hb'
           simp -implicitDefEqProofs (disch:=omega) only [hki,Tryz.results12,go_sem,simprocAttr]
           subst hR
           exact bDt (pre:=[.box false (dD s),.box false (tmC p),.box false (tmC t),.box false [.i .i64 0]]) hb' zL
   · rw [if_neg hq] at hR
     refine zg ?_
     cases h1:aYa s p with
     | false=>
       rw [h1] at c3
       (repeat' (first | refine gT ?_ ?_ | refine gF ?_ ?_ | refine gC ?_ ?_ | ((refine bU (c3) ?_ ?_; (focus (simp -implicitDefEqProofs (disch:=omega) only [aB,aD,zdB,go_sem,simprocAttr]; done))); simp -implicitDefEqProofs (disch:=omega) only [aB,aD,go_sem,simprocAttr]) | refine bG (by omega) ?_ | (intro hr; have hc:=hr; (try simp only [zdz] at hc); simp -implicitDefEqProofs (disch:=omega) only [hr,aB,aD,go_sem,simprocAttr]; (try clear hr))))
       subst hR
       simp -implicitDefEqProofs (disch:=omega) only [Tryz.results12,go_sem,simprocAttr]
       exact B5
     | true=>
       rw [h1] at c3
       cases h2:jH s t with
       | false=>
         rw [h2] at c4
         (repeat' (first | refine gT ?_ ?_ | refine gF ?_ ?_ | refine gC ?_ ?_ | ((first | (refine bU (c3) ?_ ?_; (focus (simp -implicitDefEqProofs (disch:=omega) only [aB,aD,zdB,go_sem,simprocAttr]; done))) | (refine bU (c4) ?_ ?_; (focus (simp -implicitDefEqProofs (disch:=omega) only [aB,aD,zdB,go_sem,simprocAttr]; done)))); simp -implicitDefEqProofs (disch:=omega) only [aB,aD,go_sem,simprocAttr]) | refine bG (by omega) ?_ | (intro hr; have hc:=hr; (try simp only [zdz] at hc); simp -implicitDefEqProofs (disch:=omega) only [hr,aB,aD,go_sem,simprocAttr]; (try clear hr))))
         subst hR
         simp -implicitDefEqProofs (disch:=omega) only [Tryz.results12,go_sem,simprocAttr]
         exact B5
       | true=>
         have h3:oD s u=false:=cT.2 fun h=>hq ⟨h1,h2,h⟩
         rw [h2] at c4
         rw [h3] at c5
         (repeat' (first | refine gT ?_ ?_ | refine gF ?_ ?_ | refine gC ?_ ?_ | ((first | (refine bU (c3) ?_ ?_; (focus (simp -implicitDefEqProofs (disch:=omega) only [aB,aD,zdB,go_sem,simprocAttr]; done))) | (refine bU (c4) ?_ ?_; (focus (simp -implicitDefEqProofs (disch:=omega) only [aB,aD,zdB,go_sem,simprocAttr]; done))) | (refine bU (c5) ?_ ?_; (focus (simp -implicitDefEqProofs (disch:=omega) only [aB,aD,zdB,go_sem,simprocAttr]; done)))); simp -implicitDefEqProofs (disch:=omega) only [aB,aD,go_sem,simprocAttr]) | refine bG (by omega) ?_ | (intro hr; have hc:=hr; (try simp only [zdz] at hc); simp -implicitDefEqProofs (disch:=omega) only [hr,aB,aD,go_sem,simprocAttr]; (try clear hr))))
         subst hR
         simp -implicitDefEqProofs (disch:=omega) only [Tryz.results12,go_sem,simprocAttr]
         exact B5
 · rw [cT.2 hv] at c1
   rw [if_neg (fun h=>by simp [hv] at h)] at hR
   refine zg ?_
   (repeat' (first | refine gT ?_ ?_ | refine gF ?_ ?_ | refine gC ?_ ?_ | ((refine bU (c1) ?_ ?_; (focus (simp -implicitDefEqProofs (disch:=omega) only [aD,zdB,go_sem,simprocAttr]; done))); simp -implicitDefEqProofs (disch:=omega) only [aD,go_sem,simprocAttr]) | refine bG (by omega) ?_ | (intro hr; have hc:=hr; (try simp only [zdz] at hc); simp -implicitDefEqProofs (disch:=omega) only [hr,aD,go_sem,simprocAttr]; (try clear hr))))
   subst hR
   simp -implicitDefEqProofs (disch:=omega) only [Tryz.results12,go_sem,simprocAttr]
   exact B5
end Go.Proofs.YtdjcggcjlphdoaaGreatDoor

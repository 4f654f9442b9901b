/-
  Functions of the chapter, as plain functions of what they are given; no condition.
-/
import Derived.Test.YtdjcggcjlphdoaaGreatDoorVfP12
import Derived.Test.YtdjcggcjlphdoaaGreatDoorVdP14
set_option maxRecDepth 100000
set_option linter.unusedSimpArgs false
set_option linter.unusedVariables false
set_option maxHeartbeats 4000000
namespace Go.Proofs.YtdjcggcjlphdoaaGreatDoor
open Go Go.Vo
open Nat (reduceAdd reduceSub reduceMul reduceLeDiff reduceLT reduceEqDiff)
open Int (reduceNeg)
def uW(p t:LTerm)(u:LSub):List AV:=aP p++(aP t++[avu u])
theorem aVv{s:dX}{p t:LTerm}{u:LSub}(ot:OkT t)(hu:OkU 100000 u)(hnp:nodesT p≤100000):F3 1000000 (kD s p t u).1∧(kD s p t u).1.length≤1000:=by
 rw[kD];split
 ·rename_i h;split
  ·exact⟨fun u hu=>(by cases hu),bJ _⟩
  ·have otn:OkN t:=⟨ot,oF (by have:=h.2.1;rw[gI,aA]at this;exact this.1)⟩;obtain⟨h1,h2⟩:=sZ (s:=s) (nodesT p) p t [u] false 100000 otn (fun x hx=>by rw[aV.1 hx];exact hu) (by simp);exact⟨h1.mono (by omega),h2⟩
 ·exact⟨fun u hu=>(by cases hu),bJ _⟩
structure cGc(s:dX)(u:LSub)(l:List LTerm):Prop where
 sm:Small s
 ul:u.length≤100
 un:∀q∈u,nodesT q.2≤1500
 ln:nodesL l≤1500
theorem bQa{s:dX}{u:LSub}{l:List LTerm}(h:bWh s u l=true):cGc s u l:=by
 rw[bWh,cBq,aA,aA,aA,decide_eq_true_eq]at h;obtain⟨⟨h1,h2,h3⟩,h4⟩:=h;exact⟨aXq h1,h2,fun q hq=>bFy h3 (dS.2 ⟨q,hq,rfl⟩),aFr h4⟩
theorem cDf{a b:LTerm}(ha:OkT a)(hb:OkT b):∀t ∈ [a,b],OkT t:=okc ha (okc hb okn)
theorem aIt{s:dX}{p t:LTerm}{u:LSub}(h:(kD s p t u).2=0):aAm s p=true∧gI s t=true∧mK s u=true:=by
 rw[kD]at h;split at h
 ·assumption
 ·simp at h
theorem aVw{s:dX}{p t:LTerm}{u:LSub}(h:¬(kD s p t u).2=0):(kD s p t u).1=[]:=by
 rw[kD]at h ⊢;split at h
 ·rename_i hc;rw[if_pos hc];split at h
  ·rename_i hb;rw[if_pos hb]
  ·exact absurd rfl h
 ·rename_i hc;rw[if_neg hc]
theorem cKx(s:dX)(p t:LTerm)(u:LSub):(kD s p t u).2=0∨(kD s p t u).2=2∨(kD s p t u).2=3:=by
 rw[kD];repeat' split
 all_goals simp
theorem bOa{s:dX}{p:LTerm}(h:aAm s p=true):iA nodeB p=true:=by
 rw[aAm,aA,aSa]at h;simp only[aA]at h;exact h.2.1
theorem aSm{p:LTerm}(h:iA nodeB p=true):(S7 p).length≤2000:=by
 have h1:=xU (vs:=vis p 1) (l:=[]);rw[aHn p (oF h)]at h1;have hn:nodesT p≤2000:=by simp only[iA,aA,decide_eq_true_eq]at h;omega
 rw[S7];simp only[cB,dM]at h1;omega
theorem bUd{s:dX}{u:LSub}{m:Nat}(h:mK s u=true)(ho:OkU m u):SmU u:=fun x y hx=>by
 have hm:=aMl hx;refine⟨ho.2 _ hm,?_⟩;have:=(yC h _ hm).2;rw[gI,aA]at this;have hv:=this.1;simp only[iA,aA,decide_eq_true_eq]at hv;have h1:=iO y;have h2:=oU y.kids;omega
theorem bNn{s:dX}{p:LTerm}{v:LSub}(hm:Small s)(hs:OkS s)(op:OkT p)(hp:iA nodeB p=true)(hv:mK s v=true)(ho:OkU 1000000 v):CT 22 [.agg (dT s),elT p,avu v] (.tup [elT (aUm twM qN s p v).1,.i .i64 (aUm twM qN s p v).2]):=by
 have hw:=oF hp;have hn:nodesT p≤2000:=by simp only[iA,aA,decide_eq_true_eq]at hp;omega
 have su:=bUd hv ho;exact bKn twM qN s p v hm hs op ho (fun q hq=>by have:=aMi (yC hv q hq).1;omega) (fun _ _=>bDk hm (vL hv) (by have:=ho.1;omega) su p hw hn op) (aVm su p hw hn op)
theorem bXz(s : dX)(p t:LTerm)(u:LSub)(hs:OkS s)(op:OkT p)(ot:OkT t)(hul:u.length≤1466015503701)(hu:∀q∈u,OkT q.2)(hn:∀q∈u,q.1.length≤140737488355328): CT 6 [.agg (dT s),.agg (uW p t u)] (.b true):=by
 refine eG cZ Tryz.func6 g0 ?_
 ·simp -implicitDefEqProofs (disch:=omega) only[Tryz.f6,go_sem,List.replicate,simprocAttr,uW,avu,aW,aH,aJ,bUi,fB,fP,List.append_nil];have c1:=bXy s u [p,t] hs hul hu (by simp) (cDf op ot);have ca:=bXx;simp only[avt,avu,List.flatMap_cons,List.flatMap_nil,List.append_nil,aW,aH,aJ,aQ,cB]at c1;rcases mQ (bWh s u [p,t])with h1|h1
  ·rw[h1]at c1
   have F:=bQa h1;have hok:OkU 100000 u:=⟨by have:=F.ul;omega,hu⟩;have hnp:nodesT p≤100000:=by have:=(nC (l:=[p,t]) (k:=p) (by simp)).1;have:=F.ln;omega
   have hnt:nodesT t≤100000:=by have:=(nC (l:=[p,t]) (k:=t) (by simp)).1;have:=F.ln;omega
   have c2:=Y8 s p t u F.sm hs op ot hok hn hnp hnt;have M:=aVv (s:=s) (p:=p) (u:=u) ot hok hnp;have e1:=cKx s p t u;have A:=aIt (s:=s) (p:=p) (t:=t) (u:=u);have N:=aVw (s:=s) (p:=p) (t:=t) (u:=u);have L:=fun h v hv=>bHg (s:=s) (p:=p) (t:=t) (u0:=u) (u:=v) h hv;generalize kD s p t u=m at *
   obtain⟨l,e⟩:=m;dsimp only at c2 M e1 A N L;simp only[avw,avu,elT,aW,avt]at c2;have d02:decide ((0:Int)=2)=false:=rfl;have d32:decide ((3:Int)=2)=false:=rfl;have d22:decide ((2:Int)=2)=true:=rfl;have d30:decide ((3:Int)=0)=false:=rfl;have d20:decide ((2:Int)=0)=false:=rfl;have d00:decide ((0:Int)=0)=true:=rfl;have d33:decide ((3:Int)=3)=true:=rfl;rcases e1 with rfl|rfl|rfl
   ·obtain⟨a1,a2,a3⟩:=A rfl
    have L:=L rfl;have hV:=bOa a1;have c3:=bQr p op hV;have cw:=bXv p op;have hgot:∀q∈u,OkT q.2:=hu;simp only[avs,elT,aW]at c3 cw;have hnl:=aSm hV;generalize S7 p=ns at *
    (refine zy3 (zA2 aN d00) c1 c2 c3 ?_;repeat' first|exact trivial|refine zJ ?_ ?_|refine zH fun hc=>?_);refine kI (fun(k:Nat)=>(.k::.k::.k::.k::.j::(rp 5 .k (.j::.k::.j::.j::.j::.k::(rp 5 .j (rp 48 .k (.v (.i .i64 (k:Nat))::(rp 69 .j [.k])))))))) (fun k=>[.box false (dT s),.box false ((tmC p)++((tmC t)++[.sl (u.flatMap prT) u.length])),.arr false 6 ((tmC p)++(tmC t))]) (fun k=>k≤l.length) (fun k=>l.length-k) (0) _ (bJ _) rfl (by simp[hZ]) ?_;rintro k g j hk;by_cases hlt:k<l.length
    ·have hki:decide ((k:Int)<((l.length:Nat):Int))=true:=zt (by omega);have hin:=cT (d:=default) hlt;obtain⟨⟨b1,b2⟩,b3,b4,b5⟩:=L _ hin;have ov:=M.1 _ hin;have cv:=bKo s (l.getD k default) F.sm hs ov (fun q hq=>by have:=aMi (yC b2 q hq).1;omega);rw[b1,b2]at cv;have cg:=fun x=>bXw (l.getD k default) x ov;have cp:=bNn F.sm hs op hV b2 ov;simp only[avu,elT,aW]at cv cg cp;refine zh (zA2 hki @avu.eq_1) ?_;(refine zy1 (zA2 hki (zA2 @avu.eq_1 (zA2 eZ aN))) cv ?_;repeat' first|exact trivial|refine zJ ?_ ?_|refine zH fun hc=>?_);refine kI (fun(i:Nat)=>(.k::.k::.k::.k::.j::(rp 7 .k (.j::.j::.j::(rp 65 .k (.v (.i .i64 (i:Nat))::(rp 20 .j (rp 39 .k [])))))))) (fun i=>[.box false (dT s),.box false ((tmC p)++((tmC t)++[.sl (u.flatMap prT) u.length])),.arr false 6 ((tmC p)++(tmC t))]) (fun i=>i≤u.length) (fun i=>u.length-i) (0) _ (bJ _) rfl (by simp[hZ]) ?_;rintro i g2 j2 hi;by_cases hlt2:i<u.length
     ·have hki2:decide ((i:Int)<((u.length:Nat):Int))=true:=zt (by omega);have hm2:=cT (d:=default) hlt2;have hp1:=aIf hlt2;have c6:=cg (u.getD i default).1;have c7:=aYx (u.getD i default).2 (u.getD i default).2 (hu _ hm2) (hu _ hm2);rw[b3 _ hm2]at c6;rw[zt rfl]at c7;simp only[elT,aW,gB,I8,if_true]at c6 c7;refine zh (zA2 hki2 (zA2 @prT.eq_1 (zA2 @aW hp1))) ?_;repeat refine bX (by omega) ?_
      (refine zy2 (zA2 hki2 (zA2 @prT.eq_1 (zA2 @aW (zA2 hp1 (zA2 aN d00))))) c6 c7 ?_;repeat' first|exact trivial|refine zJ ?_ ?_|refine zH fun hc=>?_);exact⟨i+1,_,by omega,by omega,rfl,by simp⟩
     ·have hki2:decide ((i:Int)<((u.length:Nat):Int))=false:=zf (by omega);refine zh hki2 ?_;refine kI (fun(i:Nat)=>(.k::.k::.k::.k::.j::(rp 11 .k (.j::.j::.j::(rp 84 .k (.v (.i .i64 (i:Nat))::(rp 12 .j (rp 24 .k [])))))))) (fun i=>[.box false (dT s),.box false ((tmC p)++((tmC t)++[.sl (u.flatMap prT) u.length])),.arr false 6 ((tmC p)++(tmC t))]) (fun i=>i≤ns.length) (fun i=>ns.length-i) (0) _ (bJ _) rfl (by simp[hZ]) ?_;rintro i3 g3 j3 hi3;by_cases hlt3:i3<ns.length
      ·have hki3:decide ((i3:Int)<((ns.length:Nat):Int))=true:=zt (by omega);obtain⟨y,hy⟩:=b4 _ (cT (d:=([]:Str)) hlt3);have c8:=cg (ns.getD i3 []);rw[hy]at c8;simp only[gB,I8,if_true]at c8;refine zh hki3 ?_;(refine zy1 (zA2 hki3 d00) c8 ?_;repeat' first|exact trivial|refine zJ ?_ ?_|refine zH fun hc=>?_);exact⟨i3+1,_,by omega,by omega,rfl,by simp⟩
      ·have hki3:decide ((i3:Int)<((ns.length:Nat):Int))=false:=zf (by omega);have d016:decide ((0:Int)=16)=false:=rfl;have d166:decide ((16:Int)=16)=true:=rfl;have c9:=aYx t t ot ot;rw[zt rfl]at c9;simp only[elT,aW]at c9;refine zh hki3 ?_;rcases mQ (pR p)with hw|hw
       ·rw[hw]at cw;(refine zy1 hki3 cw ?_;repeat' first|exact trivial|refine zJ ?_ ?_|refine zH fun hc=>?_);exact⟨k+1,_,by omega,by omega,rfl,by simp⟩
       ·rw[hw]at cw;rcases b5 hw with hpv|hpv
        ·rw[hpv]at cp;(refine zy2 (zA2 hki3 d166) cw cp ?_;repeat' first|exact trivial|refine zJ ?_ ?_|refine zH fun hc=>?_);exact⟨k+1,_,by omega,by omega,rfl,by simp⟩
        ·rw[hpv]at cp;(refine zy3 (zA2 hki3 (zA2 d016 (zA2 d00 aN))) cw cp c9 ?_;repeat' first|exact trivial|refine zJ ?_ ?_|refine zH fun hc=>?_);exact⟨k+1,_,by omega,by omega,rfl,by simp⟩
    ·have hki:decide ((k:Int)<((l.length:Nat):Int))=false:=zf (by omega);refine zh hki ?_;(refine zy1 hki ca ?_;repeat' first|exact trivial|refine zJ ?_ ?_|refine zH fun hc=>?_);all_goals exact bV rfl rfl
   ·obtain rfl:=N (by decide);(refine zy3 (zA2 aN (zA2 d22 (zA2 d20 (zA2 d02 d32)))) c1 c2 ca ?_;repeat' first|exact trivial|refine zJ ?_ ?_|refine zH fun hc=>?_);all_goals exact bV rfl rfl
   ·obtain rfl:=N (by decide);(refine zy3 (zA2 aN (zA2 d22 (zA2 d20 (zA2 d02 (zA2 d32 (zA2 d30 d33)))))) c1 c2 ca ?_;repeat' first|exact trivial|refine zJ ?_ ?_|refine zH fun hc=>?_);all_goals exact bV rfl rfl
  ·rw[h1]at c1;(refine zy2 aS c1 ca ?_;repeat' first|exact trivial|refine zJ ?_ ?_|refine zH fun hc=>?_);all_goals exact bV rfl rfl
end Go.Proofs.YtdjcggcjlphdoaaGreatDoor

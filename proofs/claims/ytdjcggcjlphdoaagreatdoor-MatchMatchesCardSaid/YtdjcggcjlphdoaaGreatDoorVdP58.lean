/-
  Functions of the chapter, as plain functions of what they are given; no condition.
-/
import Derived.Test.YtdjcggcjlphdoaaGreatDoorVdP57
import Derived.Test.YtdjcggcjlphdoaaGreatDoorVcP56
import Derived.Test.YtdjcggcjlphdoaaGreatDoorVdP54
import Derived.Test.YtdjcggcjlphdoaaGreatDoorVdP55
import Derived.Test.YtdjcggcjlphdoaaGreatDoorVoP62
import Derived.Lib.ItoaLen
set_option maxRecDepth 100000
set_option linter.unusedSimpArgs false
set_option linter.unusedVariables false
set_option maxHeartbeats 4000000
namespace Go.Proofs.YtdjcggcjlphdoaaGreatDoor
open Go Go.Vo
open Nat (reduceAdd reduceSub reduceMul reduceLeDiff reduceLT reduceEqDiff)
open Int (reduceNeg)
theorem bSh(s:dF)(u:LSub)(hm:Small s)(hs:OkS s)(hv:fM s=true)(hu:OkU 1000000 u)(hn:∀p∈u,p.1.length≤140737488355328): CT 53 [.agg (bX s),avu u] (.b (nV s u)):=by
 refine cW cI Tryz.func53 g0 ?_
 ·simp -implicitDefEqProofs (disch:=omega) only[Tryz.f53,go_sem,List.replicate,simprocAttr,avu];refine cO (fun(q:Nat×List AObj)=>(.k::.k::.k::.k::.j::.j::.j::.k::.k::.v (.i .i64 (q.1:Nat))::(rp 31 .j []))) (fun q=>(.box false (bX s)::q.2)) (fun q=>q.1≤u.length∧nU s u q.1=true) (fun q=>u.length-q.1) ((0,[])) ⟨aR _,rfl⟩ rfl (by simp[fO]) ?_;rintro⟨k,g⟩ j ⟨hk,hb⟩;dsimp only at hk hb;by_cases hlt:k<u.length
  ·have hki:decide ((k:Int)<((u.length:Nat):Int))=true:=zt (by omega);have hm':=cC (d:=default) hlt;have hul:=hu.1;have hot:=hu.2 _ hm';have c1:=P8 (u.getD k default).1 (hn _ hm');have c2:=bGf s (u.getD k default).2 hm hs hv hot;have hno:=fun h=>aBw (s:=s) (u:=u) (k:=k+1) (by omega) h;rw[nU,hb,Bool.true_and]at hno;have hsk:nU s u (k+1)=(eK (u.getD k default).1&&((decide (k=0)||Op.bytesLess (u.getD (k-1) default).1 (u.getD k default).1)&&fN s (u.getD k default).2)):=by rw[nU,hb,Bool.true_and]
   refine zh (zA2 hki (zA2 @prT.eq_1 @aI)) ?_;repeat refine aU (by omega) ?_
   refine bM c1 ?_ ?_
   ·exact zu
   refine zg ?_;cases h1:eK (u.getD k default).1 with
   |false=>
    simp -implicitDefEqProofs (disch:=omega) only[h1,Bool.not_false,go_sem,simprocAttr];exact .inl ⟨by rw[hno (by rw[h1];rfl)],rfl⟩
   |true=>
    by_cases hk0:k=0
    ·have hk1:decide ((0:Int)<0)=false:=rfl;subst hk0;simp -implicitDefEqProofs (disch:=omega) only[h1,hk1,Bool.not_true,go_sem,simprocAttr];repeat refine aU (by omega) ?_
     refine bM c2 ?_ ?_
     ·exact zv (zA2 @elT.eq_1 (zA2 @aI (zA2 @avs.eq_1 (zA2 @avb.eq_1 (zA2 @avo.eq_1 @bX.eq_1)))))
     cases h2:fN s (u.getD 0 default).2 with
     |false=>
      simp -implicitDefEqProofs (disch:=omega) only[h2,Bool.not_false,go_sem,simprocAttr];exact .inl ⟨by rw[hno (by rw[h1,h2,Bool.and_false,Bool.and_false])],rfl⟩
     |true=>
      simp -implicitDefEqProofs (disch:=omega) only[h2,Bool.not_true,go_sem,simprocAttr];refine⟨(0+1,_),⟨by dsimp only;omega,by dsimp only;rw[hsk,h1,h2];simp⟩,by dsimp only;omega,rfl,by simp⟩
    ·have hk1:decide ((0:Int)<(k:Int))=true:=zt (by omega);have hw1:IntKind.i64.wrap ((k:Int)-1)=((k-1:Nat):Int):=by rw[wrap64 (by omega) (by omega)];omega
     have hp1:=I3 (u:=u) (k:=k-1) (by omega);simp -implicitDefEqProofs (disch:=omega) only[h1,hk1,hw1,hp1,Bool.not_true,go_sem,simprocAttr];repeat refine aU (by omega) ?_
     cases h3:Op.bytesLess (u.getD (k-1) default).1 (u.getD k default).1 with
     |false=>
      simp -implicitDefEqProofs (disch:=omega) only[h3,Bool.not_false,go_sem,simprocAttr];exact .inl ⟨by rw[hno (by rw[h1,h3,zf hk0];rfl)],rfl⟩
     |true=>
      simp -implicitDefEqProofs (disch:=omega) only[h3,Bool.not_true,go_sem,simprocAttr];repeat refine aU (by omega) ?_
      refine bM c2 ?_ ?_
      ·exact zv (zA2 @elT.eq_1 (zA2 @aI (zA2 @avs.eq_1 (zA2 @avb.eq_1 (zA2 @avo.eq_1 @bX.eq_1)))))
      cases h2:fN s (u.getD k default).2 with
      |false=>
       simp -implicitDefEqProofs (disch:=omega) only[h2,Bool.not_false,go_sem,simprocAttr];exact .inl ⟨by rw[hno (by rw[h1,h2,Bool.and_false,Bool.and_false])],rfl⟩
      |true=>
       simp -implicitDefEqProofs (disch:=omega) only[h2,Bool.not_true,go_sem,simprocAttr];refine⟨(k+1,_),⟨by dsimp only;omega,by dsimp only;rw[hsk,h1,h2,h3];simp⟩,by dsimp only;omega,rfl,by simp⟩
  ·have hki:decide ((k:Int)<((u.length:Nat):Int))=false:=zf (by omega);obtain rfl:k=u.length:=by omega
   refine zh hki ?_;exact .inl ⟨by rw[nV,hb],rfl⟩
theorem bFu(s:dF)(p t:LTerm)(u:LSub)(hm:Small s)(hs:OkS s)(op:OkT p)(ot:OkT t)(hu:OkU 100000 u)(hn:∀q∈u,q.1.length≤140737488355328)(hnp:nodesT p≤100000)(hnt:nodesT t≤100000): CT 13 [.agg (bX s),elT p,elT t,avu u] (.tup [avw (kU s p t u).1,.i .i64 (kU s p t u).2]):=by
 refine cW cI Tryz.func13 g0 ?_
 ·simp -implicitDefEqProofs (disch:=omega) only[Tryz.f13,go_sem,List.replicate,simprocAttr,avu];have hul:=hu.1;have c1:=bSk s p hm hs op (bKx s _ hm hs op);rw[kU];by_cases hp:aJl s p=true
  ·have hv:fM s=true:=by rw[aJl,aB]at hp;exact hp.1
   have c2:=bGf s t hm hs hv ot;have c3:=bSh s u hm hs hv (hu.mono (by omega)) hn;simp only[avu]at c3;rw[hp]at c1;by_cases hpt:fN s t=true
   ·rw[hpt]at c2
    by_cases hsu:nV s u=true
    ·rw[hsu]at c3;rw[if_pos ⟨hp,hpt,hsu⟩];have on:OkN p:=⟨op,pN (S7 hp)⟩;have otn:OkN t:=⟨ot,pN (by rw[fN,aB]at hpt;exact hpt.1)⟩;have c4:=cCi hm hs hv (nodesT p) p on (bT _) t [u] false 100000 otn hpt (by omega) (fun u' hu'=>by rw[bJ.1 hu'];exact hu) (by simp) (by omega);rw[show dX s (nodesT p) p t [u] false=rM s p t u from rfl]at c4;(refine zt3 c1 c2 c3 ?_;repeat' first|exact trivial|refine zJ ?_ ?_|refine zH fun hc=>?_);refine U9 3 rfl ?_;obtain⟨k1,g',k2,k3⟩:=jX (pre:=[.box false (bX s),.box false (tmC p),.box false (tmC t),.box false [.sl (s.sorts.map .s) s.sorts.length,.sl (s.below.flatMap bZ) s.below.length,.sl (s.ops.flatMap bG) s.ops.length,.sl (s.funs.flatMap bG) s.funs.length,.sl (s.values.map .s) s.values.length,.b (false)]]) (g:=[.arr false 1 [.sl (u.flatMap prT) u.length]]) (sz:=1) (n:=1) (out:=.hs 4 0 1 false) (cells:=[.sl (u.flatMap prT) u.length]) (.inr ⟨0,rfl,rfl,rfl⟩) (by simp[persL,pers,jG]);simp only[aH,aJ,bX,avs,avb,avo]at k1 k3;rw[k1,k3];refine jC (rF 3 g0 c4 uU uU (gS _) rfl (by simp only[List.set,elT,aI,avw,avu,avt,renL,ren,renL_pers _ _ eW,renL_pers _ _ jG,mY,aK,aT,cH,bB])) ?_;rintro r' h' ⟨rfl,rfl⟩;by_cases hmany:(rM s p t u).2=true
     ·rw[if_pos hmany];refine zh hmany ?_;exact Z4
     ·rw[if_neg hmany];refine zh (cT.2 hmany) ?_;exact bQj rfl
    ·rw[cT.2 hsu]at c3;rw[if_neg (fun h=>hsu h.2.2)];(refine zt3 c1 c2 c3 ?_;repeat' first|exact trivial|refine zJ ?_ ?_|refine zH fun hc=>?_);all_goals exact Z4
   ·rw[cT.2 hpt]at c2;rw[if_neg (fun h=>hpt h.2.1)];(refine zt3 c1 c2 c3 ?_;repeat' first|exact trivial|refine zJ ?_ ?_|refine zH fun hc=>?_);all_goals exact Z4
  ·rw[cT.2 hp]at c1;rw[if_neg (fun h=>hp h.1)];(refine zt1 c1 ?_;repeat' first|exact trivial|refine zJ ?_ ?_|refine zH fun hc=>?_);all_goals exact Z4
def yE(s:dF)(p t:LTerm)(u:LSub):LSub×Int:=
 if(kU s p t u).2=0 then(match (kU s p t u).1 with| []=>([],4)|u::_=>(u,0))else([],(kU s p t u).2)
theorem bSl(s:dF)(p t:LTerm)(u:LSub)(hm:Small s)(hs:OkS s)(op:OkT p)(ot:OkT t)(hu:OkU 100000 u)(hn:∀q∈u,q.1.length≤140737488355328)(hnp:nodesT p≤100000)(hnt:nodesT t≤100000): CT 16 [.agg (bX s),elT p,elT t,avu u] (.tup [avu (yE s p t u).1,.i .i64 (yE s p t u).2]):=by
 refine cW cI Tryz.func16 g0 ?_
 ·simp -implicitDefEqProofs (disch:=omega) only[Tryz.f16,go_sem,List.replicate,simprocAttr,avu];have c:=bFu s p t u hm hs op ot hu hn hnp hnt;rw[yE];generalize kU s p t u=M at *
  obtain⟨l,o⟩:=M;simp only[avw,avu]at c;dsimp only;by_cases ho:o=0
  ·subst ho;rw[if_pos rfl];cases l with
   |nil=>
    simp only[aT,cH]at c;(refine zt1 c ?_;repeat' first|exact trivial|refine zJ ?_ ?_|refine zH fun hc=>?_);all_goals exact Z3
   |cons u l=>
    simp only[aK,bB]at c;(refine zy1 @avu.eq_1 c ?_;repeat' first|exact trivial|refine zJ ?_ ?_|refine zH fun hc=>?_)
    ·exfalso;omega
    ·exact bFc
  ·rw[if_neg ho];(refine zt1 c ?_;repeat' first|exact trivial|refine zJ ?_ ?_|refine zH fun hc=>?_);all_goals first
    |exact Z3
    |(exfalso;simp_all;done)
theorem bRv(s:dF)(p t:LTerm)(u:LSub)(hm:Small s)(hs:OkS s)(op:OkT p)(ot:OkT t)(hu:OkU 100000 u)(hn:∀q∈u,q.1.length≤140737488355328)(hnp:nodesT p≤100000)(hnt:nodesT t≤100000): CT 15 [.agg (bX s),elT p,elT t,avu u] (.tup [avu (yE s p t u).1,.i .i64 (yE s p t u).2]):=by
 refine cW cI Tryz.func15 g0 ?_
 ·simp -implicitDefEqProofs (disch:=omega) only[Tryz.f15,go_sem,List.replicate,simprocAttr,avu];have c:=M3 s p t u hm hs op ot hu hn hnp hnt;rw[yE];generalize kU s p t u=M at *
  obtain⟨l,o⟩:=M;simp only[avw,avu]at c;dsimp only;by_cases ho:o=0
  ·subst ho;rw[if_pos rfl];cases l with
   |nil=>
    simp only[aT,cH]at c;(refine zt1 c ?_;repeat' first|exact trivial|refine zJ ?_ ?_|refine zH fun hc=>?_);all_goals exact Z3
   |cons u l=>
    simp only[aK,bB]at c;(refine zy1 @avu.eq_1 c ?_;repeat' first|exact trivial|refine zJ ?_ ?_|refine zH fun hc=>?_)
    ·exfalso;omega
    ·exact bFc
  ·rw[if_neg ho];(refine zt1 c ?_;repeat' first|exact trivial|refine zJ ?_ ?_|refine zH fun hc=>?_);all_goals first
    |exact Z3
    |(exfalso;simp_all;done)
def aHx(p:LPr):List AV:=aM p.2
def bVx(u:LSub):Bool:=decide (u.length≤100)&&bNi 1500 (u.map (·.2))
theorem bRs(u:LSub)(hl:u.length≤1466015503701)(ho:∀p∈u,OkT p.2): CT 39 [avu u] (.b (bVx u)):=by
 refine cW cI Tryz.func39 g0 ?_
 ·simp -implicitDefEqProofs (disch:=omega) only[Tryz.f39,go_sem,List.replicate,simprocAttr,avu];rw[bVx];by_cases h1:u.length≤100
  ·have h1i:decide ((100:Int)<((u.length:Nat):Int))=false:=zf (by omega);refine zh h1i ?_;have c:=bGh 1500 (u.map (·.2)) (by rw[cZ];omega) (fun t ht=>by obtain⟨p,hp,rfl⟩:=dP.1 ht;exact ho p hp) (by decide) (by decide);have e:(u.map (·.2)).flatMap aM=u.flatMap aHx:=by rw[List.flatMap_map];rfl
   simp only[avt,e,cZ]at c;refine cO (fun(q:Nat×AV×List AObj)=>(.k::.k::.k::.v (q.2.1)::.k::.j::(rp 5 .k (.v (.i .i64 (q.1:Nat))::(rp 9 .j [.k,.k]))))) (fun q=>q.2.2) (fun q=>q.1≤u.length∧gD 6 0 q.2.2 q.2.1 ((u.take q.1).flatMap aHx) (u.take q.1).length) (fun q=>u.length-q.1) ((0,.e0,[])) ⟨aR _,eX⟩ rfl (by simp[fO]) ?_;rintro⟨k,out,g⟩ j ⟨hk,hb⟩;dsimp only at hk hb;by_cases hlt:k<u.length
   ·have hki:decide ((k:Int)<((u.length:Nat):Int))=true:=zt (by omega);have hX:(u.take (k+1)).flatMap aHx=(u.take k).flatMap aHx++aHx (u.getD k default):=lW hlt;have hl:(u.take k).length≤1000000:=by rw[bS];omega
    have hl2:(u.take (k+1)).length=(u.take k).length+1:=by rw[bS,bS];omega
    refine zh (zA2 hki (zA2 @prT.eq_1 (zA2 @aI (zA2 @mL (zA2 @dV.{0} (zA2 @eO.{0} @List.append_nil.{0})))))) ?_;repeat refine aU (by omega) ?_
    refine eI (pre:=[]) (g:=g) (more:=[.box false (.s (u.getD k default).1::(tmC ((u.getD k default).2))),.arr false 6 ((tmC ((u.getD k default).2)))]) (news:=(tmC ((u.getD k default).2))) (m:=1) hb rfl ?_ bQt bNm bOk bUs rfl (by decide) ?_ ?_ ⟨by omega,by omega⟩ ?_
    ·simp only[aH,aJ,cK]
    ·exact zu
    ·exact zu
    intro out' g' ho' _;refine zg ?_;refine⟨(k+1,out',g'),⟨by dsimp only;omega,?_⟩,by dsimp only;omega,rfl,by simp⟩;dsimp only;rw[hX,hl2,aHx,aI];exact ho'
   ·have hki:decide ((k:Int)<((u.length:Nat):Int))=false:=zf (by omega);obtain rfl:k=u.length:=by omega
    rw[aS (bT _)]at hb;have hp:persL (u.flatMap aHx)=true:=lT fun x _=>D0 _;obtain⟨k1,g',k2,k3⟩:=jX (pre:=[]) hb hp;simp only[aJ]at k1;refine zh hki ?_;refine bM c ?_ ?_
    ·exact zv @k1
    refine zg ?_;exact aV (by rw[zt h1,Bool.true_and]) rfl
  ·have h1i:decide ((100:Int)<((u.length:Nat):Int))=true:=zt (by omega);refine zh h1i ?_;exact aV (by rw[zf h1,Bool.false_and]) rfl
mutual
theorem aCw:∀(t:LTerm) (m d:Int),-1≤m→0≤pT t m d→(nodesT t:Int)+pT t m d≤m
 | .mk k n t s ks rs,m,d,hm,h=>by
   have h0:=aQb (t.length+s.length);rw[Int.natCast_add]at h0;rw[pT]at h ⊢;split at h
   ·omega
   ·rename_i hc;rw[if_neg hc];split at h
    ·omega
    ·rename_i hd;rw[if_neg hd,if_neg hd];have l1:=partsL_le ks (m-(1+Int.tdiv (t.length+s.length) 50)) (d+1) (by omega);have l2:=partsL_le rs (partsL ks (m-(1+Int.tdiv (t.length+s.length) 50)) (d+1)) (d+1) l1.1;have h1:=partsL_nodes ks (m-(1+Int.tdiv (t.length+s.length) 50)) (d+1) (by omega) (by omega);have h2:=partsL_nodes rs (partsL ks (m-(1+Int.tdiv (t.length+s.length) 50)) (d+1)) (d+1) l1.1 h;have h3:=mV rs;have e:nodesT (.mk k n t s ks rs)=1+rs.length+nodesL ks:=by rw[nodesT]
     rw[e];omega
theorem partsL_nodes:∀(l:List LTerm) (m d:Int),-1≤m→0≤partsL l m d→(nodesL l:Int)+partsL l m d≤m
 | [],m,d,hm,h=>by rw[partsL,nodesL];omega
 |t :: l,m,d,hm,h=>by
  rw[partsL]at h ⊢;split at h
  ·omega
  ·rename_i hc;rw[if_neg hc];have l1:=aCx t m d hm;have h1:=aCw t m d hm (by omega);have h2:=partsL_nodes l (pT t m d) d l1.1 h;have e:nodesL (t::l)=nodesT t+nodesL l:=by rw[nodesL]
   rw[e];omega
end
theorem aEj{m:Nat}{l:List LTerm}(h:bNi m l=true):nodesL l≤m:=by
 rw[bNi,decide_eq_true_eq,mA]at h;split at h
 ·omega
 ·have:=partsL_nodes l m 0 (by omega) h;omega
theorem bBd{m:Nat}{l:List LTerm}(h:bNi m l=true){t:LTerm}(ht:t∈l):nodesT t≤m:=hZ (lU ht).1 (aEj h)
def bQo(s:dF)(u:LSub)(l:List LTerm):Bool:=few s&&bVx u&&bNi 1500 l
theorem bRy(s:dF)(u:LSub)(l:List LTerm)(hs:OkS s)(hul:u.length≤1466015503701)(hu:∀p∈u,OkT p.2)(hl:l.length≤1466015503701)(ho:∀t∈l,OkT t): CT 10 [.agg (bX s),avu u,avt l] (.b (bQo s u l)):=by
 refine cW cI Tryz.func10 g0 ?_
 ·simp -implicitDefEqProofs (disch:=omega) only[Tryz.f10,go_sem,List.replicate,simprocAttr,avu,avt];have c2:=bRs u hul hu;simp only[avu]at c2;(refine zt3 (bZo s hs) c2 (bGh 1500 l hl ho (by decide) (by decide)) ?_;repeat' first|exact trivial|refine zJ ?_ ?_|refine zH fun hc=>?_);all_goals refine aV ?_ rfl
  all_goals simp only[bQo, *,decide_true,decide_false,Bool.true_and,Bool.false_and,Bool.and_true,Bool.and_false]
theorem bHr{a b:LSub}(hl:a.length=b.length)(h:∀j,j<a.length→(a.getD j default).1=(b.getD j default).1∧(a.getD j default).2=(b.getD j default).2):a=b:=by
 refine aBj hl fun i h1 h2=>?_;have:=h i h1;rw[eY,eY,bQ h1,bQ h2]at this;exact Prod.ext this.1 this.2
theorem bFp(a b:LSub)(ha:OkU 1000000 a)(hb:OkU 1000000 b): CT 17 [avu a,avu b] (.b (decide (a=b))):=by
 refine cW cI Tryz.func17 g0 ?_
 ·simp -implicitDefEqProofs (disch:=omega) only[Tryz.f17,go_sem,List.replicate,simprocAttr,avu];have hal:=ha.1;have hbl:=hb.1;by_cases hl:a.length=b.length
  ·have hli:((a.length:Nat):Int)=((b.length:Nat):Int):=by omega
   refine zh (zt hli) ?_;refine cO (fun(q:Nat)=>(.k::.k::.k::.k::.j::.j::(rp 7 .k (.v (.i .i64 (q:Nat))::(rp 28 .j []))))) (fun q=>[]) (fun q=>q≤a.length∧∀j,j<q→(a.getD j default).1=(b.getD j default).1∧(a.getD j default).2=(b.getD j default).2) (fun q=>a.length-q) (0) ⟨aR _,fun j h=>absurd h (Nat.not_lt_zero j)⟩ rfl (by simp[fO]) ?_;rintro k j ⟨hk,hb'⟩;by_cases hlt:k<a.length
   ·have hki:decide ((k:Int)<((a.length:Nat):Int))=true:=zt (by omega);have hma:=ha.2 _ (cC (d:=default) hlt);have hmb:=hb.2 _ (cC (d:=default) (hl▸hlt));have c:=U6 (a.getD k default).2 (b.getD k default).2 hma hmb;have hp1:=I3 hlt;have hp2:=I3 (u:=b) (k:=k) (by omega);have hne:∀P:Prop,(a=b→P)→(¬P)→decide (a=b)=false:=fun P h1 h2=>zf fun e=>h2 (h1 e);by_cases h1:(a.getD k default).1=(b.getD k default).1
    ·refine zh (zA2 hki (zA2 @prT.eq_1 (zA2 @aI (zA2 hp1 (zA2 hp2 (zt h1)))))) ?_;repeat refine aU (by omega) ?_
     refine bM c ?_ ?_
     ·exact zv (zA2 @elT.eq_1 @aI)
     by_cases h2:(a.getD k default).2=(b.getD k default).2
     ·refine zh (zt h2) ?_;refine⟨k+1,⟨by omega,fun i hi=>?_⟩,by omega,by simp⟩;rcases kE i k with h|h
      ·exact hb' i h
      ·obtain rfl:i=k:=by omega
       exact⟨h1,h2⟩
     ·refine zh (zf h2) ?_;exact aV (by rw[zf (fun e=>h2 (by rw[e]))]) rfl
    ·refine zh (zA2 hki (zA2 @prT.eq_1 (zA2 @aI (zA2 hp1 (zA2 hp2 (zf h1)))))) ?_;repeat refine aU (by omega) ?_
     exact aV (by rw[zf (fun e=>h1 (by rw[e]))]) rfl
   ·have hki:decide ((k:Int)<((a.length:Nat):Int))=false:=zf (by omega);obtain rfl:k=a.length:=by omega
    refine zh hki ?_;exact aV (by rw[zt (bHr hl hb')]) rfl
  ·have hli:¬((a.length:Nat):Int)=((b.length:Nat):Int):=by omega
   refine zh (zf hli) ?_;exact aV (by rw[zf (fun e=>hl (by rw[e]))]) rfl
theorem bRw(a b:List LSub)(ha:tD 1000000 a)(hb:tD 1000000 b)(hal:a.length≤1000000)(hbl:b.length≤1000000): CT 14 [avw a,avw b] (.b (decide (a=b))):=by
 refine cW cI Tryz.func14 g0 ?_
 ·simp -implicitDefEqProofs (disch:=omega) only[Tryz.f14,go_sem,List.replicate,simprocAttr,avw];by_cases hl:a.length=b.length
  ·have hli:((a.length:Nat):Int)=((b.length:Nat):Int):=by omega
   refine zh (zt hli) ?_;refine cO (fun(q:Nat)=>(.k::.k::.k::.k::.j::.j::(rp 7 .k (.v (.i .i64 (q:Nat))::(rp 13 .j []))))) (fun q=>[]) (fun q=>q≤a.length∧∀j,j<q→a.getD j default=b.getD j default) (fun q=>a.length-q) (0) ⟨aR _,fun j h=>absurd h (Nat.not_lt_zero j)⟩ rfl (by simp[fO]) ?_;rintro k j ⟨hk,hb'⟩;by_cases hlt:k<a.length
   ·have hki:decide ((k:Int)<((a.length:Nat):Int))=true:=zt (by omega);have c:=bFp (a.getD k default) (b.getD k default) (ha _ (cC (d:=default) hlt)) (hb _ (cC (d:=default) (hl▸hlt)));refine zh hki ?_;repeat refine aU (by omega) ?_
    refine bM c ?_ ?_
    ·exact zv @avu.eq_1
    by_cases h2:a.getD k default=b.getD k default
    ·refine zh (zt h2) ?_;refine⟨k+1,⟨by omega,fun i hi=>?_⟩,by omega,by simp⟩;rcases kE i k with h|h
     ·exact hb' i h
     ·obtain rfl:i=k:=by omega
      exact h2
    ·refine zh (zf h2) ?_;exact aV (by rw[zf (fun e=>h2 (by rw[e]))]) rfl
   ·have hki:decide ((k:Int)<((a.length:Nat):Int))=false:=zf (by omega);obtain rfl:k=a.length:=by omega
    refine zh hki ?_;exact aV (by rw[zt (aHr (d:=default) hl hb')]) rfl
  ·have hli:¬((a.length:Nat):Int)=((b.length:Nat):Int):=by omega
   refine zh (zf hli) ?_;exact aV (by rw[zf (fun e=>hl (by rw[e]))]) rfl
theorem bUr{N:DR}{f:FuncId}{A A0:List AV}{r:AV}{d:Option Nat}{os:List fK}{K:List AV→List AObj→Prop}{env:List AV}{cells cells':List AV}{t:List AObj}(c:ACalls Tryz.prog G0 f A0 [.box false cells] (fun r0 h1=>r0=r∧h1=[.box false cells']))(hp:persL cells=true)(hp':persL cells'=true)(hr:pers r=true)
 (hA:A=renL (emb [0] (.box false cells::t).length) A0) (hn:¬N.old 0) (k:dE Tryz.prog (pl G0) (some N) os K (hJ env d r) (.box false cells'::t)):bNk Tryz.prog (pl G0) N f A d os K env (.box false cells::t):=
 bZt (rF 0 g0 c hp hp' hr rfl hA) rfl (bAw hn) k
theorem bRp(u:LSub): CT 76 [tmA u] (.b true):=by
 refine cW cI Tryz.func76 g0 ?_
 ·simp -implicitDefEqProofs (disch:=omega) only[Tryz.f76,go_sem,List.replicate,simprocAttr,tmA];(refine zs0 ?_;repeat' first|exact trivial|refine zJ ?_ ?_|refine zH fun hc=>?_);all_goals exact aV rfl rfl
end Go.Proofs.YtdjcggcjlphdoaaGreatDoor

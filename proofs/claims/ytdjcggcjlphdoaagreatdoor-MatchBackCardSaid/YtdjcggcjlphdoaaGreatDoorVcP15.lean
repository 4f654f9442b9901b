/-
  Functions of the chapter, as plain functions of what they are given; no condition.
-/
import Derived.Test.YtdjcggcjlphdoaaGreatDoorVcP14
import Derived.Test.YtdjcggcjlphdoaaGreatDoorVdP15
set_option maxRecDepth 100000
set_option linter.unusedSimpArgs false
set_option linter.unusedVariables false
set_option maxHeartbeats 4000000
namespace Go.Proofs.YtdjcggcjlphdoaaGreatDoor
open Go Go.Vo
open Nat (reduceAdd reduceSub reduceMul reduceLeDiff reduceLT reduceEqDiff)
open Int (reduceNeg)
def aJv(p:LPr):List AV:=aP p.2
def cBq(u:LSub):Bool:=decide (u.length≤100)&&bSl 1500 (u.map (·.2))
theorem bXu(u:LSub)(hl:u.length≤1466015503701)(ho:∀p∈u,OkT p.2): CT 39 [avu u] (.b (cBq u)):=by
 refine eG cZ Tryz.func39 g0 ?_
 ·simp -implicitDefEqProofs (disch:=omega) only[Tryz.f39,go_sem,List.replicate,simprocAttr,avu];rw[cBq];by_cases h1:u.length≤100
  ·have h1i:decide ((100:Int)<((u.length:Nat):Int))=false:=zf (by omega);refine zh h1i ?_;have c:=bKz 1500 (u.map (·.2)) (by rw[dP];omega) (fun t ht=>by obtain⟨p,hp,rfl⟩:=dS.1 ht;exact ho p hp) (by decide) (by decide);have e:(u.map (·.2)).flatMap aP=u.flatMap aJv:=by rw[List.flatMap_map];rfl
   simp only[avt,e,dP]at c;refine dF (fun(q:Nat×AV×List AObj)=>(.k::.k::.k::.v (q.2.1)::.k::.j::(rp 5 .k (.v (.i .i64 (q.1:Nat))::(rp 9 .j [.k,.k]))))) (fun q=>q.2.2) (fun q=>q.1≤u.length∧jI 6 0 q.2.2 q.2.1 ((u.take q.1).flatMap aJv) (u.take q.1).length) (fun q=>u.length-q.1) ((0,.e0,[])) ⟨bJ _,kX⟩ rfl (by simp[hZ]) ?_;rintro⟨k,out,g⟩ j ⟨hk,hb⟩;dsimp only at hk hb;by_cases hlt:k<u.length
   ·have hki:decide ((k:Int)<((u.length:Nat):Int))=true:=zt (by omega);have hX:(u.take (k+1)).flatMap aJv=(u.take k).flatMap aJv++aJv (u.getD k default):=qJ hlt;have hl:(u.take k).length≤1000000:=by rw[List.length_take];omega
    have hl2:(u.take (k+1)).length=(u.take k).length+1:=by rw[List.length_take,List.length_take];omega
    refine zh (zA2 hki (zA2 @prT.eq_1 (zA2 @aW (zA2 @tE (zA2 @fB.{0} (zA2 @fP.{0} @List.append_nil.{0})))))) ?_;repeat refine bX (by omega) ?_
    refine gM (pre:=[]) (g:=g) (more:=[.box false (.s (u.getD k default).1::(tmC ((u.getD k default).2))),.arr false 6 ((tmC ((u.getD k default).2)))]) (news:=(tmC ((u.getD k default).2))) (m:=1) hb rfl ?_ bWm bSq bUa cAg rfl (by decide) ?_ ?_ ⟨by omega,by omega⟩ ?_
    ·simp only[aH,aJ,bU]
    ·exact zu
    ·exact zu
    intro out' g' ho' _;refine zg ?_;refine⟨(k+1,out',g'),⟨by dsimp only;omega,?_⟩,by dsimp only;omega,rfl,by simp⟩;dsimp only;rw[hX,hl2,aJv,aW];exact ho'
   ·have hki:decide ((k:Int)<((u.length:Nat):Int))=false:=zf (by omega);obtain rfl:k=u.length:=by omega
    rw[bE (bK _)]at hb;have hp:persL (u.flatMap aJv)=true:=nA fun x _=>wJ _;obtain⟨k1,g',k2,k3⟩:=rZ (pre:=[]) hb hp;simp only[aJ]at k1;refine zh hki ?_;refine dA c ?_ ?_
    ·exact zv @k1
    refine zg ?_;exact bV (by rw[zt h1,aI]) rfl
  ·have h1i:decide ((100:Int)<((u.length:Nat):Int))=true:=zt (by omega);refine zh h1i ?_;exact bV (by rw[zf h1,aO]) rfl
mutual
theorem aEa:∀(t:LTerm) (m d:Int),-1≤m→0≤qG t m d→(nodesT t:Int)+qG t m d≤m
 | .mk k n t s ks rs,m,d,hm,h=>by
   have h0:=aSx (t.length+s.length);rw[Int.natCast_add]at h0;rw[qG]at h ⊢;split at h
   ·omega
   ·rename_i hc;rw[if_neg hc];split at h
    ·omega
    ·rename_i hd;rw[if_neg hd,if_neg hd];have l1:=partsL_le ks (m-(1+Int.tdiv (t.length+s.length) 50)) (d+1) (by omega);have l2:=partsL_le rs (partsL ks (m-(1+Int.tdiv (t.length+s.length) 50)) (d+1)) (d+1) l1.1;have h1:=partsL_nodes ks (m-(1+Int.tdiv (t.length+s.length) 50)) (d+1) (by omega) (by omega);have h2:=partsL_nodes rs (partsL ks (m-(1+Int.tdiv (t.length+s.length) 50)) (d+1)) (d+1) l1.1 h;have h3:=oU rs;have e:nodesT (.mk k n t s ks rs)=1+rs.length+nodesL ks:=by rw[nodesT]
     rw[e];omega
theorem partsL_nodes:∀(l:List LTerm) (m d:Int),-1≤m→0≤partsL l m d→(nodesL l:Int)+partsL l m d≤m
 | [],m,d,hm,h=>by rw[partsL,nodesL];omega
 |t :: l,m,d,hm,h=>by
  rw[partsL]at h ⊢;split at h
  ·omega
  ·rename_i hc;rw[if_neg hc];have l1:=aEb t m d hm;have h1:=aEa t m d hm (by omega);have h2:=partsL_nodes l (qG t m d) d l1.1 h;have e:nodesL (t::l)=nodesT t+nodesL l:=by rw[nodesL]
   rw[e];omega
end
theorem aFr{m:Nat}{l:List LTerm}(h:bSl m l=true):nodesL l≤m:=by
 rw[bSl,decide_eq_true_eq,mO]at h;split at h
 ·omega
 ·have:=partsL_nodes l m 0 (by omega) h;omega
theorem bFy{m:Nat}{l:List LTerm}(h:bSl m l=true){t:LTerm}(ht:t∈l):nodesT t≤m:=jT (nC ht).1 (aFr h)
def bWh(s:dX)(u:LSub)(l:List LTerm):Bool:=few s&&cBq u&&bSl 1500 l
theorem bXy(s:dX)(u:LSub)(l:List LTerm)(hs:OkS s)(hul:u.length≤1466015503701)(hu:∀p∈u,OkT p.2)(hl:l.length≤1466015503701)(ho:∀t∈l,OkT t): CT 10 [.agg (dT s),avu u,avt l] (.b (bWh s u l)):=by
 refine eG cZ Tryz.func10 g0 ?_
 ·simp -implicitDefEqProofs (disch:=omega) only[Tryz.f10,go_sem,List.replicate,simprocAttr,avu,avt];have c2:=bXu u hul hu;simp only[avu]at c2;(refine zt3 (cFj s hs) c2 (bKz 1500 l hl ho (by decide) (by decide)) ?_;repeat' first|exact trivial|refine zJ ?_ ?_|refine zH fun hc=>?_);all_goals refine bV ?_ rfl
  all_goals simp only[bWh, *,decide_true,decide_false,aI,aO,bA,aM]
end Go.Proofs.YtdjcggcjlphdoaaGreatDoor

/-
  Functions of the chapter, as plain functions of what they are given; no condition.
-/
import Derived.Test.YtdjcggcjlphdoaaGreatDoorVcP72
import Derived.Test.YtdjcggcjlphdoaaGreatDoorVdP73
set_option maxRecDepth 100000
set_option linter.unusedSimpArgs false
set_option linter.unusedVariables false
set_option maxHeartbeats 4000000
namespace Go.Proofs.YtdjcggcjlphdoaaGreatDoor
open Go Go.Vo
open Nat (reduceAdd reduceSub reduceMul reduceLeDiff reduceLT reduceEqDiff)
open Int (reduceNeg)
theorem bAq{s:dK}{t c:LTerm}(h:jW s t=true)(hc:c∈t.kids):jW s c=true:=by
 rw[jW,aD]at h ⊢;have hp:=h.2;rw[lT]at hp;simp only[aD,bC]at hp;refine⟨?_,hp.1.2 c hc⟩;have hv:=h.1;simp only[kY,aD,decide_eq_true_eq]at hv ⊢;have m:=iI hc;have e1:=eW t;have e2:=aKs t;exact⟨⟨(eN.1 hv.1.1).2 c hc,by omega⟩,by omega⟩
theorem aZi{t:LTerm}(h:OkN t)(hk:t.kind=7∨t.kind=8):t.text=[]:=by
 have e:=(eN.1 h.2).1;rw[nodeB]at e;rcases hk with hk|hk
 ·simp only[hk,(by decide:¬(7:Int)=1),(by decide:¬(7:Int)=2),(by decide:¬(7:Int)=3),(by decide:¬(7:Int)=4),(by decide:¬(7:Int)=5),(by decide:¬(7:Int)=6),if_false,if_true,aD,gQ,cB,decide_eq_true_eq,aI,false_or]at e;simp_all
 ·simp only[hk,(by decide:¬(8:Int)=1),(by decide:¬(8:Int)=2),(by decide:¬(8:Int)=3),(by decide:¬(8:Int)=4),(by decide:¬(8:Int)=5),(by decide:¬(8:Int)=6),(by decide:¬(8:Int)=7),if_false,if_true,aD,gQ,cB,decide_eq_true_eq,aI,false_or]at e;simp_all
theorem bYh{t:LTerm}(h:OkN t)(hk:t.kind=5):t.rest.length=0:=by
 have e:=(eN.1 h.2).1;rw[nodeB]at e;simp only[hk,(by decide:¬(5:Int)=1),(by decide:¬(5:Int)=2),(by decide:¬(5:Int)=3),(by decide:¬(5:Int)=4),if_false,if_true,aD,gQ,cB,decide_eq_true_eq,aI,false_or]at e;simp_all
theorem oQ{h:List AObj}:Vo.Fin h .e0 (.sl (([]:List LSub).map avu) 0):=.inr ⟨rfl,fL,fun i hi=>by cases hi⟩
theorem aJr{A:AF}(hA:pA A){ps ts:List LTerm}{l:List LSub}{b:Bool}(k:Nat)(h:(jT A (ps.take k) (ts.take k) l b).2=true):(jT A ps ts l b).2=true:=by
 rw[I1 k,h];exact aNi hA
theorem aJq{A:AF}(hN:cBm A){ps ts:List LTerm}{l:List LSub}{b:Bool}(k:Nat)(h:(jT A (ps.take k) (ts.take k) l b).1=[]):jT A ps ts l b=([],(jT A (ps.take k) (ts.take k) l b).2):=by
 rw[I1 k,h];exact aCm hN
theorem bRj(s:dK)(n:Nat)(p t:LTerm)(l:List LSub)(m:Nat)(hm:Small s)(hA:∀q∈p.kids,bPc s n q)(hp:OkN p)(hp5:p.kind=5)(hpl1:p.kids.length≤1000000)(ht:OkN t)(hpl:∀x∈t.kids,jW s x=true)(hnk:∀x∈t.kids,nodesT x≤1000000)(htl:t.kids.length≤1000000)(hu:E2 m l)(ha:nJ l)(hl:l.length≤1000)(hmm:m+nodesT p≤1000000): aFx Tryz.prog G0 167 [.agg [bQ s],avw l,elT p,elT t] (avw (fM s (n+1) p t l false).1) (fM s (n+1) p t l false).2 vX:=by
 refine kT (rx:=true) (th:=fun i=>if i=11 then some ⟨none,[],false,false,true,[],[],8⟩else if i=18 then some ⟨none,[],false,false,true,[],[],8⟩else none) dE Tryz.func167 rfl (by kernel_rfl) (by kernel_rfl) (ac:=?_) ?_ g0 ?_;rotate_left
 ·simp only[strip,kV,eR,kU,RX.off,ckF,ckX,zOf,exd,vOf,aH,aG,bH,bG,aK,bA,aS,aK,bT,bY,dP,fQ,bD,bM,aE,aC,eB,anyPre,Region.binds,aA,aB,aI,if_true,if_false,aY,aW,aR,aT,aZ,aQ,aH,aG,List.append_nil,aLq,vQ,rR,rC,cU,cD,cG,aK,bH,bG,dD,beq_self_eq_true,fY,Nat.reduceBEq,qK,pH,qH,jX,aHu,fD,gE,bT,cX,Z2,Z1,↓reduceIte,Nat.reduceEqDiff,Nat.reduceBEq,mJ,nP,oH,splitK,vY,D9,aG,fD,gE,aA,aB,bA,aR,aS,bH,bG];rfl
 ·simp -implicitDefEqProofs (disch:=omega) only[Tryz.f167,go_sem,List.replicate,simprocAttr,avw,elT,aL];have h58:¬(5:Int)=8:=by decide
  by_cases hk:t.kind=5
  ·by_cases hx:t.text=p.text
   ·have hrl:=bYh hp hp5;have hr0:decide (((p.rest.length:Nat):Int)=0)=true:=zt (by omega);by_cases hlen:t.kids.length=p.kids.length
    ·have e:fM s (n+1) p t l false=jT (fM s n) p.kids t.kids l false:=by rw[fM,if_pos hp5,if_pos ⟨hk,hx,hlen⟩]
     rw[e];have hno:=eW p;have hi1:decide (((t.kids.length:Nat):Int)<((p.kids.length:Nat):Int))=false:=zf (by omega);have hi2:decide (((p.kids.length:Nat):Int)<((t.kids.length:Nat):Int))=false:=zf (by omega);have hpan:=fun k=>aJr (A:=fM s n) (aIr n) (ps:=p.kids) (ts:=t.kids) (l:=l) (b:=false) k;have hstop:=fun k=>aJq (A:=fM s n) (aMl n) (ps:=p.kids) (ts:=t.kids) (l:=l) (b:=false) k;have hfin:jT (fM s n) (p.kids.take p.kids.length) (t.kids.take p.kids.length) l false=jT (fM s n) p.kids t.kids l false:=by rw[fH,← hlen,fH]
     refine zh (zA2 hp5 (zA2 hk (zA2 hx (zA2 (zf h58) (zA2 hi1 (zA2 hi2 hr0)))))) ?_;refine dV (fun(q:Nat×List AObj)=>(.k::.v (.sl ((jT (fM s n) (p.kids.take q.1) (t.kids.take q.1) l false).1.map avu) (jT (fM s n) (p.kids.take q.1) (t.kids.take q.1) l false).1.length)::(rp 6 .k (.j::.k::.j::.j::(rp 48 .k (.v (.i .i64 (q.1:Nat))::(rp 17 .j (rp 18 .k [])))))))) (fun q=>(.box false [bQ s]::.box false [.i .i64 5,.i .i64 p.n,.s p.text,.s p.sort,.sl (p.kids.flatMap aU) p.kids.length,.sl (p.rest.flatMap aU) p.rest.length]::.box false [.i .i64 5,.i .i64 t.n,.s p.text,.s t.sort,.sl (t.kids.flatMap aU) t.kids.length,.sl (t.rest.flatMap aU) t.rest.length]::q.2)) (fun q=>q.1≤p.kids.length∧(jT (fM s n) (p.kids.take q.1) (t.kids.take q.1) l false).2=false) (fun q=>p.kids.length-q.1) ((0,[])) ⟨bX _,by simp[jT]⟩ rfl (by simp[iS]) ?_;rintro⟨k,g⟩ j ⟨hkl,hb⟩;dsimp only at hkl hb;by_cases hlt:k<p.kids.length
     ·have hki:decide ((k:Int)<((p.kids.length:Nat):Int))=true:=zt (by omega);have hkt:k<t.kids.length:=by omega
      have hpk:=cS (d:=default) hlt;have htk:=cS (d:=default) hkt;have er:=E3 (A:=fM s n) (l:=l) (b:=false) hlt hkt;have hn1:=oM hlt;have hn2:=iU (l:=p.kids) (k:=k+1);obtain⟨r1,r2⟩:=I2 (A:=fM s n) (ps:=p.kids.take k) (ts:=t.kids.take k) (b:=false) (fun q _=>tQ n q) (fun x h=>ht.kid (dI h)) hu hl;have r3:=tP (A:=fM s n) (zR n) (ps:=p.kids.take k) (ts:=t.kids.take k) (b:=false) ha;have c:=hA _ hpk (t.kids.getD k default) _ (m+nodesL (p.kids.take k)) (ht.kid htk) (hpl _ htk) (hnk _ htk) r1 r3 r2 (by omega);have hp1:=hpan (k+1);have hs1:=hstop (k+1);rw[hb]at er;rw[er]at hp1 hs1;generalize hR:fM s n (p.kids.getD k default) (t.kids.getD k default) (jT (fM s n) (p.kids.take k) (t.kids.take k) l false).1 false=R at *
      refine zh hki ?_;repeat refine bE (by omega) ?_
      refine vH c ?_ (fun hb'=>⟨hp1 hb',rfl⟩) (fun hb'=>?_)
      ·exact zv (zA2 @avw.eq_1 (zA2 @elT.eq_1 (zA2 @aL @bQ.eq_1)))
      by_cases hR0:R.1=[]
      ·have hz:decide (((R.1.length:Nat):Int)=0)=true:=zt (by rw[hR0];rfl);refine zh (zA2 @avw.eq_1 hz) ?_;rw[hs1 hR0];exact⟨hb',oQ⟩
      ·have hz:decide (((R.1.length:Nat):Int)=0)=false:=zf (fun h=>hR0 (List.eq_nil_of_length_eq_zero (by omega)));refine zh (zA2 @avw.eq_1 hz) ?_;refine⟨(k+1,_),⟨by dsimp only;omega,by dsimp only;rw[er];exact hb'⟩,by dsimp only;omega,rfl,?_⟩;dsimp only;rw[er];exact⟨rfl,rfl⟩
     ·have hki:decide ((k:Int)<((p.kids.length:Nat):Int))=false:=zf (by omega);obtain rfl:k=p.kids.length:=by omega
      rw[hfin]at hb ⊢;refine zh hki ?_;have hr1:decide ((0:Int)<((p.rest.length:Nat):Int))=false:=zf (by omega);refine dV (fun(q:Unit)=>(.k::.v (.sl ((jT (fM s n) p.kids t.kids l false).1.map avu) (jT (fM s n) p.kids t.kids l false).1.length)::(rp 11 .k (.j::(rp 67 .k (.v (.i .i64 0)::(rp 13 .j [.k]))))))) (fun q=>(.box false [bQ s]::.box false [.i .i64 5,.i .i64 p.n,.s p.text,.s p.sort,.sl (p.kids.flatMap aU) p.kids.length,.sl (p.rest.flatMap aU) p.rest.length]::.box false [.i .i64 5,.i .i64 t.n,.s p.text,.s t.sort,.sl (t.kids.flatMap aU) t.kids.length,.sl (t.rest.flatMap aU) t.rest.length]::g)) (fun q=>True) (fun q=>0) (()) trivial rfl (by simp[iS]) ?_;rintro⟨⟩ j7 -
      refine zh hr1 ?_;exact⟨hb,.inl ⟨rfl,sQ _⟩⟩
    ·have e:fM s (n+1) p t l false=([],false):=by rw[fM,if_pos hp5,if_neg (fun h=>hlen h.2.2)]
     rw[e];by_cases hgt:t.kids.length<p.kids.length
     ·have hi1:decide (((t.kids.length:Nat):Int)<((p.kids.length:Nat):Int))=true:=zt (by omega);refine zh (zA2 hp5 (zA2 hk (zA2 hx (zA2 (zf h58) (zA2 hi1 hr0))))) ?_;exact oQ
     ·have hi1:decide (((t.kids.length:Nat):Int)<((p.kids.length:Nat):Int))=false:=zf (by omega);have hi2:decide (((p.kids.length:Nat):Int)<((t.kids.length:Nat):Int))=true:=zt (by omega);refine zh (zA2 hp5 (zA2 hk (zA2 hx (zA2 (zf h58) (zA2 hi1 (zA2 hi2 hr0)))))) ?_;exact oQ
   ·have hx':¬p.text=t.text:=fun h=>hx h.symm;have e:fM s (n+1) p t l false=([],false):=by rw[fM,if_pos hp5,if_neg (fun h=>hx h.2.1)]
    rw[e];refine zh (zA2 hp5 (zA2 hk (zf hx'))) ?_;exact oQ
  ·have hk':¬(5:Int)=t.kind:=fun h=>hk h.symm;have e:fM s (n+1) p t l false=([],false):=by rw[fM,if_pos hp5,if_neg (fun h=>hk h.1)]
   rw[e];refine zh (zA2 hp5 (zf hk')) ?_;exact oQ
end Go.Proofs.YtdjcggcjlphdoaaGreatDoor

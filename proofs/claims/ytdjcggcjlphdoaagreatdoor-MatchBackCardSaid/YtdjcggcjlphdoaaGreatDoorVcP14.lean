/-
  Functions of the chapter, as plain functions of what they are given; no condition.
-/
import Derived.Test.YtdjcggcjlphdoaaGreatDoorVcP13
import Derived.Test.YtdjcggcjlphdoaaGreatDoorVdP13
set_option maxRecDepth 100000
set_option linter.unusedSimpArgs false
set_option linter.unusedVariables false
set_option maxHeartbeats 4000000
namespace Go.Proofs.YtdjcggcjlphdoaaGreatDoor
open Go Go.Vo
open Nat (reduceAdd reduceSub reduceMul reduceLeDiff reduceLT reduceEqDiff)
open Int (reduceNeg)
theorem bDo{s:dX}{t c:LTerm}(h:gI s t=true)(hc:c∈t.kids):gI s c=true:=by
 rw[gI,aA]at h ⊢;have hp:=h.2;rw[oY]at hp;simp only[aA,bF]at hp;refine⟨?_,hp.1.2 c hc⟩;have hv:=h.1;simp only[iA,aA,decide_eq_true_eq]at hv ⊢;have m:=nC hc;have e1:=iO t;have e2:=aMu t;exact⟨⟨(gS.1 hv.1.1).2 c hc,by omega⟩,by omega⟩
theorem bBw{t:LTerm}(h:OkN t)(hk:t.kind=7∨t.kind=8):t.text=[]:=by
 have e:=(gS.1 h.2).1;rw[nodeB]at e;rcases hk with hk|hk
 ·simp only[hk,(by decide:¬(7:Int)=1),(by decide:¬(7:Int)=2),(by decide:¬(7:Int)=3),(by decide:¬(7:Int)=4),(by decide:¬(7:Int)=5),(by decide:¬(7:Int)=6),if_false,if_true,aA,gK,cC,decide_eq_true_eq,aE,false_or]at e;simp_all
 ·simp only[hk,(by decide:¬(8:Int)=1),(by decide:¬(8:Int)=2),(by decide:¬(8:Int)=3),(by decide:¬(8:Int)=4),(by decide:¬(8:Int)=5),(by decide:¬(8:Int)=6),(by decide:¬(8:Int)=7),if_false,if_true,aA,gK,cC,decide_eq_true_eq,aE,false_or]at e;simp_all
theorem cCr{t:LTerm}(h:OkN t)(hk:t.kind=5):t.rest.length=0:=by
 have e:=(gS.1 h.2).1;rw[nodeB]at e;simp only[hk,(by decide:¬(5:Int)=1),(by decide:¬(5:Int)=2),(by decide:¬(5:Int)=3),(by decide:¬(5:Int)=4),if_false,if_true,aA,gK,cC,decide_eq_true_eq,aE,false_or]at e;simp_all
theorem pJ{h:List AObj}:Vo.Fin h .e0 (.sl (([]:List LSub).map avu) 0):=.inr ⟨rfl,fI,fun i hi=>by cases hi⟩
theorem aLl{A:AF}(hA:pU A){ps ts:List LTerm}{l:List LSub}{b:Bool}(k:Nat)(h:(kG A (ps.take k) (ts.take k) l b).2=true):(kG A ps ts l b).2=true:=by
 rw[L4 k,h];exact aPq hA
theorem aLk{A:AF}(hN:cGa A){ps ts:List LTerm}{l:List LSub}{b:Bool}(k:Nat)(h:(kG A (ps.take k) (ts.take k) l b).1=[]):kG A ps ts l b=([],(kG A (ps.take k) (ts.take k) l b).2):=by
 rw[L4 k,h];exact aDm hN
theorem bUw(s:dX)(n:Nat)(p t:LTerm)(l:List LSub)(m:Nat)(hm:Small s)(hA:∀q∈p.kids,bSf s n q)(hp:OkN p)(hp5:p.kind=5)(hpl1:p.kids.length≤1000000)(ht:OkN t)(hpl:∀x∈t.kids,gI s x=true)(hnk:∀x∈t.kids,nodesT x≤1000000)(htl:t.kids.length≤1000000)(hu:F3 m l)(ha:nT l)(hl:l.length≤1000)(hmm:m+nodesT p≤1000000): aHj Tryz.prog G0 167 [.agg [cM s],avw l,elT p,elT t] (avw (fJ s (n+1) p t l false).1) (fJ s (n+1) p t l false).2 xH:=by
 refine lG (rx:=true) (th:=fun i=>if i=11 then some ⟨none,[],false,false,true,[],[],8⟩else if i=18 then some ⟨none,[],false,false,true,[],[],8⟩else none) cZ Tryz.func167 rfl (by kernel_rfl) (by kernel_rfl) (ac:=?_) ?_ g0 ?_;rotate_left
 ·simp only[strip,lI,eS,lH,RX.off,ckF,ckX,zOf,exd,vOf,aD,aC,bD,bC,aF,bA,aM,aF,bS,bY,dR,fT,bB,bI,aJ,aH,dZ,anyPre,Region.binds,aN,aS,aE,if_true,if_false,aX,aU,aI,aO,aZ,aK,aD,aC,List.append_nil,aNu,xE,sV,sB,cR,bT,bZ,aF,bD,bC,cU,beq_self_eq_true,fZ,Nat.reduceBEq,rC,qI,rA,kK,aJf,fC,gJ,bS,eZ,aAv,aAu,↓reduceIte,Nat.reduceEqDiff,Nat.reduceBEq,mY,oC,oX,splitK,xI,G6,aC,fC,gJ,aN,aS,bA,aI,aM,bD,bC];rfl
 ·simp -implicitDefEqProofs (disch:=omega) only[Tryz.f167,go_sem,List.replicate,simprocAttr,avw,elT,aW];have h58:¬(5:Int)=8:=by decide
  by_cases hk:t.kind=5
  ·by_cases hx:t.text=p.text
   ·have hrl:=cCr hp hp5;have hr0:decide (((p.rest.length:Nat):Int)=0)=true:=zt (by omega);by_cases hlen:t.kids.length=p.kids.length
    ·have e:fJ s (n+1) p t l false=kG (fJ s n) p.kids t.kids l false:=by rw[fJ,if_pos hp5,if_pos ⟨hk,hx,hlen⟩]
     rw[e];have hno:=iO p;have hi1:decide (((t.kids.length:Nat):Int)<((p.kids.length:Nat):Int))=false:=zf (by omega);have hi2:decide (((p.kids.length:Nat):Int)<((t.kids.length:Nat):Int))=false:=zf (by omega);have hpan:=fun k=>aLl (A:=fJ s n) (aKd n) (ps:=p.kids) (ts:=t.kids) (l:=l) (b:=false) k;have hstop:=fun k=>aLk (A:=fJ s n) (aOr n) (ps:=p.kids) (ts:=t.kids) (l:=l) (b:=false) k;have hfin:kG (fJ s n) (p.kids.take p.kids.length) (t.kids.take p.kids.length) l false=kG (fJ s n) p.kids t.kids l false:=by rw[gD,← hlen,gD]
     refine zh (zA2 hp5 (zA2 hk (zA2 hx (zA2 (zf h58) (zA2 hi1 (zA2 hi2 hr0)))))) ?_;refine dF (fun(q:Nat×List AObj)=>(.k::.v (.sl ((kG (fJ s n) (p.kids.take q.1) (t.kids.take q.1) l false).1.map avu) (kG (fJ s n) (p.kids.take q.1) (t.kids.take q.1) l false).1.length)::(rp 6 .k (.j::.k::.j::.j::(rp 48 .k (.v (.i .i64 (q.1:Nat))::(rp 17 .j (rp 18 .k [])))))))) (fun q=>(.box false [cM s]::.box false [.i .i64 5,.i .i64 p.n,.s p.text,.s p.sort,.sl (p.kids.flatMap aP) p.kids.length,.sl (p.rest.flatMap aP) p.rest.length]::.box false [.i .i64 5,.i .i64 t.n,.s p.text,.s t.sort,.sl (t.kids.flatMap aP) t.kids.length,.sl (t.rest.flatMap aP) t.rest.length]::q.2)) (fun q=>q.1≤p.kids.length∧(kG (fJ s n) (p.kids.take q.1) (t.kids.take q.1) l false).2=false) (fun q=>p.kids.length-q.1) ((0,[])) ⟨bJ _,by simp[kG]⟩ rfl (by simp[hZ]) ?_;rintro⟨k,g⟩ j ⟨hkl,hb⟩;dsimp only at hkl hb;by_cases hlt:k<p.kids.length
     ·have hki:decide ((k:Int)<((p.kids.length:Nat):Int))=true:=zt (by omega);have hkt:k<t.kids.length:=by omega
      have hpk:=cT (d:=default) hlt;have htk:=cT (d:=default) hkt;have er:=H0 (A:=fJ s n) (l:=l) (b:=false) hlt hkt;have hn1:=pE hlt;have hn2:=kJ (l:=p.kids) (k:=k+1);obtain⟨r1,r2⟩:=L5 (A:=fJ s n) (ps:=p.kids.take k) (ts:=t.kids.take k) (b:=false) (fun q _=>sZ n q) (fun x h=>ht.kid (dH h)) hu hl;have r3:=uX (A:=fJ s n) (xM n) (ps:=p.kids.take k) (ts:=t.kids.take k) (b:=false) ha;have c:=hA _ hpk (t.kids.getD k default) _ (m+nodesL (p.kids.take k)) (ht.kid htk) (hpl _ htk) (hnk _ htk) r1 r3 r2 (by omega);have hp1:=hpan (k+1);have hs1:=hstop (k+1);rw[hb]at er;rw[er]at hp1 hs1;generalize hR:fJ s n (p.kids.getD k default) (t.kids.getD k default) (kG (fJ s n) (p.kids.take k) (t.kids.take k) l false).1 false=R at *
      refine zh hki ?_;repeat refine bX (by omega) ?_
      refine wV c ?_ (fun hb'=>⟨hp1 hb',rfl⟩) (fun hb'=>?_)
      ·exact zv (zA2 @avw.eq_1 (zA2 @elT.eq_1 (zA2 @aW @cM.eq_1)))
      by_cases hR0:R.1=[]
      ·have hz:decide (((R.1.length:Nat):Int)=0)=true:=zt (by rw[hR0];rfl);refine zh (zA2 @avw.eq_1 hz) ?_;rw[hs1 hR0];exact⟨hb',pJ⟩
      ·have hz:decide (((R.1.length:Nat):Int)=0)=false:=zf (fun h=>hR0 (List.eq_nil_of_length_eq_zero (by omega)));refine zh (zA2 @avw.eq_1 hz) ?_;refine⟨(k+1,_),⟨by dsimp only;omega,by dsimp only;rw[er];exact hb'⟩,by dsimp only;omega,rfl,?_⟩;dsimp only;rw[er];exact⟨rfl,rfl⟩
     ·have hki:decide ((k:Int)<((p.kids.length:Nat):Int))=false:=zf (by omega);obtain rfl:k=p.kids.length:=by omega
      rw[hfin]at hb ⊢;refine zh hki ?_;have hr1:decide ((0:Int)<((p.rest.length:Nat):Int))=false:=zf (by omega);refine dF (fun(q:Unit)=>(.k::.v (.sl ((kG (fJ s n) p.kids t.kids l false).1.map avu) (kG (fJ s n) p.kids t.kids l false).1.length)::(rp 11 .k (.j::(rp 67 .k (.v (.i .i64 0)::(rp 13 .j [.k]))))))) (fun q=>(.box false [cM s]::.box false [.i .i64 5,.i .i64 p.n,.s p.text,.s p.sort,.sl (p.kids.flatMap aP) p.kids.length,.sl (p.rest.flatMap aP) p.rest.length]::.box false [.i .i64 5,.i .i64 t.n,.s p.text,.s t.sort,.sl (t.kids.flatMap aP) t.kids.length,.sl (t.rest.flatMap aP) t.rest.length]::g)) (fun q=>True) (fun q=>0) (()) trivial rfl (by simp[hZ]) ?_;rintro⟨⟩ j7 -
      refine zh hr1 ?_;exact⟨hb,.inl ⟨rfl,uG _⟩⟩
    ·have e:fJ s (n+1) p t l false=([],false):=by rw[fJ,if_pos hp5,if_neg (fun h=>hlen h.2.2)]
     rw[e];by_cases hgt:t.kids.length<p.kids.length
     ·have hi1:decide (((t.kids.length:Nat):Int)<((p.kids.length:Nat):Int))=true:=zt (by omega);refine zh (zA2 hp5 (zA2 hk (zA2 hx (zA2 (zf h58) (zA2 hi1 hr0))))) ?_;exact pJ
     ·have hi1:decide (((t.kids.length:Nat):Int)<((p.kids.length:Nat):Int))=false:=zf (by omega);have hi2:decide (((p.kids.length:Nat):Int)<((t.kids.length:Nat):Int))=true:=zt (by omega);refine zh (zA2 hp5 (zA2 hk (zA2 hx (zA2 (zf h58) (zA2 hi1 (zA2 hi2 hr0)))))) ?_;exact pJ
   ·have hx':¬p.text=t.text:=fun h=>hx h.symm;have e:fJ s (n+1) p t l false=([],false):=by rw[fJ,if_pos hp5,if_neg (fun h=>hx h.2.1)]
    rw[e];refine zh (zA2 hp5 (zA2 hk (zf hx'))) ?_;exact pJ
  ·have hk':¬(5:Int)=t.kind:=fun h=>hk h.symm;have e:fJ s (n+1) p t l false=([],false):=by rw[fJ,if_pos hp5,if_neg (fun h=>hk h.1)]
   rw[e];refine zh (zA2 hp5 (zf hk')) ?_;exact pJ
end Go.Proofs.YtdjcggcjlphdoaaGreatDoor

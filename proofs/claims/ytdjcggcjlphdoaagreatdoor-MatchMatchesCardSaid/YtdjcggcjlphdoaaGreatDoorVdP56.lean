/-
  Functions of the chapter, as plain functions of what they are given; no condition.
-/
import Derived.Test.YtdjcggcjlphdoaaGreatDoorVdP55
import Derived.Test.YtdjcggcjlphdoaaGreatDoorVcP55
import Derived.Test.YtdjcggcjlphdoaaGreatDoorProg
import Derived.Test.YtdjcggcjlphdoaaGreatDoorVoP51
import Derived.Recover
import Derived.Tactics
import Derived.Tactics2
import Derived.Defers
import Derived.Laws.Pointers
set_option maxRecDepth 100000
set_option linter.unusedSimpArgs false
set_option linter.unusedVariables false
set_option maxHeartbeats 4000000
namespace Go.Proofs.YtdjcggcjlphdoaaGreatDoor
open Go Go.Vo
open Nat (reduceAdd reduceSub reduceMul reduceLeDiff reduceLT reduceEqDiff)
open Int (reduceNeg)
theorem aXv{t:LTerm}(h:OkN t)(hk:t.kind=7∨t.kind=8):t.text=[]:=by
 have e:=(nF.1 h.2).1;rw[dQ]at e;rcases hk with hk|hk
 ·simp only[hk,(by decide:¬(7:Int)=1),(by decide:¬(7:Int)=2),(by decide:¬(7:Int)=3),(by decide:¬(7:Int)=4),(by decide:¬(7:Int)=5),(by decide:¬(7:Int)=6),if_false,if_true,aB,fX,cM,decide_eq_true_eq,aE,false_or]at e;simp_all
 ·simp only[hk,(by decide:¬(8:Int)=1),(by decide:¬(8:Int)=2),(by decide:¬(8:Int)=3),(by decide:¬(8:Int)=4),(by decide:¬(8:Int)=5),(by decide:¬(8:Int)=6),(by decide:¬(8:Int)=7),if_false,if_true,aB,fX,cM,decide_eq_true_eq,aE,false_or]at e;simp_all
theorem bWt{t:LTerm}(h:OkN t)(hk:t.kind=5):t.rest.length=0:=by
 have e:=(nF.1 h.2).1;rw[dQ]at e;simp only[hk,(by decide:¬(5:Int)=1),(by decide:¬(5:Int)=2),(by decide:¬(5:Int)=3),(by decide:¬(5:Int)=4),if_false,if_true,aB,fX,cM,decide_eq_true_eq,aE,false_or]at e;simp_all
theorem oV{h:List AObj}:Vo.Fin h .e0 (.sl (([]:List LSub).map avu) 0):=.inr ⟨rfl,eM,fun i hi=>by cases hi⟩
theorem aJb{A:AF}(hA:vO A){ps ts:List LTerm}{l:List LSub}{b:Bool}(k:Nat)(h:(jH A (ps.take k) (ts.take k) l b).2=true):(jH A ps ts l b).2=true:=by
 rw[H4 k,h];exact aQx hA
theorem aJa{A:AF}(hN:cAe A){ps ts:List LTerm}{l:List LSub}{b:Bool}(k:Nat)(h:(jH A (ps.take k) (ts.take k) l b).1=[]):jH A ps ts l b=([],(jH A (ps.take k) (ts.take k) l b).2):=by
 rw[H4 k,h];exact aCh hN
theorem bPg(s:dF)(n:Nat)(p t:LTerm)(l:List LSub)(m:Nat)(hm:Small s)(hA:∀q∈p.kids,bNd s n q)(hp:OkN p)(hp5:p.kind=5)(hpl1:p.kids.length≤1000000)(ht:OkN t)(hpl:∀x∈t.kids,fN s x=true)(hnk:∀x∈t.kids,nodesT x≤1000000)(htl:t.kids.length≤1000000)(hu:tD m l)(ha:nP l)(hl:l.length≤1000)(hmm:m+nodesT p≤1000000): aFs Tryz.prog G0 167 [.agg [cD s],avw l,elT p,elT t] (avw (dX s (n+1) p t l false).1) (dX s (n+1) p t l false).2 wK:=by
 refine kY (rx:=true) (th:=fun i=>if i=11 then some ⟨none,[],false,false,true,[],[],8⟩else if i=18 then some ⟨none,[],false,false,true,[],[],8⟩else none) cI Tryz.func167 rfl (by kernel_rfl) (by kernel_rfl) (ac:=?_) ?_ g0 ?_;rotate_left
 ·simp only[strip,lA,eH,kZ,RX.off,ckF,ckX,zOf,exd,vOf,aD,aC,aY,aX,aF,Bool.and_true,Bool.and_false,aF,bP,bR,dI,fD,aW,bE,aJ,aH,dO,anyPre,Region.binds,Bool.not_true,Bool.not_false,aE,if_true,if_false,aP,aO,Bool.true_and,Bool.false_and,aT,aK,aD,aC,List.append_nil,aLl,wG,sS,rZ,cN,bY,bU,aF,aY,aX,cV,beq_self_eq_true,fI,Nat.reduceBEq,rA,pV,qW,jY,aHl,fC,gR,bP,dW,X9,X8,↓reduceIte,Nat.reduceEqDiff,Nat.reduceBEq,mR,nW,oP,splitK,wM,E0,aC,fC,gR,Bool.not_true,Bool.not_false,Bool.and_true,Bool.true_and,Bool.and_false,aY,aX];rfl
 ·simp -implicitDefEqProofs (disch:=omega) only[Tryz.f167,go_sem,List.replicate,simprocAttr,avw,elT,aI];have h58:¬(5:Int)=8:=by decide
  by_cases hk:t.kind=5
  ·by_cases hx:t.text=p.text
   ·have hrl:=bWt hp hp5;have hr0:decide (((p.rest.length:Nat):Int)=0)=true:=zt (by omega);by_cases hlen:t.kids.length=p.kids.length
    ·have e:dX s (n+1) p t l false=jH (dX s n) p.kids t.kids l false:=by rw[dX,if_pos hp5,if_pos ⟨hk,hx,hlen⟩]
     rw[e];have hno:=gA p;have hi1:decide (((t.kids.length:Nat):Int)<((p.kids.length:Nat):Int))=false:=zf (by omega);have hi2:decide (((p.kids.length:Nat):Int)<((t.kids.length:Nat):Int))=false:=zf (by omega);have hpan:=fun k=>aJb (A:=dX s n) (aPb n) (ps:=p.kids) (ts:=t.kids) (l:=l) (b:=false) k;have hstop:=fun k=>aJa (A:=dX s n) (aMj n) (ps:=p.kids) (ts:=t.kids) (l:=l) (b:=false) k;have hfin:jH (dX s n) (p.kids.take p.kids.length) (t.kids.take p.kids.length) l false=jH (dX s n) p.kids t.kids l false:=by rw[fR,← hlen,fR]
     refine zh (zA2 hp5 (zA2 hk (zA2 hx (zA2 (zf h58) (zA2 hi1 (zA2 hi2 hr0)))))) ?_;refine cO (fun(q:Nat×List AObj)=>(.k::.v (.sl ((jH (dX s n) (p.kids.take q.1) (t.kids.take q.1) l false).1.map avu) (jH (dX s n) (p.kids.take q.1) (t.kids.take q.1) l false).1.length)::(rp 6 .k (.j::.k::.j::.j::(rp 48 .k (.v (.i .i64 (q.1:Nat))::(rp 17 .j (rp 18 .k [])))))))) (fun q=>(.box false [cD s]::.box false [.i .i64 5,.i .i64 p.n,.s p.text,.s p.sort,.sl (p.kids.flatMap aM) p.kids.length,.sl (p.rest.flatMap aM) p.rest.length]::.box false [.i .i64 5,.i .i64 t.n,.s p.text,.s t.sort,.sl (t.kids.flatMap aM) t.kids.length,.sl (t.rest.flatMap aM) t.rest.length]::q.2)) (fun q=>q.1≤p.kids.length∧(jH (dX s n) (p.kids.take q.1) (t.kids.take q.1) l false).2=false) (fun q=>p.kids.length-q.1) ((0,[])) ⟨aR _,by simp[jH]⟩ rfl (by simp[fO]) ?_;rintro⟨k,g⟩ j ⟨hkl,hb⟩;dsimp only at hkl hb;by_cases hlt:k<p.kids.length
     ·have hki:decide ((k:Int)<((p.kids.length:Nat):Int))=true:=zt (by omega);have hkt:k<t.kids.length:=by omega
      have hpk:=cC (d:=default) hlt;have htk:=cC (d:=default) hkt;have er:=xH (A:=dX s n) (l:=l) (b:=false) hlt hkt;have hn1:=mU hlt;have hn2:=iC (l:=p.kids) (k:=k+1);obtain⟨r1,r2⟩:=xI (A:=dX s n) (ps:=p.kids.take k) (ts:=t.kids.take k) (b:=false) (fun q _=>mQ n q) (fun x h=>ht.kid (dS h)) hu hl;have r3:=uH (A:=dX s n) (zW n) (ps:=p.kids.take k) (ts:=t.kids.take k) (b:=false) ha;have c:=hA _ hpk (t.kids.getD k default) _ (m+nodesL (p.kids.take k)) (ht.kid htk) (hpl _ htk) (hnk _ htk) r1 r3 r2 (by omega);have hp1:=hpan (k+1);have hs1:=hstop (k+1);rw[hb]at er;rw[er]at hp1 hs1;generalize hR:dX s n (p.kids.getD k default) (t.kids.getD k default) (jH (dX s n) (p.kids.take k) (t.kids.take k) l false).1 false=R at *
      refine zh hki ?_;repeat refine aU (by omega) ?_
      refine vY c ?_ (fun hb'=>⟨hp1 hb',rfl⟩) (fun hb'=>?_)
      ·exact zv (zA2 @avw.eq_1 (zA2 @elT.eq_1 (zA2 @aI @cD.eq_1)))
      by_cases hR0:R.1=[]
      ·have hz:decide (((R.1.length:Nat):Int)=0)=true:=zt (by rw[hR0];rfl);refine zh (zA2 @avw.eq_1 hz) ?_;rw[hs1 hR0];exact⟨hb',oV⟩
      ·have hz:decide (((R.1.length:Nat):Int)=0)=false:=zf (fun h=>hR0 (List.eq_nil_of_length_eq_zero (by omega)));refine zh (zA2 @avw.eq_1 hz) ?_;refine⟨(k+1,_),⟨by dsimp only;omega,by dsimp only;rw[er];exact hb'⟩,by dsimp only;omega,rfl,?_⟩;dsimp only;rw[er];exact⟨rfl,rfl⟩
     ·have hki:decide ((k:Int)<((p.kids.length:Nat):Int))=false:=zf (by omega);obtain rfl:k=p.kids.length:=by omega
      rw[hfin]at hb ⊢;refine zh hki ?_;have hr1:decide ((0:Int)<((p.rest.length:Nat):Int))=false:=zf (by omega);refine cO (fun(q:Unit)=>(.k::.v (.sl ((jH (dX s n) p.kids t.kids l false).1.map avu) (jH (dX s n) p.kids t.kids l false).1.length)::(rp 11 .k (.j::(rp 67 .k (.v (.i .i64 0)::(rp 13 .j [.k]))))))) (fun q=>(.box false [cD s]::.box false [.i .i64 5,.i .i64 p.n,.s p.text,.s p.sort,.sl (p.kids.flatMap aM) p.kids.length,.sl (p.rest.flatMap aM) p.rest.length]::.box false [.i .i64 5,.i .i64 t.n,.s p.text,.s t.sort,.sl (t.kids.flatMap aM) t.kids.length,.sl (t.rest.flatMap aM) t.rest.length]::g)) (fun q=>True) (fun q=>0) (()) trivial rfl (by simp[fO]) ?_;rintro⟨⟩ j7 -
      refine zh hr1 ?_;exact⟨hb,.inl ⟨rfl,gS _⟩⟩
    ·have e:dX s (n+1) p t l false=([],false):=by rw[dX,if_pos hp5,if_neg (fun h=>hlen h.2.2)]
     rw[e];by_cases hgt:t.kids.length<p.kids.length
     ·have hi1:decide (((t.kids.length:Nat):Int)<((p.kids.length:Nat):Int))=true:=zt (by omega);refine zh (zA2 hp5 (zA2 hk (zA2 hx (zA2 (zf h58) (zA2 hi1 hr0))))) ?_;exact oV
     ·have hi1:decide (((t.kids.length:Nat):Int)<((p.kids.length:Nat):Int))=false:=zf (by omega);have hi2:decide (((p.kids.length:Nat):Int)<((t.kids.length:Nat):Int))=true:=zt (by omega);refine zh (zA2 hp5 (zA2 hk (zA2 hx (zA2 (zf h58) (zA2 hi1 (zA2 hi2 hr0)))))) ?_;exact oV
   ·have hx':¬p.text=t.text:=fun h=>hx h.symm;have e:dX s (n+1) p t l false=([],false):=by rw[dX,if_pos hp5,if_neg (fun h=>hx h.2.1)]
    rw[e];refine zh (zA2 hp5 (zA2 hk (zf hx'))) ?_;exact oV
  ·have hk':¬(5:Int)=t.kind:=fun h=>hk h.symm;have e:dX s (n+1) p t l false=([],false):=by rw[dX,if_pos hp5,if_neg (fun h=>hk h.1)]
   rw[e];refine zh (zA2 hp5 (zf hk')) ?_;exact oV
theorem bPf(s : dF)(n:Nat)(p t:LTerm)(l:List LSub)(m:Nat)(hm:Small s)(hA:∀q∈p.kids,bNd s n q)(hp:OkN p)(hp7:p.kind=7)(hpl1:p.kids.length≤1000000)(ht:OkN t)(hpl:∀x∈t.kids,fN s x=true)(hnk:∀x∈t.kids,nodesT x≤1000000)(htl:t.kids.length≤1000000)(hu:tD m l)(ha:nP l)(hl:l.length≤1000)(hmm:m+nodesT p≤1000000): aFs Tryz.prog G0 167 [.agg [cD s],avw l,elT p,elT t] (avw (dX s (n+1) p t l false).1) (dX s (n+1) p t l false).2 wK:=by
 refine kY (rx:=true) (th:=fun i=>if i=11 then some ⟨none,[],false,false,true,[],[],8⟩else if i=18 then some ⟨none,[],false,false,true,[],[],8⟩else none) cI Tryz.func167 rfl (by kernel_rfl) (by kernel_rfl) (ac:=?_) ?_ g0 ?_;rotate_left
 ·simp only[strip,lA,eH,kZ,RX.off,ckF,ckX,zOf,exd,vOf,aD,aC,aY,aX,aF,Bool.and_true,Bool.and_false,aF,bP,bR,dI,fD,aW,bE,aJ,aH,dO,anyPre,Region.binds,Bool.not_true,Bool.not_false,aE,if_true,if_false,aP,aO,Bool.true_and,Bool.false_and,aT,aK,aD,aC,List.append_nil,aLl,wG,sS,rZ,cN,bY,bU,aF,aY,aX,cV,beq_self_eq_true,fI,Nat.reduceBEq,rA,pV,qW,jY,aHl,fC,gR,bP,dW,X9,X8,↓reduceIte,Nat.reduceEqDiff,Nat.reduceBEq,mR,nW,oP,splitK,wM,E0,aC,fC,gR,Bool.not_true,Bool.not_false,Bool.and_true,Bool.true_and,Bool.and_false,aY,aX];rfl
 ·simp -implicitDefEqProofs (disch:=omega) only[Tryz.f167,go_sem,List.replicate,simprocAttr,avw,elT,aI];have h75:¬p.kind=5:=by omega
  have h78:¬(7:Int)=8:=by decide
  have hpx:=aXv hp (.inl hp7);by_cases hk:t.kind=7
  ·have htx := aXv ht (.inl hk)
   by_cases hle:p.kids.length≤t.kids.length
   ·by_cases hex:p.rest.length=0→t.kids.length≤p.kids.length
    ·have e:dX s (n+1) p t l false=if 0<p.rest.length then D6 s (p.rest.getD 0 default) (.mk 7 0 [] [] (t.kids.drop p.kids.length) []) (jH (dX s n) p.kids t.kids l false).1 (jH (dX s n) p.kids t.kids l false).2 else jH (dX s n) p.kids t.kids l false:=by
      rw[dX,if_neg h75,if_pos hp7,if_pos ⟨hk,hle,hex⟩,W4]
     have hpanE:(jH (dX s n) p.kids t.kids l false).2=true→(dX s (n+1) p t l false).2=true:=fun h=>by
      rw[e];split
      ·rw[h];exact aBt
      ·exact h
     have hst0:∀{b:Bool},jH (dX s n) p.kids t.kids l false=([],b)→b=false→dX s (n+1) p t l false=([],false):=fun h hb=>by
      subst hb;rw[e,h];split<;>rfl
     have hno:=gA p;have hi1:decide (((t.kids.length:Nat):Int)<((p.kids.length:Nat):Int))=false:=zf (by omega);have hpan:=fun k=>aJb (A:=dX s n) (aPb n) (ps:=p.kids) (ts:=t.kids) (l:=l) (b:=false) k;have hstop:=fun k=>aJa (A:=dX s n) (aMj n) (ps:=p.kids) (ts:=t.kids) (l:=l) (b:=false) k;have hfin:jH (dX s n) (p.kids.take p.kids.length) (t.kids.take p.kids.length) l false=jH (dX s n) p.kids t.kids l false:=by rw[fR,W4]
     have hcond:(decide (((p.kids.length:Nat):Int)<((t.kids.length:Nat):Int))=false)∨(decide (((p.rest.length:Nat):Int)=0)=false):=by
      by_cases h0:p.rest.length=0
      ·exact .inl (zf (by have:=hex h0;omega))
      ·exact .inr (zf (by omega))
     obtain⟨ok1,ok2⟩:=xI (A:=dX s n) (ps:=p.kids) (ts:=t.kids) (b:=false) (fun q _=>mQ n q) (fun x h=>ht.kid h) hu hl;have ok3:=uH (A:=dX s n) (zW n) (ps:=p.kids) (ts:=t.kids) (b:=false) ha;generalize hTb:dX s (n+1) p t l false=TB at *
     by_cases hi2:((p.kids.length:Nat):Int)<((t.kids.length:Nat):Int)
     ·have hr0:decide (((p.rest.length:Nat):Int)=0)=false:=zf (fun h=>by have:=hex (by omega);omega);simp -implicitDefEqProofs (disch:=omega) only[hp7,hk,hpx,htx,zf h78,hi1,zt hi2,hr0,go_sem,simprocAttr];refine cO (fun(q:Nat×List AObj)=>[.k,.v (.sl ((jH (dX s n) (p.kids.take q.1) (t.kids.take q.1) l false).1.map avu) (jH (dX s n) (p.kids.take q.1) (t.kids.take q.1) l false).1.length),.k,.k,.k,.k,.k,.k,.j,.k,.j,.j,.k,.k,.k,.k,.k,.k,.k,.k,.k,.k,.k,.k,.k,.k,.k,.k,.k,.k,.k,.k,.k,.k,.k,.k,.k,.k,.k,.k,.k,.k,.k,.k,.k,.k,.k,.k,.k,.k,.k,.k,.k,.k,.k,.k,.k,.k,.k,.k,.v (.i .i64 (q.1:Nat)),.j,.j,.j,.j,.j,.j,.j,.j,.j,.j,.j,.j,.j,.j,.j,.j,.j,.k,.k,.k,.k,.k,.k,.k,.k,.k,.k,.k,.k,.k,.k,.k,.k,.k,.k]) (fun q=>(.box false [cD s]::.box false [.i .i64 7,.i .i64 p.n,.s [],.s p.sort,.sl (p.kids.flatMap aM) p.kids.length,.sl (p.rest.flatMap aM) p.rest.length]::.box false [.i .i64 7,.i .i64 t.n,.s [],.s t.sort,.sl (t.kids.flatMap aM) t.kids.length,.sl (t.rest.flatMap aM) t.rest.length]::q.2)) (fun q=>q.1≤p.kids.length∧(jH (dX s n) (p.kids.take q.1) (t.kids.take q.1) l false).2=false) (fun q=>p.kids.length-q.1) ((0,[])) ⟨aR _,by simp[jH]⟩ rfl (by simp[fO]) ?_;rintro⟨k,g⟩ j ⟨hkl,hb⟩;dsimp only at hkl hb;by_cases hlt:k<p.kids.length
      ·have hki:decide ((k:Int)<((p.kids.length:Nat):Int))=true:=zt (by omega);have hkt:k<t.kids.length:=by omega
       have hpk:=cC (d:=default) hlt;have htk:=cC (d:=default) hkt;have er:=xH (A:=dX s n) (l:=l) (b:=false) hlt hkt;have hn1:=mU hlt;have hn2:=iC (l:=p.kids) (k:=k+1);obtain⟨r1,r2⟩:=xI (A:=dX s n) (ps:=p.kids.take k) (ts:=t.kids.take k) (b:=false) (fun q _=>mQ n q) (fun x h=>ht.kid (dS h)) hu hl;have r3:=uH (A:=dX s n) (zW n) (ps:=p.kids.take k) (ts:=t.kids.take k) (b:=false) ha;have c:=hA _ hpk (t.kids.getD k default) _ (m+nodesL (p.kids.take k)) (ht.kid htk) (hpl _ htk) (hnk _ htk) r1 r3 r2 (by omega);have hp1:=hpan (k+1);have hs1:=hstop (k+1);rw[hb]at er;rw[er]at hp1 hs1;generalize hR:dX s n (p.kids.getD k default) (t.kids.getD k default) (jH (dX s n) (p.kids.take k) (t.kids.take k) l false).1 false=R at *
       simp -implicitDefEqProofs (disch:=omega) only[hki,go_sem,simprocAttr];repeat refine aU (by omega) ?_
       refine vY c ?_ (fun hb'=>⟨hpanE (hp1 hb'),rfl⟩) (fun hb'=>?_)
       ·simp -implicitDefEqProofs (disch:=omega) only[avw,elT,aI,cD,go_sem,simprocAttr]
       by_cases hR0:R.1=[]
       ·have hz:decide (((R.1.length:Nat):Int)=0)=true:=zt (by rw[hR0];rfl);simp -implicitDefEqProofs (disch:=omega) only[avw,hz,go_sem,simprocAttr];have hz0:=hs1 hR0;rw[hst0 hz0 hb'];exact⟨rfl,oV⟩
       ·have hz:decide (((R.1.length:Nat):Int)=0)=false:=zf (fun h=>hR0 (List.eq_nil_of_length_eq_zero (by omega)));simp -implicitDefEqProofs (disch:=omega) only[avw,hz,go_sem,simprocAttr];refine⟨(k+1,_),⟨by dsimp only;omega,by dsimp only;rw[er];exact hb'⟩,by dsimp only;omega,rfl,?_⟩;dsimp only;rw[er];exact⟨rfl,rfl⟩
      ·have hki:decide ((k:Int)<((p.kids.length:Nat):Int))=false:=zf (by omega);obtain rfl:k=p.kids.length:=by omega
       rw[hfin]at hb ⊢;simp -implicitDefEqProofs (disch:=omega) only[hki,go_sem,simprocAttr];by_cases h0:p.rest.length=0
       ·have hr1:decide ((0:Int)<((p.rest.length:Nat):Int))=false:=zf (by omega);refine cO (fun(q:Unit)=>[.k,.v (.sl ((jH (dX s n) p.kids t.kids l false).1.map avu) (jH (dX s n) p.kids t.kids l false).1.length),.k,.k,.k,.k,.k,.k,.k,.k,.k,.k,.k,.j,.k,.k,.k,.k,.k,.k,.k,.k,.k,.k,.k,.k,.k,.k,.k,.k,.k,.k,.k,.k,.k,.k,.k,.k,.k,.k,.k,.k,.k,.k,.k,.k,.k,.k,.k,.k,.k,.k,.k,.k,.k,.k,.k,.k,.k,.k,.k,.k,.k,.k,.k,.k,.k,.k,.k,.k,.k,.k,.k,.k,.k,.k,.k,.k,.k,.k,.k,.v (.i .i64 0),.j,.j,.j,.j,.j,.j,.j,.j,.j,.j,.j,.j,.j,.k]) (fun q=>(.box false [cD s]::.box false [.i .i64 7,.i .i64 p.n,.s [],.s p.sort,.sl (p.kids.flatMap aM) p.kids.length,.sl (p.rest.flatMap aM) p.rest.length]::.box false [.i .i64 7,.i .i64 t.n,.s [],.s t.sort,.sl (t.kids.flatMap aM) t.kids.length,.sl (t.rest.flatMap aM) t.rest.length]::g)) (fun q=>True) (fun q=>0) (()) trivial rfl (by simp[fO]) ?_;rintro⟨⟩ j7 -
        simp -implicitDefEqProofs (disch:=omega) only[hr1,go_sem,simprocAttr];rw[e,if_neg (by omega)];exact⟨hb,.inl ⟨rfl,gS _⟩⟩
       ·obtain⟨r,hr,hr6⟩:=(bIh hp (.inl hp7)).resolve_left (fun h=>h0 (by rw[h];rfl));have hrl:p.rest.length=1:=by rw[hr];rfl
        have hrk:(p.rest.getD 0 default).kind=6:=by rw[hr];exact hr6
        have hro:OkT (p.rest.getD 0 default):=hp.1.rst _ (cC (by omega));have hn9:=iC (l:=p.kids) (k:=p.kids.length);have c:=aAb s (jH (dX s n) p.kids t.kids l false).1 (p.rest.getD 0 default) (.mk 7 0 [] [] (t.kids.drop p.kids.length) []) (m+nodesL p.kids) hm ok2 ok1 ok3 (by omega) hro (J5 (fun x hx=>(ht.kid (iM hx)).1) (by rw[eJ];omega)) (by omega) (by omega) (by omega);have hf1:=nM (s:=s) (p:=p.rest.getD 0 default) (t:=.mk 7 0 [] [] (t.kids.drop p.kids.length) []) (l:=(jH (dX s n) p.kids t.kids l false).1);rw[if_pos (by omega),hb,D6,pH,if_neg (by omega)]at e;have q1:List.drop (p.kids.length*6) (t.kids.flatMap aM)=(t.kids.drop p.kids.length).flatMap aM:=xC;generalize jH (dX s n) p.kids t.kids l false=RW at *
        rw[e];refine cO (fun(q:Nat×List LSub×List AObj)=>[.k,.v (.sl (q.2.1.map avu) q.2.1.length),.k,.k,.k,.k,.k,.k,.k,.k,.k,.k,.k,.j,.k,.k,.k,.k,.k,.k,.k,.k,.k,.k,.k,.k,.k,.k,.k,.k,.k,.k,.k,.k,.k,.k,.k,.k,.k,.k,.k,.k,.k,.k,.k,.k,.k,.k,.k,.k,.k,.k,.k,.k,.k,.k,.k,.k,.k,.k,.k,.k,.k,.k,.k,.k,.k,.k,.k,.k,.k,.k,.k,.k,.k,.k,.k,.k,.k,.k,.k,.v (.i .i64 (q.1:Nat)),.j,.j,.j,.j,.j,.j,.j,.j,.j,.j,.j,.j,.j,.k]) (fun q=>(.box false [cD s]::.box false [.i .i64 7,.i .i64 p.n,.s [],.s p.sort,.sl (p.kids.flatMap aM) p.kids.length,.sl (p.rest.flatMap aM) p.rest.length]::.box false [.i .i64 7,.i .i64 t.n,.s [],.s t.sort,.sl (t.kids.flatMap aM) t.kids.length,.sl (t.rest.flatMap aM) t.rest.length]::q.2.2)) (fun q=>(q.1=0∧q.2.1=RW.1)∨(q.1=1∧q.2.1=RW.1.flatMap (gZ s (p.rest.getD 0 default) (.mk 7 0 [] [] (t.kids.drop p.kids.length) [])))) (fun q=>1-q.1) ((0,RW.1,g)) (.inl ⟨rfl,rfl⟩) rfl (by simp[fO]) ?_;rintro⟨x,v,g6⟩ j7 hq;dsimp only at hq;rcases hq with⟨rfl,rfl⟩|⟨rfl,rfl⟩
        ·have hr1:decide ((0:Int)<((p.rest.length:Nat):Int))=true:=zt (by omega);simp -implicitDefEqProofs (disch:=omega) only[hr1,q1,go_sem,simprocAttr];repeat refine aU (by omega) ?_
         refine bM c ?_ ?_
         ·simp -implicitDefEqProofs (disch:=omega) only[avw,elT,aI,cD,avt,List.flatMap_nil,cH,go_sem,simprocAttr]
         simp -implicitDefEqProofs (disch:=omega) only[avw,go_sem,simprocAttr];exact⟨(1,RW.1.flatMap (gZ s (p.rest.getD 0 default) (.mk 7 0 [] [] (t.kids.drop p.kids.length) [])),_),.inr ⟨rfl,rfl⟩,by dsimp only;omega,rfl,rfl,rfl⟩
        ·have hr1:decide (((1:Nat):Int)<((p.rest.length:Nat):Int))=false:=zf (by omega);have hr2:decide ((1:Int)<((p.rest.length:Nat):Int))=false:=hr1;simp -implicitDefEqProofs (disch:=omega) only[hr1,hr2,go_sem,simprocAttr];exact .inl ⟨rfl,gS _⟩
     ·skip;simp -implicitDefEqProofs (disch:=omega) only[hp7,hk,hpx,htx,zf h78,hi1,zf hi2,go_sem,simprocAttr];refine cO (fun(q:Nat×List AObj)=>[.k,.v (.sl ((jH (dX s n) (p.kids.take q.1) (t.kids.take q.1) l false).1.map avu) (jH (dX s n) (p.kids.take q.1) (t.kids.take q.1) l false).1.length),.k,.k,.k,.k,.k,.k,.j,.k,.j,.j,.k,.k,.k,.k,.k,.k,.k,.k,.k,.k,.k,.k,.k,.k,.k,.k,.k,.k,.k,.k,.k,.k,.k,.k,.k,.k,.k,.k,.k,.k,.k,.k,.k,.k,.k,.k,.k,.k,.k,.k,.k,.k,.k,.k,.k,.k,.k,.k,.v (.i .i64 (q.1:Nat)),.j,.j,.j,.j,.j,.j,.j,.j,.j,.j,.j,.j,.j,.j,.j,.j,.j,.k,.k,.k,.k,.k,.k,.k,.k,.k,.k,.k,.k,.k,.k,.k,.k,.k,.k]) (fun q=>(.box false [cD s]::.box false [.i .i64 7,.i .i64 p.n,.s [],.s p.sort,.sl (p.kids.flatMap aM) p.kids.length,.sl (p.rest.flatMap aM) p.rest.length]::.box false [.i .i64 7,.i .i64 t.n,.s [],.s t.sort,.sl (t.kids.flatMap aM) t.kids.length,.sl (t.rest.flatMap aM) t.rest.length]::q.2)) (fun q=>q.1≤p.kids.length∧(jH (dX s n) (p.kids.take q.1) (t.kids.take q.1) l false).2=false) (fun q=>p.kids.length-q.1) ((0,[])) ⟨aR _,by simp[jH]⟩ rfl (by simp[fO]) ?_;rintro⟨k,g⟩ j ⟨hkl,hb⟩;dsimp only at hkl hb;by_cases hlt:k<p.kids.length
      ·have hki:decide ((k:Int)<((p.kids.length:Nat):Int))=true:=zt (by omega);have hkt:k<t.kids.length:=by omega
       have hpk:=cC (d:=default) hlt;have htk:=cC (d:=default) hkt;have er:=xH (A:=dX s n) (l:=l) (b:=false) hlt hkt;have hn1:=mU hlt;have hn2:=iC (l:=p.kids) (k:=k+1);obtain⟨r1,r2⟩:=xI (A:=dX s n) (ps:=p.kids.take k) (ts:=t.kids.take k) (b:=false) (fun q _=>mQ n q) (fun x h=>ht.kid (dS h)) hu hl;have r3:=uH (A:=dX s n) (zW n) (ps:=p.kids.take k) (ts:=t.kids.take k) (b:=false) ha;have c:=hA _ hpk (t.kids.getD k default) _ (m+nodesL (p.kids.take k)) (ht.kid htk) (hpl _ htk) (hnk _ htk) r1 r3 r2 (by omega);have hp1:=hpan (k+1);have hs1:=hstop (k+1);rw[hb]at er;rw[er]at hp1 hs1;generalize hR:dX s n (p.kids.getD k default) (t.kids.getD k default) (jH (dX s n) (p.kids.take k) (t.kids.take k) l false).1 false=R at *
       simp -implicitDefEqProofs (disch:=omega) only[hki,go_sem,simprocAttr];repeat refine aU (by omega) ?_
       refine vY c ?_ (fun hb'=>⟨hpanE (hp1 hb'),rfl⟩) (fun hb'=>?_)
       ·simp -implicitDefEqProofs (disch:=omega) only[avw,elT,aI,cD,go_sem,simprocAttr]
       by_cases hR0:R.1=[]
       ·have hz:decide (((R.1.length:Nat):Int)=0)=true:=zt (by rw[hR0];rfl);simp -implicitDefEqProofs (disch:=omega) only[avw,hz,go_sem,simprocAttr];have hz0:=hs1 hR0;rw[hst0 hz0 hb'];exact⟨rfl,oV⟩
       ·have hz:decide (((R.1.length:Nat):Int)=0)=false:=zf (fun h=>hR0 (List.eq_nil_of_length_eq_zero (by omega)));simp -implicitDefEqProofs (disch:=omega) only[avw,hz,go_sem,simprocAttr];refine⟨(k+1,_),⟨by dsimp only;omega,by dsimp only;rw[er];exact hb'⟩,by dsimp only;omega,rfl,?_⟩;dsimp only;rw[er];exact⟨rfl,rfl⟩
      ·have hki:decide ((k:Int)<((p.kids.length:Nat):Int))=false:=zf (by omega);obtain rfl:k=p.kids.length:=by omega
       rw[hfin]at hb ⊢;simp -implicitDefEqProofs (disch:=omega) only[hki,go_sem,simprocAttr];by_cases h0:p.rest.length=0
       ·have hr1:decide ((0:Int)<((p.rest.length:Nat):Int))=false:=zf (by omega);refine cO (fun(q:Unit)=>[.k,.v (.sl ((jH (dX s n) p.kids t.kids l false).1.map avu) (jH (dX s n) p.kids t.kids l false).1.length),.k,.k,.k,.k,.k,.k,.k,.k,.k,.k,.k,.j,.k,.k,.k,.k,.k,.k,.k,.k,.k,.k,.k,.k,.k,.k,.k,.k,.k,.k,.k,.k,.k,.k,.k,.k,.k,.k,.k,.k,.k,.k,.k,.k,.k,.k,.k,.k,.k,.k,.k,.k,.k,.k,.k,.k,.k,.k,.k,.k,.k,.k,.k,.k,.k,.k,.k,.k,.k,.k,.k,.k,.k,.k,.k,.k,.k,.k,.k,.v (.i .i64 0),.j,.j,.j,.j,.j,.j,.j,.j,.j,.j,.j,.j,.j,.k]) (fun q=>(.box false [cD s]::.box false [.i .i64 7,.i .i64 p.n,.s [],.s p.sort,.sl (p.kids.flatMap aM) p.kids.length,.sl (p.rest.flatMap aM) p.rest.length]::.box false [.i .i64 7,.i .i64 t.n,.s [],.s t.sort,.sl (t.kids.flatMap aM) t.kids.length,.sl (t.rest.flatMap aM) t.rest.length]::g)) (fun q=>True) (fun q=>0) (()) trivial rfl (by simp[fO]) ?_;rintro⟨⟩ j7 -
        simp -implicitDefEqProofs (disch:=omega) only[hr1,go_sem,simprocAttr];rw[e,if_neg (by omega)];exact⟨hb,.inl ⟨rfl,gS _⟩⟩
       ·obtain⟨r,hr,hr6⟩:=(bIh hp (.inl hp7)).resolve_left (fun h=>h0 (by rw[h];rfl));have hrl:p.rest.length=1:=by rw[hr];rfl
        have hrk:(p.rest.getD 0 default).kind=6:=by rw[hr];exact hr6
        have hro:OkT (p.rest.getD 0 default):=hp.1.rst _ (cC (by omega));have hn9:=iC (l:=p.kids) (k:=p.kids.length);have c:=aAb s (jH (dX s n) p.kids t.kids l false).1 (p.rest.getD 0 default) (.mk 7 0 [] [] (t.kids.drop p.kids.length) []) (m+nodesL p.kids) hm ok2 ok1 ok3 (by omega) hro (J5 (fun x hx=>(ht.kid (iM hx)).1) (by rw[eJ];omega)) (by omega) (by omega) (by omega);have hf1:=nM (s:=s) (p:=p.rest.getD 0 default) (t:=.mk 7 0 [] [] (t.kids.drop p.kids.length) []) (l:=(jH (dX s n) p.kids t.kids l false).1);rw[if_pos (by omega),hb,D6,pH,if_neg (by omega)]at e;have q1:List.drop (p.kids.length*6) (t.kids.flatMap aM)=(t.kids.drop p.kids.length).flatMap aM:=xC;generalize jH (dX s n) p.kids t.kids l false=RW at *
        rw[e];refine cO (fun(q:Nat×List LSub×List AObj)=>[.k,.v (.sl (q.2.1.map avu) q.2.1.length),.k,.k,.k,.k,.k,.k,.k,.k,.k,.k,.k,.j,.k,.k,.k,.k,.k,.k,.k,.k,.k,.k,.k,.k,.k,.k,.k,.k,.k,.k,.k,.k,.k,.k,.k,.k,.k,.k,.k,.k,.k,.k,.k,.k,.k,.k,.k,.k,.k,.k,.k,.k,.k,.k,.k,.k,.k,.k,.k,.k,.k,.k,.k,.k,.k,.k,.k,.k,.k,.k,.k,.k,.k,.k,.k,.k,.k,.k,.k,.v (.i .i64 (q.1:Nat)),.j,.j,.j,.j,.j,.j,.j,.j,.j,.j,.j,.j,.j,.k]) (fun q=>(.box false [cD s]::.box false [.i .i64 7,.i .i64 p.n,.s [],.s p.sort,.sl (p.kids.flatMap aM) p.kids.length,.sl (p.rest.flatMap aM) p.rest.length]::.box false [.i .i64 7,.i .i64 t.n,.s [],.s t.sort,.sl (t.kids.flatMap aM) t.kids.length,.sl (t.rest.flatMap aM) t.rest.length]::q.2.2)) (fun q=>(q.1=0∧q.2.1=RW.1)∨(q.1=1∧q.2.1=RW.1.flatMap (gZ s (p.rest.getD 0 default) (.mk 7 0 [] [] (t.kids.drop p.kids.length) [])))) (fun q=>1-q.1) ((0,RW.1,g)) (.inl ⟨rfl,rfl⟩) rfl (by simp[fO]) ?_;rintro⟨x,v,g6⟩ j7 hq;dsimp only at hq;rcases hq with⟨rfl,rfl⟩|⟨rfl,rfl⟩
        ·have hr1:decide ((0:Int)<((p.rest.length:Nat):Int))=true:=zt (by omega);simp -implicitDefEqProofs (disch:=omega) only[hr1,q1,go_sem,simprocAttr];repeat refine aU (by omega) ?_
         refine bM c ?_ ?_
         ·simp -implicitDefEqProofs (disch:=omega) only[avw,elT,aI,cD,avt,List.flatMap_nil,cH,go_sem,simprocAttr]
         simp -implicitDefEqProofs (disch:=omega) only[avw,go_sem,simprocAttr];exact⟨(1,RW.1.flatMap (gZ s (p.rest.getD 0 default) (.mk 7 0 [] [] (t.kids.drop p.kids.length) [])),_),.inr ⟨rfl,rfl⟩,by dsimp only;omega,rfl,rfl,rfl⟩
        ·have hr1:decide (((1:Nat):Int)<((p.rest.length:Nat):Int))=false:=zf (by omega);have hr2:decide ((1:Int)<((p.rest.length:Nat):Int))=false:=hr1;simp -implicitDefEqProofs (disch:=omega) only[hr1,hr2,go_sem,simprocAttr];exact .inl ⟨rfl,gS _⟩
    ·have h0:p.rest.length=0:=Classical.byContradiction fun h=>hex fun h'=>absurd h' h;have hgt:p.kids.length<t.kids.length:=by
      rcases kE p.kids.length t.kids.length with h|h
      ·exact h
      ·exact absurd (fun _=>h) hex
     have e:dX s (n+1) p t l false=([],false):=by rw[dX,if_neg h75,if_pos hp7,if_neg (fun h=>hex h.2.2)]
     have hi1:decide (((t.kids.length:Nat):Int)<((p.kids.length:Nat):Int))=false:=zf (by omega);have hi2:decide (((p.kids.length:Nat):Int)<((t.kids.length:Nat):Int))=true:=zt (by omega);have hr0:decide (((p.rest.length:Nat):Int)=0)=true:=zt (by omega);rw[e];simp -implicitDefEqProofs (disch:=omega) only[hp7,hk,hpx,htx,zf h78,hi1,hi2,hr0,go_sem,simprocAttr];exact oV
   ·have e:dX s (n+1) p t l false=([],false):=by rw[dX,if_neg h75,if_pos hp7,if_neg (fun h=>hle h.2.1)]
    have hi1:decide (((t.kids.length:Nat):Int)<((p.kids.length:Nat):Int))=true:=zt (by omega);rw[e];simp -implicitDefEqProofs (disch:=omega) only[hp7,hk,hpx,htx,zf h78,hi1,go_sem,simprocAttr];exact oV
  ·have hk':¬(7:Int)=t.kind:=fun h=>hk h.symm;have e:dX s (n+1) p t l false=([],false):=by rw[dX,if_neg h75,if_pos hp7,if_neg (fun h=>hk h.1)]
   rw[e];simp -implicitDefEqProofs (disch:=omega) only[hp7,zf hk',go_sem,simprocAttr];exact oV
theorem bPe(s:dF)(n:Nat)(p t:LTerm)(l:List LSub)(m:Nat)(hm:Small s)(hA:∀q∈p.kids,bNd s n q)(hp:OkN p)(hp8:p.kind=8)(hpl1:p.kids.length≤1000000)(ht:OkN t)(hpl:∀x∈t.kids,fN s x=true)(hnk:∀x∈t.kids,nodesT x≤1000000)(htl:t.kids.length≤1000000)(hu:tD m l)(ha:nP l)(hl:l.length≤1000)(hmm:m+nodesT p≤1000000): aFs Tryz.prog G0 167 [.agg [cD s],avw l,elT p,elT t] (avw (dX s (n+1) p t l false).1) (dX s (n+1) p t l false).2 wK:=by
 refine kY (rx:=true) (th:=fun i=>if i=11 then some ⟨none,[],false,false,true,[],[],8⟩else if i=18 then some ⟨none,[],false,false,true,[],[],8⟩else none) cI Tryz.func167 rfl (by kernel_rfl) (by kernel_rfl) (ac:=?_) ?_ g0 ?_;rotate_left
 ·simp only[strip,lA,eH,kZ,RX.off,ckF,ckX,zOf,exd,vOf,aD,aC,aY,aX,aF,Bool.and_true,Bool.and_false,aF,bP,bR,dI,fD,aW,bE,aJ,aH,dO,anyPre,Region.binds,Bool.not_true,Bool.not_false,aE,if_true,if_false,aP,aO,Bool.true_and,Bool.false_and,aT,aK,aD,aC,List.append_nil,aLl,wG,sS,rZ,cN,bY,bU,aF,aY,aX,cV,beq_self_eq_true,fI,Nat.reduceBEq,rA,pV,qW,jY,aHl,fC,gR,bP,dW,X9,X8,↓reduceIte,Nat.reduceEqDiff,Nat.reduceBEq,mR,nW,oP,splitK,wM,E0,aC,fC,gR,Bool.not_true,Bool.not_false,Bool.and_true,Bool.true_and,Bool.and_false,aY,aX];rfl
 ·simp -implicitDefEqProofs (disch:=omega) only[Tryz.f167,go_sem,List.replicate,simprocAttr,avw,elT,aI];have h85:¬p.kind=5:=by omega
  have h87:¬p.kind=7:=by omega
  have hpx:=aXv hp (.inr hp8);by_cases hk:t.kind=8
  ·have htx:=aXv ht (.inr hk);have e:dX s (n+1) p t l false=lK (dX s n) s p t l false:=by rw[dX,if_neg h85,if_neg h87,if_pos hp8,if_pos hk]
   rw[e];have c:=bOg s n p t l m hm hA hp hp8 hpl1 ht hk hpl hnk htl hu ha hl hmm;simp only[elT,aI,hp8,hk,hpx,htx]at c;refine zh (zA2 hp8 (zA2 hk (zA2 hpx htx))) ?_;refine vY c ?_ (fun hb'=>⟨hb',rfl⟩) (fun hb'=>?_)
   ·exact zv (zA2 @avw.eq_1 @cD.eq_1)
   refine zh @avw.eq_1 ?_;exact⟨hb',.inl ⟨rfl,gS _⟩⟩
  ·have hk':¬(8:Int)=t.kind:=fun h=>hk h.symm;have e:dX s (n+1) p t l false=([],false):=by rw[dX,if_neg h85,if_neg h87,if_pos hp8,if_neg hk]
   rw[e];refine zh (zA2 hp8 (zf hk')) ?_;exact oV
theorem bLo(s:dF)(n:Nat)(p t:LTerm)(l:List LSub)(hk:p.kind=5∨p.kind=7∨p.kind=8)(c:aFs Tryz.prog G0 167 [.agg [cD s],avw l,elT p,elT t] (avw (dX s (n+1) p t l false).1) (dX s (n+1) p t l false).2 wK): aFs Tryz.prog G0 103 [.agg [cD s],avw l,elT p,elT t] (avw (dX s (n+1) p t l false).1) (dX s (n+1) p t l false).2 wK:=by
 refine kY (rx:=false) (th:=fun _=>none) cI Tryz.func103 rfl (by kernel_rfl) (by kernel_rfl) (ac:=?_) ?_ g0 ?_;rotate_left
 ·simp only[strip,lA,eH,kZ,RX.off,ckF,ckX,zOf,exd,vOf,aD,aC,aY,aX,aF,Bool.and_true,Bool.and_false,aF,bP,bR,dI,fD,aW,bE,aJ,aH,dO,anyPre,Region.binds,Bool.not_true,Bool.not_false,aE,if_true,if_false,aP,aO,Bool.true_and,Bool.false_and,aT,aK,aD,aC,List.append_nil];rfl
 ·simp -implicitDefEqProofs (disch:=omega) only[Tryz.f103,go_sem,List.replicate,simprocAttr,avw,elT,aI];generalize dX s (n+1) p t l false=R at *
  have h57:¬(7:Int)=5:=by decide
  have h58:¬(8:Int)=5:=by decide
  have h78:¬(8:Int)=7:=by decide
  rcases hk with hk|hk|hk;all_goals
   simp only[elT,aI,hk]at c
   refine zh (zA2 hk (zA2 (zf h57) (zA2 (zf h58) (zf h78)))) ?_
   refine vY c ?_ (fun hb'=>⟨hb',rfl⟩) (fun hb'=>?_)
   ·exact zv (zA2 @avw.eq_1 @cD.eq_1)
   refine zh @avw.eq_1 ?_
   exact⟨hb',.inl ⟨rfl,gS _⟩⟩
theorem cCh{s:dF}(hm:Small s):∀(n:Nat) (p:LTerm),OkN p→nodesT p≤n→bNd s n p
 |0,p,hp,h=>by rw[gA]at h;omega
 |n + 1,p,hp,h=>fun t l m ht hpt hnt hu ha hl hmm=>by
  have hno:=gA p;have hnt2:=gA t;have hk1:=mV p.kids;have hk2:=mV t.kids;have hA:∀q∈p.kids,bNd s n q:=fun q hq=>cCh hm n q (hp.kid hq) (by have:=(lU hq).1;omega);have hnk:∀x∈t.kids,nodesT x≤1000000:=fun x hx=>by have:=(lU hx).1;omega
  have hpk:∀x∈t.kids,fN s x=true:=fun x hx=>aJh hpt hx;by_cases h5:p.kind=5
  ·exact bLo s n p t l (.inl h5) (bPg s n p t l m hm hA hp h5 (by omega) ht hpk hnk (by omega) hu ha hl hmm)
  by_cases h7:p.kind=7
  ·exact bLo s n p t l (.inr (.inl h7)) (bPf s n p t l m hm hA hp h7 (by omega) ht hpk hnk (by omega) hu ha hl hmm)
  by_cases h8:p.kind=8
  ·exact bLo s n p t l (.inr (.inr h8)) (bPe s n p t l m hm hA hp h8 (by omega) ht hpk hnk (by omega) hu ha hl hmm)
  have hf:=nM (s:=s) (p:=p) (t:=t) (l:=l);have e:dX s (n+1) p t l false=(l.flatMap (gZ s p t),false):=by
   rw[dX,if_neg h5,if_neg h7,if_neg h8,D6,pH,if_neg (by omega)]
  rw[e];exact aUw wK (aAb s l p t m hm hl hu ha (by omega) hp.1 ht.1 h5 h7 h8)
theorem bRr(s:dF)(p t:LTerm)(l:List LSub)(hm:Small s)(hp:OkN p)(ht:OkN t)(hpt:fN s t=true)(hnp:nodesT p≤100000)(hnt:nodesT t≤1000000)(hu:tD 100000 l)(ha:nP l)(hl:l.length≤1000): aFs Tryz.prog G0 50 [cD s,avw l,elT p,elT t] (avw (dX s (nodesT p) p t l false).1) (dX s (nodesT p) p t l false).2 wK:=by
 refine kY (rx:=false) (th:=fun _=>none) cI Tryz.func50 rfl (by kernel_rfl) (by kernel_rfl) (ac:=?_) ?_ g0 ?_;rotate_left
 ·simp only[strip,lA,eH,kZ,RX.off,ckF,ckX,zOf,exd,vOf,aD,aC,aY,aX,aF,Bool.and_true,Bool.and_false,aF,bP,bR,dI,fD,aW,bE,aJ,aH,dO,anyPre,Region.binds,Bool.not_true,Bool.not_false,aE,if_true,if_false,aP,aO,Bool.true_and,Bool.false_and,aT,aK,aD,aC,List.append_nil];rfl
 ·simp -implicitDefEqProofs (disch:=omega) only[Tryz.f50,go_sem,List.replicate,simprocAttr,avw,elT,aI];have c:=cCh hm (nodesT p) p hp (bT _) t l 100000 ht hpt hnt hu ha hl (by omega);generalize dX s (nodesT p) p t l false=R at *
  refine vY c ?_ (fun hb'=>⟨hb',rfl⟩) (fun hb'=>?_)
  ·exact zv (zA2 @avw.eq_1 (zA2 @elT.eq_1 (zA2 @aI @cD.eq_1)))
  refine zh @avw.eq_1 ?_;exact⟨hb',.inl ⟨rfl,gS _⟩⟩
def nU(s:dF)(u:LSub):Nat→Bool
 |0=>true
 |k+1=>nU s u k&&(eK (u.getD k default).1&&((decide (k=0)||Op.bytesLess (u.getD (k-1) default).1 (u.getD k default).1)&&fN s (u.getD k default).2))
def nV(s:dF)(u:LSub):Bool:=nU s u u.length
theorem Q8{s:dF}{u:LSub}{k:Nat}(h:nU s u k=false):∀j,nU s u (k+j)=false
 |0=>h
 |j+1=>by rw[show k+(j+1)=k+j+1 by omega,nU,Q8 h j];rfl
theorem aBw{s:dF}{u:LSub}{k:Nat}(hk:k≤u.length)(h:nU s u k=false):nV s u=false:=by
 have:=Q8 h (u.length-k);rwa[show k+(u.length-k)=u.length by omega]at this
theorem aLa(s:dF)(u:LSub)(hs:Small s)(hu:OkU 1000000 u)(hn:∀p∈u,p.1.length≤140737488355328): CT 48 [cD s,avu u] (.b (nV s u)):=by
 refine cW cI Tryz.func48 g0 ?_
 ·simp -implicitDefEqProofs (disch:=omega) only[Tryz.f48,go_sem,List.replicate,simprocAttr,avu];refine cO (fun(q:Nat×List AObj)=>(.k::.k::.k::.k::.j::.j::.j::.k::.k::.v (.i .i64 (q.1:Nat))::(rp 31 .j []))) (fun q=>q.2) (fun q=>q.1≤u.length∧nU s u q.1=true) (fun q=>u.length-q.1) ((0,[])) ⟨aR _,rfl⟩ rfl (by simp[fO]) ?_;rintro⟨k,g⟩ j ⟨hk,hb⟩;dsimp only at hk hb;by_cases hlt:k<u.length
  ·have hki:decide ((k:Int)<((u.length:Nat):Int))=true:=zt (by omega);have hm:=cC (d:=default) hlt;have hul:=hu.1;have hot:=hu.2 _ hm;have c1:=P9 (u.getD k default).1 (by have:=hn _ hm;omega);have c2:=aVg s (u.getD k default).2 hs hot;have hno:=fun h=>aBw (s:=s) (u:=u) (k:=k+1) (by omega) h;rw[nU,hb,Bool.true_and]at hno;have hsk:nU s u (k+1)=(eK (u.getD k default).1&&((decide (k=0)||Op.bytesLess (u.getD (k-1) default).1 (u.getD k default).1)&&fN s (u.getD k default).2)):=by rw[nU,hb,Bool.true_and]
   refine zh (zA2 hki (zA2 @prT.eq_1 @aI)) ?_;repeat refine aU (by omega) ?_
   refine bM c1 ?_ ?_
   ·exact zu
   refine zg ?_;cases h1:eK (u.getD k default).1 with
   |false=>
    simp -implicitDefEqProofs (disch:=omega) only[h1,Bool.not_false,go_sem,simprocAttr];exact .inl ⟨by rw[hno (by rw[h1];rfl)],rfl⟩
   |true=>
    by_cases hk0:k=0
    ·have hk1:decide ((0:Int)<0)=false:=rfl;subst hk0;simp -implicitDefEqProofs (disch:=omega) only[h1,hk1,Bool.not_true,go_sem,simprocAttr];repeat refine aU (by omega) ?_
     refine bM c2 ?_ ?_
     ·exact zv (zA2 @elT.eq_1 @aI)
     cases h2:fN s (u.getD 0 default).2 with
     |false=>
      simp -implicitDefEqProofs (disch:=omega) only[h2,Bool.not_false,go_sem,simprocAttr];exact .inl ⟨by rw[hno (by rw[h1,h2,Bool.and_false,Bool.and_false])],rfl⟩
     |true=>
      simp -implicitDefEqProofs (disch:=omega) only[h2,Bool.not_true,go_sem,simprocAttr];refine⟨(0+1,_),⟨by dsimp only;omega,by dsimp only;rw[hsk,h1,h2];simp⟩,by dsimp only;omega,rfl,by simp⟩
    ·have hk1:decide ((0:Int)<(k:Int))=true:=zt (by omega);have hw1:IntKind.i64.wrap ((k:Int)-1)=((k-1:Nat):Int):=by rw[wrap64 (by omega) (by omega)];omega
     have hp1:=I3 (u:=u) (k:=k-1) (by omega);simp -implicitDefEqProofs (disch:=omega) only[h1,hk1,hw1,hp1,Bool.not_true,go_sem,simprocAttr];repeat refine aU (by omega) ?_
     cases h3:Op.bytesLess (u.getD (k-1) default).1 (u.getD k default).1 with
     |false=>
      simp -implicitDefEqProofs (disch:=omega) only[h3,Bool.not_false,go_sem,simprocAttr];exact .inl ⟨by rw[hno (by rw[h1,h3,zf hk0];rfl)],rfl⟩
     |true=>
      simp -implicitDefEqProofs (disch:=omega) only[h3,Bool.not_true,go_sem,simprocAttr];repeat refine aU (by omega) ?_
      refine bM c2 ?_ ?_
      ·exact zv (zA2 @elT.eq_1 @aI)
      cases h2:fN s (u.getD k default).2 with
      |false=>
       simp -implicitDefEqProofs (disch:=omega) only[h2,Bool.not_false,go_sem,simprocAttr];exact .inl ⟨by rw[hno (by rw[h1,h2,Bool.and_false,Bool.and_false])],rfl⟩
      |true=>
       simp -implicitDefEqProofs (disch:=omega) only[h2,Bool.not_true,go_sem,simprocAttr];refine⟨(k+1,_),⟨by dsimp only;omega,by dsimp only;rw[hsk,h1,h2,h3];simp⟩,by dsimp only;omega,rfl,by simp⟩
  ·have hki:decide ((k:Int)<((u.length:Nat):Int))=false:=zf (by omega);obtain rfl:k=u.length:=by omega
   refine zh hki ?_;exact .inl ⟨by rw[nV,hb],rfl⟩
theorem bRq(u:LSub)(hu:OkU 1000000 u): CT 51 [avu u] (avu u):=by
 refine gX (rx:=true) (th:=fun _=>none) cI Tryz.func51 g0 ?_
 ·simp -implicitDefEqProofs (disch:=omega) only[Tryz.f51,go_sem,List.replicate,simprocAttr,avu];refine cO (fun(q:Nat×AV×List AObj)=>(.k::.k::.k::.v (q.2.1)::.k::.j::.k::.k::.v (.i .i64 (q.1:Nat))::(rp 13 .j [.k]))) (fun q=>q.2.2) (fun q=>q.1≤u.length∧gD 7 0 q.2.2 q.2.1 ((u.take q.1).flatMap prT) (u.take q.1).length) (fun q=>u.length-q.1) ((0,.e0,[])) ⟨aR _,eX⟩ rfl (by simp[fO]) ?_;rintro⟨k,out,g⟩ j ⟨hk,ho⟩;dsimp only at hk ho;have hul:=hu.1;by_cases hlt:k<u.length
  ·have hki:decide ((k:Int)<((u.length:Nat):Int))=true:=zt (by omega);have hm:=cC (d:=default) hlt;have c2:=bGg (u.getD k default).2 (hu.2 _ hm);have hX:(u.take (k+1)).flatMap prT=(u.take k).flatMap prT++prT (u.getD k default):=lW hlt;have hl:(u.take k).length≤1000000:=by rw[bS];omega
   have hl2:(u.take (k+1)).length=(u.take k).length+1:=by rw[bS,bS];omega
   refine zh (zA2 hki (zA2 @prT.eq_1 @aI)) ?_;repeat refine aU (by omega) ?_
   refine bM c2 ?_ ?_
   ·exact zv (zA2 @elT.eq_1 @aI)
   refine zh (zA2 @elT.eq_1 (zA2 @aI (zA2 @mL (zA2 @dV.{0} (zA2 @eO.{0} @List.append_nil.{0}))))) ?_;refine eI (pre:=[]) (g:=g) (more:=[.box false (.s (u.getD k default).1::(tmC ((u.getD k default).2))),.arr false 7 (.s (u.getD k default).1::(tmC ((u.getD k default).2)))]) (news:=.s (u.getD k default).1::(tmC ((u.getD k default).2))) (m:=1) ho rfl ?_ cCa cAi bVp cCe rfl (by decide) ?_ ?_ ⟨by omega,by omega⟩ ?_
   ·simp only[aH,aJ,cK]
   ·exact zu
   ·exact zu
   intro out' g' ho' _;refine zg ?_;refine⟨(k+1,out',g'),⟨by dsimp only;omega,?_⟩,by dsimp only;omega,rfl,by simp⟩;dsimp only;rw[hX,hl2,prT,aI];exact ho'
  ·have hki:decide ((k:Int)<((u.length:Nat):Int))=false:=zf (by omega);rw[aS (by omega)]at ho;refine zh hki ?_;exact bFd (pre:=[]) ho jG
theorem bRu(s:dF)(u:LSub)(hm:Small s)(hs:OkS s)(hu:OkU 1000000 u)(hn:∀p∈u,p.1.length≤140737488355328): CT 18 [.agg (bX s),avu u] (.b (fM s&&nV s u)):=by
 refine cW cI Tryz.func18 g0 ?_
 ·simp -implicitDefEqProofs (disch:=omega) only[Tryz.f18,go_sem,List.replicate,simprocAttr,avu];have c3:=aLa s u hm hu hn;simp only[avu]at c3;have c1:=aOg s hm hs;cases hv:fM s with
  |true=>
   rw[hv]at c1;(refine zt3 c1 (aEr s hm (jF hv)) c3 ?_;repeat' first|exact trivial|refine zJ ?_ ?_|refine zH fun hc=>?_);all_goals exact aV rfl rfl
  |false=>
   rw[hv]at c1;(refine zt1 c1 ?_;repeat' first|exact trivial|refine zJ ?_ ?_|refine zH fun hc=>?_);all_goals exact aV rfl rfl
theorem G7{s:dF}{u:LSub}:∀{k:Nat},nU s u k=true→∀i,i<k→eK (u.getD i default).1=true∧(i=0∨Op.bytesLess (u.getD (i-1) default).1 (u.getD i default).1=true)∧fN s (u.getD i default).2=true
 |0,_,i,hi=>by omega
 |k + 1,h,i,hi=>by
  rw[nU,aB]at h;rcases kE i k with h1|h1
  ·exact G7 h.1 i h1
  ·obtain rfl:i=k:=by omega
   have h2:=h.2;simp only[aB,cM,decide_eq_true_eq]at h2;exact h2
theorem aTa{x y:Str}(h:Op.bytesLess x y=true):x<y:=by rw[bytesLess_eq]at h;exact of_decide_eq_true h
theorem Q9{s:dF}{u:LSub}(h:nV s u=true):AscU u:=by
 have key:∀d i,i+d+1<u.length→(u.getD i default).1<(u.getD (i+d+1) default).1:=by
  intro d;induction d with
  |zero=>
   intro i hi;obtain⟨_,h2,_⟩:=G7 h (i+0+1) hi;have h2:=h2.resolve_left (by omega);rw[show i+0+1-1=i by omega]at h2;exact aTa h2
  |succ d ih=>
   intro i hi;obtain⟨_,h2,_⟩:=G7 h (i+(d+1)+1) hi;have h2:=h2.resolve_left (by omega);rw[show i+(d+1)+1-1=i+d+1 by omega]at h2;exact yX (ih i (by omega)) (aTa h2)
 refine eR.2 fun i j hi hj hij=>?_;have:=key (j-i-1) i (by omega);rw[show i+(j-i-1)+1=j by omega]at this;simpa[List.getD,hi,hj]using this
end Go.Proofs.YtdjcggcjlphdoaaGreatDoor
namespace Go.Proofs.YtdjcggcjlphdoaaGreatDoor
open Go.Vo Go
section
variable {P:Program} (w:World)
theorem bYt{T:TypeId}{ms}(h:P.underlying T=some (.interface ms)):(binOp .eql T .nilIface .nilIface).run P w=.ok (.bool true) w:=by
 have h1:(Op.equalIn 10000 T .nilIface .nilIface).run P w=.ok true w:=by
  unfold Op.equalIn;rw[cB,run_underlying h];rfl
 have h2:(Go.binOp .eql T .nilIface .nilIface).run P w=.ok (.bool true) w:=by
  simp only[Go.binOp,Op.equal,Op.maxDepth];simp[h1]
 exact h2
theorem bYu{T:TypeId}{ms}{U:TypeId}{v:Value}(h:P.underlying T=some (.interface ms)):(binOp .eql T (.iface U v) .nilIface).run P w=.ok (.bool false) w:=by
 have h1:(Op.equalIn 10000 T (.iface U v) .nilIface).run P w=.ok false w:=by
  unfold Op.equalIn;rw[cB,run_underlying h];rfl
 have h2:(Go.binOp .eql T (.iface U v) .nilIface).run P w=.ok (.bool false) w:=by
  simp only[Go.binOp,Op.equal,Op.maxDepth];simp[h1]
 exact h2
end
theorem aOl(p:Addr)(w:World):CallsD Tryz.prog 49 #[.pointer (some p)] .returning w fun e u' w'=>e=.returned (.tuple #[])∧u'=.returning∧w'=w:=by
 refine callsD_of_wpS Tryz.func49 rfl fun c₀ cs hu=>?_;apply wpS_seq;apply wpS_region;simp[wpOpsS,go_sem,recoverD,hu,Tryz.ntmps49,Exit.thenS,Array.replicate,List.replicate];refine wpS_of_wp ?_;have hb:=bYt (P:=Tryz.prog) w Tryz.underlying20;apply wp_block;apply wp_seq;apply wp_region;simp[wpOps,Region.wanted,Oper.wp,Oper.upon,execOp,Act.eval,eqGuard,hb,Result.andThen,Act.put,Exit.then];refine Or.inl (wp_cond (t:=true) rfl ?_);simp only[if_true];apply wp_region;simp[wpOps,Region.wanted,Oper.wp,Oper.upon,execOp,Act.eval,Result.andThen,Act.put,Exit.then];refine Or.inl ?_;cases c₀;simp_all[Exit.inBlock,bodyPostS,results,Tryz.results49]
section
variable {P:Program} (w:World)
theorem bWq{A U X:TypeId}{v z:Value}{k}(h:P.underlying A=some (.int k))(hU:U≠A)(hz:(zeroValue A).run P w=.ok z w):(Instr.typeAssert (.iface U v) X A true).run P w=.ok (.tuple #[z,.bool false]) w:=by
 unfold Instr.typeAssert;simp only[cB,run_underlying h,bI,hU,if_false,if_true,hz];rfl
theorem bOj{U X:TypeId}{v:Value}{fs}(h:P.underlying U=some (.struct fs)):(Instr.typeAssert (.iface U v) X U true).run P w=.ok (.tuple #[v,.bool true]) w:=by
 unfold Instr.typeAssert;simp only[cB,run_underlying h,bI,if_true];rfl
end
theorem aOk(p:Addr)(x:Value)(older:List PanicEntry)(w:World)(hc:(w.alloc (.cells #[] 138)).cell? p=some x)(hz:(w.alloc (.cells #[] 138)).frozen? p=false) :
 CallsD Tryz.prog 49 #[.pointer (some p)] (.panicking ({v:=.iface 138 (.agg #[]),recovered:=false}::older)) w fun e u' w'=>e=.returned (.tuple #[])∧u'=.panicking ({v:=.iface 138 (.agg #[]),recovered:=true}::older)∧w'=(w.alloc (.cells #[] 138)).setCell p (.int .i64 3):=by
 refine callsD_of_wpS Tryz.func49 rfl fun c₀ cs hu=>?_;apply wpS_seq;apply wpS_region;simp[wpOpsS,go_sem,recoverD,hu,Tryz.ntmps49,Exit.thenS,Array.replicate,List.replicate];refine wpS_of_wp ?_;have hb:=bYu (P:=Tryz.prog) (U:=138) (v:=.agg #[]) w Tryz.underlying20;have h1:=bWq (P:=Tryz.prog) (A:=38) (U:=138) (v:=.agg #[]) (X:=20) w Tryz.underlying38 (by decide) (Tryz.zeroValue38 w);have h2:=bOj (P:=Tryz.prog) (U:=138) (v:=.agg #[]) (X:=20) w Tryz.underlying138;apply wp_block;apply wp_seq;apply wp_region;simp[wpOps,Region.wanted,Oper.wp,Oper.upon,execOp,Act.eval,eqGuard,hb,Result.andThen,Act.put,Exit.then];refine Or.inl (wp_cond (t:=false) rfl ?_);simp only[aE,if_false];apply wp_seq;apply wp_region;simp[wpOps,Region.wanted,Oper.wp,Oper.upon,execOp,Act.eval,Result.andThen,Act.put,Exit.then,h1,go_sem];refine .inl (.inl (.inl (wp_cond (t:=false) rfl ?_)));simp only[aE,if_false];apply wp_seq;apply wp_region;simp[wpOps,Region.wanted,Oper.wp,Oper.upon,execOp,Act.eval,Result.andThen,Act.put,Exit.then,h2,go_sem];refine .inl (.inl (.inl (wp_cond (t:=true) rfl ?_)));simp only[if_true];apply wp_seq;apply wp_region;simp[wpOps,Region.wanted,Oper.wp,Oper.upon,execOp,Act.eval,Result.andThen,Act.put,Exit.then,go_sem,Tryz.zeroValue138];generalize hW:w.alloc (.cells #[] 138)=W at *
 refine .inl (.inl (wp_region ?_));simp[wpOps,Region.wanted,Oper.wp,Oper.upon,execOp,Act.eval,Result.andThen,Act.put,Exit.then,go_sem,hc,hz];refine .inl (.inl ?_);cases c₀;simp_all[Exit.inBlock,bodyPostS,results,Tryz.results49]
end Go.Proofs.YtdjcggcjlphdoaaGreatDoor

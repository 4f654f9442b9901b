/-
  Functions of the chapter, as plain functions of what they are given; no condition.
-/
import Derived.Test.YtdjcggcjlphdoaaGreatDoorVcP14
import Derived.Test.YtdjcggcjlphdoaaGreatDoorProg
import Derived.Test.YtdjcggcjlphdoaaGreatDoorVoP11
import Derived.Recover
import Derived.Tactics
import Derived.Tactics2
import Derived.Defers
import Derived.Laws.Pointers
set_option maxRecDepth 100000
set_option linter.unusedSimpArgs false
set_option linter.unusedVariables false
set_option maxHeartbeats 4000000
namespace Go.Proofs.YtdjcggcjlphdoaaGreatDoor
open Go Go.Vo
open Nat (reduceAdd reduceSub reduceMul reduceLeDiff reduceLT reduceEqDiff)
open Int (reduceNeg)
theorem bUv(s : dX)(n:Nat)(p t:LTerm)(l:List LSub)(m:Nat)(hm:Small s)(hA:∀q∈p.kids,bSf s n q)(hp:OkN p)(hp7:p.kind=7)(hpl1:p.kids.length≤1000000)(ht:OkN t)(hpl:∀x∈t.kids,gI s x=true)(hnk:∀x∈t.kids,nodesT x≤1000000)(htl:t.kids.length≤1000000)(hu:F3 m l)(ha:nT l)(hl:l.length≤1000)(hmm:m+nodesT p≤1000000): aHj Tryz.prog G0 167 [.agg [cM s],avw l,elT p,elT t] (avw (fJ s (n+1) p t l false).1) (fJ s (n+1) p t l false).2 xH:=by
 refine lG (rx:=true) (th:=fun i=>if i=11 then some ⟨none,[],false,false,true,[],[],8⟩else if i=18 then some ⟨none,[],false,false,true,[],[],8⟩else none) cZ Tryz.func167 rfl (by kernel_rfl) (by kernel_rfl) (ac:=?_) ?_ g0 ?_;rotate_left
 ·simp only[strip,lI,eS,lH,RX.off,ckF,ckX,zOf,exd,vOf,aD,aC,bD,bC,aF,bA,aM,aF,bS,bY,dR,fT,bB,bI,aJ,aH,dZ,anyPre,Region.binds,aN,aS,aE,if_true,if_false,aX,aU,aI,aO,aZ,aK,aD,aC,List.append_nil,aNu,xE,sV,sB,cR,bT,bZ,aF,bD,bC,cU,beq_self_eq_true,fZ,Nat.reduceBEq,rC,qI,rA,kK,aJf,fC,gJ,bS,eZ,aAv,aAu,↓reduceIte,Nat.reduceEqDiff,Nat.reduceBEq,mY,oC,oX,splitK,xI,G6,aC,fC,gJ,aN,aS,bA,aI,aM,bD,bC];rfl
 ·simp -implicitDefEqProofs (disch:=omega) only[Tryz.f167,go_sem,List.replicate,simprocAttr,avw,elT,aW];have h75:¬p.kind=5:=by omega
  have h78:¬(7:Int)=8:=by decide
  have hpx:=bBw hp (.inl hp7);by_cases hk:t.kind=7
  ·have htx := bBw ht (.inl hk)
   by_cases hle:p.kids.length≤t.kids.length
   ·by_cases hex:p.rest.length=0→t.kids.length≤p.kids.length
    ·have e:fJ s (n+1) p t l false=if 0<p.rest.length then G3 s (p.rest.getD 0 default) (.mk 7 0 [] [] (t.kids.drop p.kids.length) []) (kG (fJ s n) p.kids t.kids l false).1 (kG (fJ s n) p.kids t.kids l false).2 else kG (fJ s n) p.kids t.kids l false:=by
      rw[fJ,if_neg h75,if_pos hp7,if_pos ⟨hk,hle,hex⟩,aHw]
     have hpanE:(kG (fJ s n) p.kids t.kids l false).2=true→(fJ s (n+1) p t l false).2=true:=fun h=>by
      rw[e];split
      ·rw[h];exact J8
      ·exact h
     have hst0:∀{b:Bool},kG (fJ s n) p.kids t.kids l false=([],b)→b=false→fJ s (n+1) p t l false=([],false):=fun h hb=>by
      subst hb;rw[e,h];split<;>rfl
     have hno:=iO p;have hi1:decide (((t.kids.length:Nat):Int)<((p.kids.length:Nat):Int))=false:=zf (by omega);have hpan:=fun k=>aLl (A:=fJ s n) (aKd n) (ps:=p.kids) (ts:=t.kids) (l:=l) (b:=false) k;have hstop:=fun k=>aLk (A:=fJ s n) (aOr n) (ps:=p.kids) (ts:=t.kids) (l:=l) (b:=false) k;have hfin:kG (fJ s n) (p.kids.take p.kids.length) (t.kids.take p.kids.length) l false=kG (fJ s n) p.kids t.kids l false:=by rw[gD,aHw]
     have hcond:(decide (((p.kids.length:Nat):Int)<((t.kids.length:Nat):Int))=false)∨(decide (((p.rest.length:Nat):Int)=0)=false):=by
      by_cases h0:p.rest.length=0
      ·exact .inl (zf (by have:=hex h0;omega))
      ·exact .inr (zf (by omega))
     obtain⟨ok1,ok2⟩:=L5 (A:=fJ s n) (ps:=p.kids) (ts:=t.kids) (b:=false) (fun q _=>sZ n q) (fun x h=>ht.kid h) hu hl;have ok3:=uX (A:=fJ s n) (xM n) (ps:=p.kids) (ts:=t.kids) (b:=false) ha;generalize hTb:fJ s (n+1) p t l false=TB at *
     by_cases hi2:((p.kids.length:Nat):Int)<((t.kids.length:Nat):Int)
     ·have hr0:decide (((p.rest.length:Nat):Int)=0)=false:=zf (fun h=>by have:=hex (by omega);omega);simp -implicitDefEqProofs (disch:=omega) only[hp7,hk,hpx,htx,zf h78,hi1,zt hi2,hr0,go_sem,simprocAttr];refine dF (fun(q:Nat×List AObj)=>[.k,.v (.sl ((kG (fJ s n) (p.kids.take q.1) (t.kids.take q.1) l false).1.map avu) (kG (fJ s n) (p.kids.take q.1) (t.kids.take q.1) l false).1.length),.k,.k,.k,.k,.k,.k,.j,.k,.j,.j,.k,.k,.k,.k,.k,.k,.k,.k,.k,.k,.k,.k,.k,.k,.k,.k,.k,.k,.k,.k,.k,.k,.k,.k,.k,.k,.k,.k,.k,.k,.k,.k,.k,.k,.k,.k,.k,.k,.k,.k,.k,.k,.k,.k,.k,.k,.k,.k,.v (.i .i64 (q.1:Nat)),.j,.j,.j,.j,.j,.j,.j,.j,.j,.j,.j,.j,.j,.j,.j,.j,.j,.k,.k,.k,.k,.k,.k,.k,.k,.k,.k,.k,.k,.k,.k,.k,.k,.k,.k]) (fun q=>(.box false [cM s]::.box false [.i .i64 7,.i .i64 p.n,.s [],.s p.sort,.sl (p.kids.flatMap aP) p.kids.length,.sl (p.rest.flatMap aP) p.rest.length]::.box false [.i .i64 7,.i .i64 t.n,.s [],.s t.sort,.sl (t.kids.flatMap aP) t.kids.length,.sl (t.rest.flatMap aP) t.rest.length]::q.2)) (fun q=>q.1≤p.kids.length∧(kG (fJ s n) (p.kids.take q.1) (t.kids.take q.1) l false).2=false) (fun q=>p.kids.length-q.1) ((0,[])) ⟨bJ _,by simp[kG]⟩ rfl (by simp[hZ]) ?_;rintro⟨k,g⟩ j ⟨hkl,hb⟩;dsimp only at hkl hb;by_cases hlt:k<p.kids.length
      ·have hki:decide ((k:Int)<((p.kids.length:Nat):Int))=true:=zt (by omega);have hkt:k<t.kids.length:=by omega
       have hpk:=cT (d:=default) hlt;have htk:=cT (d:=default) hkt;have er:=H0 (A:=fJ s n) (l:=l) (b:=false) hlt hkt;have hn1:=pE hlt;have hn2:=kJ (l:=p.kids) (k:=k+1);obtain⟨r1,r2⟩:=L5 (A:=fJ s n) (ps:=p.kids.take k) (ts:=t.kids.take k) (b:=false) (fun q _=>sZ n q) (fun x h=>ht.kid (dH h)) hu hl;have r3:=uX (A:=fJ s n) (xM n) (ps:=p.kids.take k) (ts:=t.kids.take k) (b:=false) ha;have c:=hA _ hpk (t.kids.getD k default) _ (m+nodesL (p.kids.take k)) (ht.kid htk) (hpl _ htk) (hnk _ htk) r1 r3 r2 (by omega);have hp1:=hpan (k+1);have hs1:=hstop (k+1);rw[hb]at er;rw[er]at hp1 hs1;generalize hR:fJ s n (p.kids.getD k default) (t.kids.getD k default) (kG (fJ s n) (p.kids.take k) (t.kids.take k) l false).1 false=R at *
       simp -implicitDefEqProofs (disch:=omega) only[hki,go_sem,simprocAttr];repeat refine bX (by omega) ?_
       refine wV c ?_ (fun hb'=>⟨hpanE (hp1 hb'),rfl⟩) (fun hb'=>?_)
       ·simp -implicitDefEqProofs (disch:=omega) only[avw,elT,aW,cM,go_sem,simprocAttr]
       by_cases hR0:R.1=[]
       ·have hz:decide (((R.1.length:Nat):Int)=0)=true:=zt (by rw[hR0];rfl);simp -implicitDefEqProofs (disch:=omega) only[avw,hz,go_sem,simprocAttr];have hz0:=hs1 hR0;rw[hst0 hz0 hb'];exact⟨rfl,pJ⟩
       ·have hz:decide (((R.1.length:Nat):Int)=0)=false:=zf (fun h=>hR0 (List.eq_nil_of_length_eq_zero (by omega)));simp -implicitDefEqProofs (disch:=omega) only[avw,hz,go_sem,simprocAttr];refine⟨(k+1,_),⟨by dsimp only;omega,by dsimp only;rw[er];exact hb'⟩,by dsimp only;omega,rfl,?_⟩;dsimp only;rw[er];exact⟨rfl,rfl⟩
      ·have hki:decide ((k:Int)<((p.kids.length:Nat):Int))=false:=zf (by omega);obtain rfl:k=p.kids.length:=by omega
       rw[hfin]at hb ⊢;simp -implicitDefEqProofs (disch:=omega) only[hki,go_sem,simprocAttr];by_cases h0:p.rest.length=0
       ·have hr1:decide ((0:Int)<((p.rest.length:Nat):Int))=false:=zf (by omega);refine dF (fun(q:Unit)=>[.k,.v (.sl ((kG (fJ s n) p.kids t.kids l false).1.map avu) (kG (fJ s n) p.kids t.kids l false).1.length),.k,.k,.k,.k,.k,.k,.k,.k,.k,.k,.k,.j,.k,.k,.k,.k,.k,.k,.k,.k,.k,.k,.k,.k,.k,.k,.k,.k,.k,.k,.k,.k,.k,.k,.k,.k,.k,.k,.k,.k,.k,.k,.k,.k,.k,.k,.k,.k,.k,.k,.k,.k,.k,.k,.k,.k,.k,.k,.k,.k,.k,.k,.k,.k,.k,.k,.k,.k,.k,.k,.k,.k,.k,.k,.k,.k,.k,.k,.k,.v (.i .i64 0),.j,.j,.j,.j,.j,.j,.j,.j,.j,.j,.j,.j,.j,.k]) (fun q=>(.box false [cM s]::.box false [.i .i64 7,.i .i64 p.n,.s [],.s p.sort,.sl (p.kids.flatMap aP) p.kids.length,.sl (p.rest.flatMap aP) p.rest.length]::.box false [.i .i64 7,.i .i64 t.n,.s [],.s t.sort,.sl (t.kids.flatMap aP) t.kids.length,.sl (t.rest.flatMap aP) t.rest.length]::g)) (fun q=>True) (fun q=>0) (()) trivial rfl (by simp[hZ]) ?_;rintro⟨⟩ j7 -
        simp -implicitDefEqProofs (disch:=omega) only[hr1,go_sem,simprocAttr];rw[e,if_neg (by omega)];exact⟨hb,.inl ⟨rfl,uG _⟩⟩
       ·obtain⟨r,hr,hr6⟩:=(bMx hp (.inl hp7)).resolve_left (fun h=>h0 (by rw[h];rfl));have hrl:p.rest.length=1:=by rw[hr];rfl
        have hrk:(p.rest.getD 0 default).kind=6:=by rw[hr];exact hr6
        have hro:OkT (p.rest.getD 0 default):=hp.1.rst _ (cT (by omega));have hn9:=kJ (l:=p.kids) (k:=p.kids.length);have c:=aBl s (kG (fJ s n) p.kids t.kids l false).1 (p.rest.getD 0 default) (.mk 7 0 [] [] (t.kids.drop p.kids.length) []) (m+nodesL p.kids) hm ok2 ok1 ok3 (by omega) hro (aEm (fun x hx=>(ht.kid (fL hx)).1) (by rw[dI];omega)) (by omega) (by omega) (by omega);have hf1:=rF (s:=s) (p:=p.rest.getD 0 default) (t:=.mk 7 0 [] [] (t.kids.drop p.kids.length) []) (l:=(kG (fJ s n) p.kids t.kids l false).1);rw[if_pos (by omega),hb,G3,uM,if_neg (by omega)]at e;have q1:List.drop (p.kids.length*6) (t.kids.flatMap aP)=(t.kids.drop p.kids.length).flatMap aP:=aDc;generalize kG (fJ s n) p.kids t.kids l false=RW at *
        rw[e];refine dF (fun(q:Nat×List LSub×List AObj)=>[.k,.v (.sl (q.2.1.map avu) q.2.1.length),.k,.k,.k,.k,.k,.k,.k,.k,.k,.k,.k,.j,.k,.k,.k,.k,.k,.k,.k,.k,.k,.k,.k,.k,.k,.k,.k,.k,.k,.k,.k,.k,.k,.k,.k,.k,.k,.k,.k,.k,.k,.k,.k,.k,.k,.k,.k,.k,.k,.k,.k,.k,.k,.k,.k,.k,.k,.k,.k,.k,.k,.k,.k,.k,.k,.k,.k,.k,.k,.k,.k,.k,.k,.k,.k,.k,.k,.k,.k,.v (.i .i64 (q.1:Nat)),.j,.j,.j,.j,.j,.j,.j,.j,.j,.j,.j,.j,.j,.k]) (fun q=>(.box false [cM s]::.box false [.i .i64 7,.i .i64 p.n,.s [],.s p.sort,.sl (p.kids.flatMap aP) p.kids.length,.sl (p.rest.flatMap aP) p.rest.length]::.box false [.i .i64 7,.i .i64 t.n,.s [],.s t.sort,.sl (t.kids.flatMap aP) t.kids.length,.sl (t.rest.flatMap aP) t.rest.length]::q.2.2)) (fun q=>(q.1=0∧q.2.1=RW.1)∨(q.1=1∧q.2.1=RW.1.flatMap (iT s (p.rest.getD 0 default) (.mk 7 0 [] [] (t.kids.drop p.kids.length) [])))) (fun q=>1-q.1) ((0,RW.1,g)) (.inl ⟨rfl,rfl⟩) rfl (by simp[hZ]) ?_;rintro⟨x,v,g6⟩ j7 hq;dsimp only at hq;rcases hq with⟨rfl,rfl⟩|⟨rfl,rfl⟩
        ·have hr1:decide ((0:Int)<((p.rest.length:Nat):Int))=true:=zt (by omega);simp -implicitDefEqProofs (disch:=omega) only[hr1,q1,go_sem,simprocAttr];repeat refine bX (by omega) ?_
         refine dA c ?_ ?_
         ·simp -implicitDefEqProofs (disch:=omega) only[avw,elT,aW,cM,avt,List.flatMap_nil,cB,go_sem,simprocAttr]
         simp -implicitDefEqProofs (disch:=omega) only[avw,go_sem,simprocAttr];exact⟨(1,RW.1.flatMap (iT s (p.rest.getD 0 default) (.mk 7 0 [] [] (t.kids.drop p.kids.length) [])),_),.inr ⟨rfl,rfl⟩,by dsimp only;omega,rfl,rfl,rfl⟩
        ·have hr1:decide (((1:Nat):Int)<((p.rest.length:Nat):Int))=false:=zf (by omega);have hr2:decide ((1:Int)<((p.rest.length:Nat):Int))=false:=hr1;simp -implicitDefEqProofs (disch:=omega) only[hr1,hr2,go_sem,simprocAttr];exact .inl ⟨rfl,uG _⟩
     ·skip;simp -implicitDefEqProofs (disch:=omega) only[hp7,hk,hpx,htx,zf h78,hi1,zf hi2,go_sem,simprocAttr];refine dF (fun(q:Nat×List AObj)=>[.k,.v (.sl ((kG (fJ s n) (p.kids.take q.1) (t.kids.take q.1) l false).1.map avu) (kG (fJ s n) (p.kids.take q.1) (t.kids.take q.1) l false).1.length),.k,.k,.k,.k,.k,.k,.j,.k,.j,.j,.k,.k,.k,.k,.k,.k,.k,.k,.k,.k,.k,.k,.k,.k,.k,.k,.k,.k,.k,.k,.k,.k,.k,.k,.k,.k,.k,.k,.k,.k,.k,.k,.k,.k,.k,.k,.k,.k,.k,.k,.k,.k,.k,.k,.k,.k,.k,.k,.v (.i .i64 (q.1:Nat)),.j,.j,.j,.j,.j,.j,.j,.j,.j,.j,.j,.j,.j,.j,.j,.j,.j,.k,.k,.k,.k,.k,.k,.k,.k,.k,.k,.k,.k,.k,.k,.k,.k,.k,.k]) (fun q=>(.box false [cM s]::.box false [.i .i64 7,.i .i64 p.n,.s [],.s p.sort,.sl (p.kids.flatMap aP) p.kids.length,.sl (p.rest.flatMap aP) p.rest.length]::.box false [.i .i64 7,.i .i64 t.n,.s [],.s t.sort,.sl (t.kids.flatMap aP) t.kids.length,.sl (t.rest.flatMap aP) t.rest.length]::q.2)) (fun q=>q.1≤p.kids.length∧(kG (fJ s n) (p.kids.take q.1) (t.kids.take q.1) l false).2=false) (fun q=>p.kids.length-q.1) ((0,[])) ⟨bJ _,by simp[kG]⟩ rfl (by simp[hZ]) ?_;rintro⟨k,g⟩ j ⟨hkl,hb⟩;dsimp only at hkl hb;by_cases hlt:k<p.kids.length
      ·have hki:decide ((k:Int)<((p.kids.length:Nat):Int))=true:=zt (by omega);have hkt:k<t.kids.length:=by omega
       have hpk:=cT (d:=default) hlt;have htk:=cT (d:=default) hkt;have er:=H0 (A:=fJ s n) (l:=l) (b:=false) hlt hkt;have hn1:=pE hlt;have hn2:=kJ (l:=p.kids) (k:=k+1);obtain⟨r1,r2⟩:=L5 (A:=fJ s n) (ps:=p.kids.take k) (ts:=t.kids.take k) (b:=false) (fun q _=>sZ n q) (fun x h=>ht.kid (dH h)) hu hl;have r3:=uX (A:=fJ s n) (xM n) (ps:=p.kids.take k) (ts:=t.kids.take k) (b:=false) ha;have c:=hA _ hpk (t.kids.getD k default) _ (m+nodesL (p.kids.take k)) (ht.kid htk) (hpl _ htk) (hnk _ htk) r1 r3 r2 (by omega);have hp1:=hpan (k+1);have hs1:=hstop (k+1);rw[hb]at er;rw[er]at hp1 hs1;generalize hR:fJ s n (p.kids.getD k default) (t.kids.getD k default) (kG (fJ s n) (p.kids.take k) (t.kids.take k) l false).1 false=R at *
       simp -implicitDefEqProofs (disch:=omega) only[hki,go_sem,simprocAttr];repeat refine bX (by omega) ?_
       refine wV c ?_ (fun hb'=>⟨hpanE (hp1 hb'),rfl⟩) (fun hb'=>?_)
       ·simp -implicitDefEqProofs (disch:=omega) only[avw,elT,aW,cM,go_sem,simprocAttr]
       by_cases hR0:R.1=[]
       ·have hz:decide (((R.1.length:Nat):Int)=0)=true:=zt (by rw[hR0];rfl);simp -implicitDefEqProofs (disch:=omega) only[avw,hz,go_sem,simprocAttr];have hz0:=hs1 hR0;rw[hst0 hz0 hb'];exact⟨rfl,pJ⟩
       ·have hz:decide (((R.1.length:Nat):Int)=0)=false:=zf (fun h=>hR0 (List.eq_nil_of_length_eq_zero (by omega)));simp -implicitDefEqProofs (disch:=omega) only[avw,hz,go_sem,simprocAttr];refine⟨(k+1,_),⟨by dsimp only;omega,by dsimp only;rw[er];exact hb'⟩,by dsimp only;omega,rfl,?_⟩;dsimp only;rw[er];exact⟨rfl,rfl⟩
      ·have hki:decide ((k:Int)<((p.kids.length:Nat):Int))=false:=zf (by omega);obtain rfl:k=p.kids.length:=by omega
       rw[hfin]at hb ⊢;simp -implicitDefEqProofs (disch:=omega) only[hki,go_sem,simprocAttr];by_cases h0:p.rest.length=0
       ·have hr1:decide ((0:Int)<((p.rest.length:Nat):Int))=false:=zf (by omega);refine dF (fun(q:Unit)=>[.k,.v (.sl ((kG (fJ s n) p.kids t.kids l false).1.map avu) (kG (fJ s n) p.kids t.kids l false).1.length),.k,.k,.k,.k,.k,.k,.k,.k,.k,.k,.k,.j,.k,.k,.k,.k,.k,.k,.k,.k,.k,.k,.k,.k,.k,.k,.k,.k,.k,.k,.k,.k,.k,.k,.k,.k,.k,.k,.k,.k,.k,.k,.k,.k,.k,.k,.k,.k,.k,.k,.k,.k,.k,.k,.k,.k,.k,.k,.k,.k,.k,.k,.k,.k,.k,.k,.k,.k,.k,.k,.k,.k,.k,.k,.k,.k,.k,.k,.k,.v (.i .i64 0),.j,.j,.j,.j,.j,.j,.j,.j,.j,.j,.j,.j,.j,.k]) (fun q=>(.box false [cM s]::.box false [.i .i64 7,.i .i64 p.n,.s [],.s p.sort,.sl (p.kids.flatMap aP) p.kids.length,.sl (p.rest.flatMap aP) p.rest.length]::.box false [.i .i64 7,.i .i64 t.n,.s [],.s t.sort,.sl (t.kids.flatMap aP) t.kids.length,.sl (t.rest.flatMap aP) t.rest.length]::g)) (fun q=>True) (fun q=>0) (()) trivial rfl (by simp[hZ]) ?_;rintro⟨⟩ j7 -
        simp -implicitDefEqProofs (disch:=omega) only[hr1,go_sem,simprocAttr];rw[e,if_neg (by omega)];exact⟨hb,.inl ⟨rfl,uG _⟩⟩
       ·obtain⟨r,hr,hr6⟩:=(bMx hp (.inl hp7)).resolve_left (fun h=>h0 (by rw[h];rfl));have hrl:p.rest.length=1:=by rw[hr];rfl
        have hrk:(p.rest.getD 0 default).kind=6:=by rw[hr];exact hr6
        have hro:OkT (p.rest.getD 0 default):=hp.1.rst _ (cT (by omega));have hn9:=kJ (l:=p.kids) (k:=p.kids.length);have c:=aBl s (kG (fJ s n) p.kids t.kids l false).1 (p.rest.getD 0 default) (.mk 7 0 [] [] (t.kids.drop p.kids.length) []) (m+nodesL p.kids) hm ok2 ok1 ok3 (by omega) hro (aEm (fun x hx=>(ht.kid (fL hx)).1) (by rw[dI];omega)) (by omega) (by omega) (by omega);have hf1:=rF (s:=s) (p:=p.rest.getD 0 default) (t:=.mk 7 0 [] [] (t.kids.drop p.kids.length) []) (l:=(kG (fJ s n) p.kids t.kids l false).1);rw[if_pos (by omega),hb,G3,uM,if_neg (by omega)]at e;have q1:List.drop (p.kids.length*6) (t.kids.flatMap aP)=(t.kids.drop p.kids.length).flatMap aP:=aDc;generalize kG (fJ s n) p.kids t.kids l false=RW at *
        rw[e];refine dF (fun(q:Nat×List LSub×List AObj)=>[.k,.v (.sl (q.2.1.map avu) q.2.1.length),.k,.k,.k,.k,.k,.k,.k,.k,.k,.k,.k,.j,.k,.k,.k,.k,.k,.k,.k,.k,.k,.k,.k,.k,.k,.k,.k,.k,.k,.k,.k,.k,.k,.k,.k,.k,.k,.k,.k,.k,.k,.k,.k,.k,.k,.k,.k,.k,.k,.k,.k,.k,.k,.k,.k,.k,.k,.k,.k,.k,.k,.k,.k,.k,.k,.k,.k,.k,.k,.k,.k,.k,.k,.k,.k,.k,.k,.k,.k,.v (.i .i64 (q.1:Nat)),.j,.j,.j,.j,.j,.j,.j,.j,.j,.j,.j,.j,.j,.k]) (fun q=>(.box false [cM s]::.box false [.i .i64 7,.i .i64 p.n,.s [],.s p.sort,.sl (p.kids.flatMap aP) p.kids.length,.sl (p.rest.flatMap aP) p.rest.length]::.box false [.i .i64 7,.i .i64 t.n,.s [],.s t.sort,.sl (t.kids.flatMap aP) t.kids.length,.sl (t.rest.flatMap aP) t.rest.length]::q.2.2)) (fun q=>(q.1=0∧q.2.1=RW.1)∨(q.1=1∧q.2.1=RW.1.flatMap (iT s (p.rest.getD 0 default) (.mk 7 0 [] [] (t.kids.drop p.kids.length) [])))) (fun q=>1-q.1) ((0,RW.1,g)) (.inl ⟨rfl,rfl⟩) rfl (by simp[hZ]) ?_;rintro⟨x,v,g6⟩ j7 hq;dsimp only at hq;rcases hq with⟨rfl,rfl⟩|⟨rfl,rfl⟩
        ·have hr1:decide ((0:Int)<((p.rest.length:Nat):Int))=true:=zt (by omega);simp -implicitDefEqProofs (disch:=omega) only[hr1,q1,go_sem,simprocAttr];repeat refine bX (by omega) ?_
         refine dA c ?_ ?_
         ·simp -implicitDefEqProofs (disch:=omega) only[avw,elT,aW,cM,avt,List.flatMap_nil,cB,go_sem,simprocAttr]
         simp -implicitDefEqProofs (disch:=omega) only[avw,go_sem,simprocAttr];exact⟨(1,RW.1.flatMap (iT s (p.rest.getD 0 default) (.mk 7 0 [] [] (t.kids.drop p.kids.length) [])),_),.inr ⟨rfl,rfl⟩,by dsimp only;omega,rfl,rfl,rfl⟩
        ·have hr1:decide (((1:Nat):Int)<((p.rest.length:Nat):Int))=false:=zf (by omega);have hr2:decide ((1:Int)<((p.rest.length:Nat):Int))=false:=hr1;simp -implicitDefEqProofs (disch:=omega) only[hr1,hr2,go_sem,simprocAttr];exact .inl ⟨rfl,uG _⟩
    ·have h0:p.rest.length=0:=Classical.byContradiction fun h=>hex fun h'=>absurd h' h;have hgt:p.kids.length<t.kids.length:=by
      rcases lK p.kids.length t.kids.length with h|h
      ·exact h
      ·exact absurd (fun _=>h) hex
     have e:fJ s (n+1) p t l false=([],false):=by rw[fJ,if_neg h75,if_pos hp7,if_neg (fun h=>hex h.2.2)]
     have hi1:decide (((t.kids.length:Nat):Int)<((p.kids.length:Nat):Int))=false:=zf (by omega);have hi2:decide (((p.kids.length:Nat):Int)<((t.kids.length:Nat):Int))=true:=zt (by omega);have hr0:decide (((p.rest.length:Nat):Int)=0)=true:=zt (by omega);rw[e];simp -implicitDefEqProofs (disch:=omega) only[hp7,hk,hpx,htx,zf h78,hi1,hi2,hr0,go_sem,simprocAttr];exact pJ
   ·have e:fJ s (n+1) p t l false=([],false):=by rw[fJ,if_neg h75,if_pos hp7,if_neg (fun h=>hle h.2.1)]
    have hi1:decide (((t.kids.length:Nat):Int)<((p.kids.length:Nat):Int))=true:=zt (by omega);rw[e];simp -implicitDefEqProofs (disch:=omega) only[hp7,hk,hpx,htx,zf h78,hi1,go_sem,simprocAttr];exact pJ
  ·have hk':¬(7:Int)=t.kind:=fun h=>hk h.symm;have e:fJ s (n+1) p t l false=([],false):=by rw[fJ,if_neg h75,if_pos hp7,if_neg (fun h=>hk h.1)]
   rw[e];simp -implicitDefEqProofs (disch:=omega) only[hp7,zf hk',go_sem,simprocAttr];exact pJ
theorem bUu(s:dX)(n:Nat)(p t:LTerm)(l:List LSub)(m:Nat)(hm:Small s)(hA:∀q∈p.kids,bSf s n q)(hp:OkN p)(hp8:p.kind=8)(hpl1:p.kids.length≤1000000)(ht:OkN t)(hpl:∀x∈t.kids,gI s x=true)(hnk:∀x∈t.kids,nodesT x≤1000000)(htl:t.kids.length≤1000000)(hu:F3 m l)(ha:nT l)(hl:l.length≤1000)(hmm:m+nodesT p≤1000000): aHj Tryz.prog G0 167 [.agg [cM s],avw l,elT p,elT t] (avw (fJ s (n+1) p t l false).1) (fJ s (n+1) p t l false).2 xH:=by
 refine lG (rx:=true) (th:=fun i=>if i=11 then some ⟨none,[],false,false,true,[],[],8⟩else if i=18 then some ⟨none,[],false,false,true,[],[],8⟩else none) cZ Tryz.func167 rfl (by kernel_rfl) (by kernel_rfl) (ac:=?_) ?_ g0 ?_;rotate_left
 ·simp only[strip,lI,eS,lH,RX.off,ckF,ckX,zOf,exd,vOf,aD,aC,bD,bC,aF,bA,aM,aF,bS,bY,dR,fT,bB,bI,aJ,aH,dZ,anyPre,Region.binds,aN,aS,aE,if_true,if_false,aX,aU,aI,aO,aZ,aK,aD,aC,List.append_nil,aNu,xE,sV,sB,cR,bT,bZ,aF,bD,bC,cU,beq_self_eq_true,fZ,Nat.reduceBEq,rC,qI,rA,kK,aJf,fC,gJ,bS,eZ,aAv,aAu,↓reduceIte,Nat.reduceEqDiff,Nat.reduceBEq,mY,oC,oX,splitK,xI,G6,aC,fC,gJ,aN,aS,bA,aI,aM,bD,bC];rfl
 ·simp -implicitDefEqProofs (disch:=omega) only[Tryz.f167,go_sem,List.replicate,simprocAttr,avw,elT,aW];have h85:¬p.kind=5:=by omega
  have h87:¬p.kind=7:=by omega
  have hpx:=bBw hp (.inr hp8);by_cases hk:t.kind=8
  ·have htx:=bBw ht (.inr hk);have e:fJ s (n+1) p t l false=mF (fJ s n) s p t l false:=by rw[fJ,if_neg h85,if_neg h87,if_pos hp8,if_pos hk]
   rw[e];have c:=bTw s n p t l m hm hA hp hp8 hpl1 ht hk hpl hnk htl hu ha hl hmm;simp only[elT,aW,hp8,hk,hpx,htx]at c;refine zh (zA2 hp8 (zA2 hk (zA2 hpx htx))) ?_;refine wV c ?_ (fun hb'=>⟨hb',rfl⟩) (fun hb'=>?_)
   ·exact zv (zA2 @avw.eq_1 @cM.eq_1)
   refine zh @avw.eq_1 ?_;exact⟨hb',.inl ⟨rfl,uG _⟩⟩
  ·have hk':¬(8:Int)=t.kind:=fun h=>hk h.symm;have e:fJ s (n+1) p t l false=([],false):=by rw[fJ,if_neg h85,if_neg h87,if_pos hp8,if_neg hk]
   rw[e];refine zh (zA2 hp8 (zf hk')) ?_;exact pJ
theorem bQh(s:dX)(n:Nat)(p t:LTerm)(l:List LSub)(hk:p.kind=5∨p.kind=7∨p.kind=8)(c:aHj Tryz.prog G0 167 [.agg [cM s],avw l,elT p,elT t] (avw (fJ s (n+1) p t l false).1) (fJ s (n+1) p t l false).2 xH): aHj Tryz.prog G0 103 [.agg [cM s],avw l,elT p,elT t] (avw (fJ s (n+1) p t l false).1) (fJ s (n+1) p t l false).2 xH:=by
 refine lG (rx:=false) (th:=fun _=>none) cZ Tryz.func103 rfl (by kernel_rfl) (by kernel_rfl) (ac:=?_) ?_ g0 ?_;rotate_left
 ·simp only[strip,lI,eS,lH,RX.off,ckF,ckX,zOf,exd,vOf,aD,aC,bD,bC,aF,bA,aM,aF,bS,bY,dR,fT,bB,bI,aJ,aH,dZ,anyPre,Region.binds,aN,aS,aE,if_true,if_false,aX,aU,aI,aO,aZ,aK,aD,aC,List.append_nil];rfl
 ·simp -implicitDefEqProofs (disch:=omega) only[Tryz.f103,go_sem,List.replicate,simprocAttr,avw,elT,aW];generalize fJ s (n+1) p t l false=R at *
  have h57:¬(7:Int)=5:=by decide
  have h58:¬(8:Int)=5:=by decide
  have h78:¬(8:Int)=7:=by decide
  rcases hk with hk|hk|hk;all_goals
   simp only[elT,aW,hk]at c
   refine zh (zA2 hk (zA2 (zf h57) (zA2 (zf h58) (zf h78)))) ?_
   refine wV c ?_ (fun hb'=>⟨hb',rfl⟩) (fun hb'=>?_)
   ·exact zv (zA2 @avw.eq_1 @cM.eq_1)
   refine zh @avw.eq_1 ?_
   exact⟨hb',.inl ⟨rfl,uG _⟩⟩
theorem cId{s:dX}(hm:Small s):∀(n:Nat) (p:LTerm),OkN p→nodesT p≤n→bSf s n p
 |0,p,hp,h=>by rw[iO]at h;omega
 |n + 1,p,hp,h=>fun t l m ht hpt hnt hu ha hl hmm=>by
  have hno:=iO p;have hnt2:=iO t;have hk1:=oU p.kids;have hk2:=oU t.kids;have hA:∀q∈p.kids,bSf s n q:=fun q hq=>cId hm n q (hp.kid hq) (by have:=(nC hq).1;omega);have hnk:∀x∈t.kids,nodesT x≤1000000:=fun x hx=>by have:=(nC hx).1;omega
  have hpk:∀x∈t.kids,gI s x=true:=fun x hx=>bDo hpt hx;by_cases h5:p.kind=5
  ·exact bQh s n p t l (.inl h5) (bUw s n p t l m hm hA hp h5 (by omega) ht hpk hnk (by omega) hu ha hl hmm)
  by_cases h7:p.kind=7
  ·exact bQh s n p t l (.inr (.inl h7)) (bUv s n p t l m hm hA hp h7 (by omega) ht hpk hnk (by omega) hu ha hl hmm)
  by_cases h8:p.kind=8
  ·exact bQh s n p t l (.inr (.inr h8)) (bUu s n p t l m hm hA hp h8 (by omega) ht hpk hnk (by omega) hu ha hl hmm)
  have hf:=rF (s:=s) (p:=p) (t:=t) (l:=l);have e:fJ s (n+1) p t l false=(l.flatMap (iT s p t),false):=by
   rw[fJ,if_neg h5,if_neg h7,if_neg h8,G3,uM,if_neg (by omega)]
  rw[e];exact aYl xH (aBl s l p t m hm hl hu ha (by omega) hp.1 ht.1 h5 h7 h8)
theorem bXt(s:dX)(p t:LTerm)(l:List LSub)(hm:Small s)(hp:OkN p)(ht:OkN t)(hpt:gI s t=true)(hnp:nodesT p≤100000)(hnt:nodesT t≤1000000)(hu:F3 100000 l)(ha:nT l)(hl:l.length≤1000): aHj Tryz.prog G0 50 [cM s,avw l,elT p,elT t] (avw (fJ s (nodesT p) p t l false).1) (fJ s (nodesT p) p t l false).2 xH:=by
 refine lG (rx:=false) (th:=fun _=>none) cZ Tryz.func50 rfl (by kernel_rfl) (by kernel_rfl) (ac:=?_) ?_ g0 ?_;rotate_left
 ·simp only[strip,lI,eS,lH,RX.off,ckF,ckX,zOf,exd,vOf,aD,aC,bD,bC,aF,bA,aM,aF,bS,bY,dR,fT,bB,bI,aJ,aH,dZ,anyPre,Region.binds,aN,aS,aE,if_true,if_false,aX,aU,aI,aO,aZ,aK,aD,aC,List.append_nil];rfl
 ·simp -implicitDefEqProofs (disch:=omega) only[Tryz.f50,go_sem,List.replicate,simprocAttr,avw,elT,aW];have c:=cId hm (nodesT p) p hp (bK _) t l 100000 ht hpt hnt hu ha hl (by omega);generalize fJ s (nodesT p) p t l false=R at *
  refine wV c ?_ (fun hb'=>⟨hb',rfl⟩) (fun hb'=>?_)
  ·exact zv (zA2 @avw.eq_1 (zA2 @elT.eq_1 (zA2 @aW @cM.eq_1)))
  refine zh @avw.eq_1 ?_;exact⟨hb',.inl ⟨rfl,uG _⟩⟩
def pX(s:dX)(u:LSub):Nat→Bool
 |0=>true
 |k+1=>pX s u k&&(eQ (u.getD k default).1&&((decide (k=0)||Op.bytesLess (u.getD (k-1) default).1 (u.getD k default).1)&&gI s (u.getD k default).2))
def mK(s:dX)(u:LSub):Bool:=pX s u u.length
theorem V0{s:dX}{u:LSub}{k:Nat}(h:pX s u k=false):∀j,pX s u (k+j)=false
 |0=>h
 |j+1=>by rw[show k+(j+1)=k+j+1 by omega,pX,V0 h j];rfl
theorem aTj{s:dX}{u:LSub}{k:Nat}(hk:k≤u.length)(h:pX s u k=false):mK s u=false:=by
 have:=V0 h (u.length-k);rwa[show k+(u.length-k)=u.length by omega]at this
theorem aNn(s:dX)(u:LSub)(hs:Small s)(hu:OkU 1000000 u)(hn:∀p∈u,p.1.length≤140737488355328): CT 48 [cM s,avu u] (.b (mK s u)):=by
 refine eG cZ Tryz.func48 g0 ?_
 ·simp -implicitDefEqProofs (disch:=omega) only[Tryz.f48,go_sem,List.replicate,simprocAttr,avu];refine dF (fun(q:Nat×List AObj)=>(.k::.k::.k::.k::.j::.j::.j::.k::.k::.v (.i .i64 (q.1:Nat))::(rp 31 .j []))) (fun q=>q.2) (fun q=>q.1≤u.length∧pX s u q.1=true) (fun q=>u.length-q.1) ((0,[])) ⟨bJ _,rfl⟩ rfl (by simp[hZ]) ?_;rintro⟨k,g⟩ j ⟨hk,hb⟩;dsimp only at hk hb;by_cases hlt:k<u.length
  ·have hki:decide ((k:Int)<((u.length:Nat):Int))=true:=zt (by omega);have hm:=cT (d:=default) hlt;have hul:=hu.1;have hot:=hu.2 _ hm;have c1:=U0 (u.getD k default).1 (by have:=hn _ hm;omega);have c2:=aYw s (u.getD k default).2 hs hot;have hno:=fun h=>aTj (s:=s) (u:=u) (k:=k+1) (by omega) h;rw[pX,hb,aI]at hno;have hsk:pX s u (k+1)=(eQ (u.getD k default).1&&((decide (k=0)||Op.bytesLess (u.getD (k-1) default).1 (u.getD k default).1)&&gI s (u.getD k default).2)):=by rw[pX,hb,aI]
   refine zh (zA2 hki (zA2 @prT.eq_1 @aW)) ?_;repeat refine bX (by omega) ?_
   refine dA c1 ?_ ?_
   ·exact zu
   refine zg ?_;cases h1:eQ (u.getD k default).1 with
   |false=>
    refine zh (zA2 h1 aS) ?_;exact .inl ⟨by rw[hno (by rw[h1];rfl)],rfl⟩
   |true=>
    by_cases hk0:k=0
    ·have hk1:decide ((0:Int)<0)=false:=rfl;subst hk0;refine zh (zA2 h1 (zA2 hk1 aN)) ?_;repeat refine bX (by omega) ?_
     refine dA c2 ?_ ?_
     ·exact zv (zA2 @elT.eq_1 @aW)
     cases h2:gI s (u.getD 0 default).2 with
     |false=>
      refine zh (zA2 h2 aS) ?_;exact .inl ⟨by rw[hno (by rw[h1,h2,aM,aM])],rfl⟩
     |true=>
      refine zh (zA2 h2 aN) ?_;refine⟨(0+1,_),⟨by dsimp only;omega,by dsimp only;rw[hsk,h1,h2];simp⟩,by dsimp only;omega,rfl,by simp⟩
    ·have hk1:decide ((0:Int)<(k:Int))=true:=zt (by omega);have hw1:IntKind.i64.wrap ((k:Int)-1)=((k-1:Nat):Int):=by rw[wrap64 (by omega) (by omega)];omega
     have hp1:=aIf (u:=u) (k:=k-1) (by omega);refine zh (zA2 h1 (zA2 hk1 (zA2 hw1 (zA2 hp1 aN)))) ?_;repeat refine bX (by omega) ?_
     cases h3:Op.bytesLess (u.getD (k-1) default).1 (u.getD k default).1 with
     |false=>
      refine zh (zA2 h3 aS) ?_;exact .inl ⟨by rw[hno (by rw[h1,h3,zf hk0];rfl)],rfl⟩
     |true=>
      refine zh (zA2 h3 aN) ?_;repeat refine bX (by omega) ?_
      refine dA c2 ?_ ?_
      ·exact zv (zA2 @elT.eq_1 @aW)
      cases h2:gI s (u.getD k default).2 with
      |false=>
       refine zh (zA2 h2 aS) ?_;exact .inl ⟨by rw[hno (by rw[h1,h2,aM,aM])],rfl⟩
      |true=>
       refine zh (zA2 h2 aN) ?_;refine⟨(k+1,_),⟨by dsimp only;omega,by dsimp only;rw[hsk,h1,h2,h3];simp⟩,by dsimp only;omega,rfl,by simp⟩
  ·have hki:decide ((k:Int)<((u.length:Nat):Int))=false:=zf (by omega);obtain rfl:k=u.length:=by omega
   refine zh hki ?_;exact .inl ⟨by rw[mK,hb],rfl⟩
theorem bXs(u:LSub)(hu:OkU 1000000 u): CT 51 [avu u] (avu u):=by
 refine iS (rx:=true) (th:=fun _=>none) cZ Tryz.func51 g0 ?_
 ·simp -implicitDefEqProofs (disch:=omega) only[Tryz.f51,go_sem,List.replicate,simprocAttr,avu];refine dF (fun(q:Nat×AV×List AObj)=>(.k::.k::.k::.v (q.2.1)::.k::.j::.k::.k::.v (.i .i64 (q.1:Nat))::(rp 13 .j [.k]))) (fun q=>q.2.2) (fun q=>q.1≤u.length∧jI 7 0 q.2.2 q.2.1 ((u.take q.1).flatMap prT) (u.take q.1).length) (fun q=>u.length-q.1) ((0,.e0,[])) ⟨bJ _,kX⟩ rfl (by simp[hZ]) ?_;rintro⟨k,out,g⟩ j ⟨hk,ho⟩;dsimp only at hk ho;have hul:=hu.1;by_cases hlt:k<u.length
  ·have hki:decide ((k:Int)<((u.length:Nat):Int))=true:=zt (by omega);have hm:=cT (d:=default) hlt;have c2:=aYv (u.getD k default).2 (hu.2 _ hm);have hX:(u.take (k+1)).flatMap prT=(u.take k).flatMap prT++prT (u.getD k default):=qJ hlt;have hl:(u.take k).length≤1000000:=by rw[List.length_take];omega
   have hl2:(u.take (k+1)).length=(u.take k).length+1:=by rw[List.length_take,List.length_take];omega
   refine zh (zA2 hki (zA2 @prT.eq_1 @aW)) ?_;repeat refine bX (by omega) ?_
   refine dA c2 ?_ ?_
   ·exact zv (zA2 @elT.eq_1 @aW)
   refine zh (zA2 @elT.eq_1 (zA2 @aW (zA2 @tE (zA2 @fB.{0} (zA2 @fP.{0} @List.append_nil.{0}))))) ?_;refine gM (pre:=[]) (g:=g) (more:=[.box false (.s (u.getD k default).1::(tmC ((u.getD k default).2))),.arr false 7 (.s (u.getD k default).1::(tmC ((u.getD k default).2)))]) (news:=.s (u.getD k default).1::(tmC ((u.getD k default).2))) (m:=1) ho rfl ?_ cHw cGe cBh cIa rfl (by decide) ?_ ?_ ⟨by omega,by omega⟩ ?_
   ·simp only[aH,aJ,bU]
   ·exact zu
   ·exact zu
   intro out' g' ho' _;refine zg ?_;refine⟨(k+1,out',g'),⟨by dsimp only;omega,?_⟩,by dsimp only;omega,rfl,by simp⟩;dsimp only;rw[hX,hl2,prT,aW];exact ho'
  ·have hki:decide ((k:Int)<((u.length:Nat):Int))=false:=zf (by omega);rw[bE (by omega)]at ho;refine zh hki ?_;exact bJy (pre:=[]) ho lZ
theorem bKo(s:dX)(u:LSub)(hm:Small s)(hs:OkS s)(hu:OkU 1000000 u)(hn:∀p∈u,p.1.length≤140737488355328): CT 18 [.agg (dT s),avu u] (.b (kV s&&mK s u)):=by
 refine eG cZ Tryz.func18 g0 ?_
 ·simp -implicitDefEqProofs (disch:=omega) only[Tryz.f18,go_sem,List.replicate,simprocAttr,avu];have c3:=aNn s u hm hu hn;simp only[avu]at c3;have c1:=aQx s hm hs;cases hv:kV s with
  |true=>
   rw[hv]at c1;(refine zt3 c1 (aFx s hm (jR hv)) c3 ?_;repeat' first|exact trivial|refine zJ ?_ ?_|refine zH fun hc=>?_);all_goals exact bV rfl rfl
  |false=>
   rw[hv]at c1;(refine zt1 c1 ?_;repeat' first|exact trivial|refine zJ ?_ ?_|refine zH fun hc=>?_);all_goals exact bV rfl rfl
theorem bXw(u:LSub)(x:Str)(hu:OkU 1000000 u): CT 25 [avu u,.s x] (.tup [elT ((mOf u x).getD zT),.i .i64 (if(mOf u x).isSome=true then 0 else 4)]):=by
 refine eG cZ Tryz.func25 g0 ?_
 ·simp -implicitDefEqProofs (disch:=omega) only[Tryz.f25,go_sem,List.replicate,simprocAttr,avu];refine dF (fun(q:Nat×List AObj)=>(rp 5 .k (.j::.k::.j::.k::.k::.v (.i .i64 (q.1:Nat))::(rp 11 .j [.k])))) (fun q=>(.box false [.i .i64 0,.i .i64 0,.s [],.s [],.e0,.e0]::q.2)) (fun q=>q.1≤u.length∧∀j,j<q.1→¬(u.getD j default).1=x) (fun q=>u.length-q.1) ((0,[])) ⟨bJ _,fun j h=>absurd h (Nat.not_lt_zero j)⟩ rfl (by simp[hZ]) ?_;rintro⟨k,g⟩ j ⟨hk,hb⟩;dsimp only at hk hb;have hul:=hu.1;by_cases hlt:k<u.length
  ·have hki:decide ((k:Int)<((u.length:Nat):Int))=true:=zt (by omega);have hm:=cT (d:=default) hlt;have c2:=aYv (u.getD k default).2 (hu.2 _ hm);by_cases hx:(u.getD k default).1=x
   ·have e:=bEr hlt hb hx;rw[e];refine zh (zA2 hki (zA2 @prT.eq_1 (zA2 @aW (zt hx)))) ?_;repeat refine bX (by omega) ?_
    refine dA c2 ?_ ?_
    ·exact zv (zA2 @elT.eq_1 @aW)
    refine zh (zA2 @elT.eq_1 @aW) ?_;exact .inl ⟨rfl,by simp[pers,persL,iL]⟩
   ·refine zh (zA2 hki (zA2 @prT.eq_1 (zA2 @aW (zf hx)))) ?_;repeat refine bX (by omega) ?_
    refine⟨(k+1,_),⟨by dsimp only;omega,fun i hi=>?_⟩,by dsimp only;omega,rfl,by simp⟩;dsimp only at hi;rcases lK i k with h|h
    ·exact hb i h
    ·obtain rfl:i=k:=by omega
     exact hx
  ·have hki:decide ((k:Int)<((u.length:Nat):Int))=false:=zf (by omega);obtain rfl:k=u.length:=by omega
   rw[bEs hb];refine zh hki ?_;exact .inr ⟨⟨⟨rfl,rfl,rfl,rfl,rfl,rfl,trivial⟩,rfl,trivial⟩,fI,fun i hi=>by cases hi⟩
theorem yB{s:dX}{u:LSub}:∀{k:Nat},pX s u k=true→∀i,i<k→eQ (u.getD i default).1=true∧(i=0∨Op.bytesLess (u.getD (i-1) default).1 (u.getD i default).1=true)∧gI s (u.getD i default).2=true
 |0,_,i,hi=>by omega
 |k + 1,h,i,hi=>by
  rw[pX,aA]at h;rcases lK i k with h1|h1
  ·exact yB h.1 i h1
  ·obtain rfl:i=k:=by omega
   have h2:=h.2;simp only[aA,cC,decide_eq_true_eq]at h2;exact h2
theorem aWh{x y:Str}(h:Op.bytesLess x y=true):x<y:=by rw[bytesLess_eq]at h;exact of_decide_eq_true h
theorem vL{s:dX}{u:LSub}(h:mK s u=true):AscU u:=by
 have key:∀d i,i+d+1<u.length→(u.getD i default).1<(u.getD (i+d+1) default).1:=by
  intro d;induction d with
  |zero=>
   intro i hi;obtain⟨_,h2,_⟩:=yB h (i+0+1) hi;have h2:=h2.resolve_left (by omega);rw[show i+0+1-1=i by omega]at h2;exact aWh h2
  |succ d ih=>
   intro i hi;obtain⟨_,h2,_⟩:=yB h (i+(d+1)+1) hi;have h2:=h2.resolve_left (by omega);rw[show i+(d+1)+1-1=i+d+1 by omega]at h2;exact mS (ih i (by omega)) (aWh h2)
 refine dQ.2 fun i j hi hj hij=>?_;have:=key (j-i-1) i (by omega);rw[show i+(j-i-1)+1=j by omega]at this;simpa[List.getD,hi,hj]using this
end Go.Proofs.YtdjcggcjlphdoaaGreatDoor
namespace Go.Proofs.YtdjcggcjlphdoaaGreatDoor
open Go.Vo Go
section
variable {P:Program} (w:World)
theorem cEs{T:TypeId}{ms}(h:P.underlying T=some (.interface ms)):(binOp .eql T .nilIface .nilIface).run P w=.ok (.bool true) w:=by
 have h1:(Op.equalIn 10000 T .nilIface .nilIface).run P w=.ok true w:=by
  unfold Op.equalIn;rw[cD,run_underlying h];rfl
 have h2:(Go.binOp .eql T .nilIface .nilIface).run P w=.ok (.bool true) w:=by
  simp only[Go.binOp,Op.equal,Op.maxDepth];simp[h1]
 exact h2
theorem cEt{T:TypeId}{ms}{U:TypeId}{v:Value}(h:P.underlying T=some (.interface ms)):(binOp .eql T (.iface U v) .nilIface).run P w=.ok (.bool false) w:=by
 have h1:(Op.equalIn 10000 T (.iface U v) .nilIface).run P w=.ok false w:=by
  unfold Op.equalIn;rw[cD,run_underlying h];rfl
 have h2:(Go.binOp .eql T (.iface U v) .nilIface).run P w=.ok (.bool false) w:=by
  simp only[Go.binOp,Op.equal,Op.maxDepth];simp[h1]
 exact h2
end
theorem aRd(p:Addr)(w:World):CallsD Tryz.prog 49 #[.pointer (some p)] .returning w fun e u' w'=>e=.returned (.tuple #[])∧u'=.returning∧w'=w:=by
 refine callsD_of_wpS Tryz.func49 rfl fun c₀ cs hu=>?_;apply wpS_seq;apply wpS_region;simp[wpOpsS,go_sem,recoverD,hu,Tryz.ntmps49,Exit.thenS,Array.replicate,List.replicate];refine wpS_of_wp ?_;have hb:=cEs (P:=Tryz.prog) w Tryz.underlying20;apply wp_block;apply wp_seq;apply wp_region;simp[wpOps,Region.wanted,Oper.wp,Oper.upon,execOp,Act.eval,eqGuard,hb,Result.andThen,Act.put,Exit.then];refine Or.inl (wp_cond (t:=true) rfl ?_);simp only[if_true];apply wp_region;simp[wpOps,Region.wanted,Oper.wp,Oper.upon,execOp,Act.eval,Result.andThen,Act.put,Exit.then];refine Or.inl ?_;cases c₀;simp_all[Exit.inBlock,bodyPostS,results,Tryz.results49]
section
variable {P:Program} (w:World)
theorem cCn{A U X:TypeId}{v z:Value}{k}(h:P.underlying A=some (.int k))(hU:U≠A)(hz:(zeroValue A).run P w=.ok z w):(Instr.typeAssert (.iface U v) X A true).run P w=.ok (.tuple #[z,.bool false]) w:=by
 unfold Instr.typeAssert;simp only[cD,run_underlying h,bO,hU,if_false,if_true,hz];rfl
theorem bTy{U X:TypeId}{v:Value}{fs}(h:P.underlying U=some (.struct fs)):(Instr.typeAssert (.iface U v) X U true).run P w=.ok (.tuple #[v,.bool true]) w:=by
 unfold Instr.typeAssert;simp only[cD,run_underlying h,bO,if_true];rfl
end
theorem aRc(p:Addr)(x:Value)(older:List PanicEntry)(w:World)(hc:(w.alloc (.cells #[] 138)).cell? p=some x)(hz:(w.alloc (.cells #[] 138)).frozen? p=false) :
 CallsD Tryz.prog 49 #[.pointer (some p)] (.panicking ({v:=.iface 138 (.agg #[]),recovered:=false}::older)) w fun e u' w'=>e=.returned (.tuple #[])∧u'=.panicking ({v:=.iface 138 (.agg #[]),recovered:=true}::older)∧w'=(w.alloc (.cells #[] 138)).setCell p (.int .i64 3):=by
 refine callsD_of_wpS Tryz.func49 rfl fun c₀ cs hu=>?_;apply wpS_seq;apply wpS_region;simp[wpOpsS,go_sem,recoverD,hu,Tryz.ntmps49,Exit.thenS,Array.replicate,List.replicate];refine wpS_of_wp ?_;have hb:=cEt (P:=Tryz.prog) (U:=138) (v:=.agg #[]) w Tryz.underlying20;have h1:=cCn (P:=Tryz.prog) (A:=38) (U:=138) (v:=.agg #[]) (X:=20) w Tryz.underlying38 (by decide) (Tryz.zeroValue38 w);have h2:=bTy (P:=Tryz.prog) (U:=138) (v:=.agg #[]) (X:=20) w Tryz.underlying138;apply wp_block;apply wp_seq;apply wp_region;simp[wpOps,Region.wanted,Oper.wp,Oper.upon,execOp,Act.eval,eqGuard,hb,Result.andThen,Act.put,Exit.then];refine Or.inl (wp_cond (t:=false) rfl ?_);simp only[aE,if_false];apply wp_seq;apply wp_region;simp[wpOps,Region.wanted,Oper.wp,Oper.upon,execOp,Act.eval,Result.andThen,Act.put,Exit.then,h1,go_sem];refine .inl (.inl (.inl (wp_cond (t:=false) rfl ?_)));simp only[aE,if_false];apply wp_seq;apply wp_region;simp[wpOps,Region.wanted,Oper.wp,Oper.upon,execOp,Act.eval,Result.andThen,Act.put,Exit.then,h2,go_sem];refine .inl (.inl (.inl (wp_cond (t:=true) rfl ?_)));simp only[if_true];apply wp_seq;apply wp_region;simp[wpOps,Region.wanted,Oper.wp,Oper.upon,execOp,Act.eval,Result.andThen,Act.put,Exit.then,go_sem,Tryz.zeroValue138];generalize hW:w.alloc (.cells #[] 138)=W at *
 refine .inl (.inl (wp_region ?_));simp[wpOps,Region.wanted,Oper.wp,Oper.upon,execOp,Act.eval,Result.andThen,Act.put,Exit.then,go_sem,hc,hz];refine .inl (.inl ?_);cases c₀;simp_all[Exit.inBlock,bodyPostS,results,Tryz.results49]
end Go.Proofs.YtdjcggcjlphdoaaGreatDoor

/-
  Functions of the chapter, as plain functions of what they are given; no condition.
-/
import Derived.Test.YtdjcggcjlphdoaaGreatDoorVcP73
import Derived.Test.YtdjcggcjlphdoaaGreatDoorProg
import Derived.Test.YtdjcggcjlphdoaaGreatDoorVoP71
import Derived.Recover
import Derived.Tactics
import Derived.Tactics2
import Derived.Defers
import Derived.Laws.Pointers
set_option maxRecDepth 100000
set_option linter.unusedSimpArgs false
set_option linter.unusedVariables false
set_option maxHeartbeats 4000000
namespace Go.Proofs.YtdjcggcjlphdoaaGreatDoor
open Go Go.Vo
open Nat (reduceAdd reduceSub reduceMul reduceLeDiff reduceLT reduceEqDiff)
open Int (reduceNeg)
theorem bRi(s : dK)(n:Nat)(p t:LTerm)(l:List LSub)(m:Nat)(hm:Small s)(hA:∀q∈p.kids,bPc s n q)(hp:OkN p)(hp7:p.kind=7)(hpl1:p.kids.length≤1000000)(ht:OkN t)(hpl:∀x∈t.kids,jW s x=true)(hnk:∀x∈t.kids,nodesT x≤1000000)(htl:t.kids.length≤1000000)(hu:E2 m l)(ha:nJ l)(hl:l.length≤1000)(hmm:m+nodesT p≤1000000): aFx Tryz.prog G0 167 [.agg [bQ s],avw l,elT p,elT t] (avw (fM s (n+1) p t l false).1) (fM s (n+1) p t l false).2 vX:=by
 refine kT (rx:=true) (th:=fun i=>if i=11 then some ⟨none,[],false,false,true,[],[],8⟩else if i=18 then some ⟨none,[],false,false,true,[],[],8⟩else none) dE Tryz.func167 rfl (by kernel_rfl) (by kernel_rfl) (ac:=?_) ?_ g0 ?_;rotate_left
 ·simp only[strip,kV,eR,kU,RX.off,ckF,ckX,zOf,exd,vOf,aH,aG,bH,bG,aK,bA,aS,aK,bT,bY,dP,fQ,bD,bM,aE,aC,eB,anyPre,Region.binds,aA,aB,aI,if_true,if_false,aY,aW,aR,aT,aZ,aQ,aH,aG,List.append_nil,aLq,vQ,rR,rC,cU,cD,cG,aK,bH,bG,dD,beq_self_eq_true,fY,Nat.reduceBEq,qK,pH,qH,jX,aHu,fD,gE,bT,cX,Z2,Z1,↓reduceIte,Nat.reduceEqDiff,Nat.reduceBEq,mJ,nP,oH,splitK,vY,D9,aG,fD,gE,aA,aB,bA,aR,aS,bH,bG];rfl
 ·simp -implicitDefEqProofs (disch:=omega) only[Tryz.f167,go_sem,List.replicate,simprocAttr,avw,elT,aL];have h75:¬p.kind=5:=by omega
  have h78:¬(7:Int)=8:=by decide
  have hpx:=aZi hp (.inl hp7);by_cases hk:t.kind=7
  ·have htx := aZi ht (.inl hk)
   by_cases hle:p.kids.length≤t.kids.length
   ·by_cases hex:p.rest.length=0→t.kids.length≤p.kids.length
    ·have e:fM s (n+1) p t l false=if 0<p.rest.length then D6 s (p.rest.getD 0 default) (.mk 7 0 [] [] (t.kids.drop p.kids.length) []) (jT (fM s n) p.kids t.kids l false).1 (jT (fM s n) p.kids t.kids l false).2 else jT (fM s n) p.kids t.kids l false:=by
      rw[fM,if_neg h75,if_pos hp7,if_pos ⟨hk,hle,hex⟩,aGj]
     have hpanE:(jT (fM s n) p.kids t.kids l false).2=true→(fM s (n+1) p t l false).2=true:=fun h=>by
      rw[e];split
      ·rw[h];exact G6
      ·exact h
     have hst0:∀{b:Bool},jT (fM s n) p.kids t.kids l false=([],b)→b=false→fM s (n+1) p t l false=([],false):=fun h hb=>by
      subst hb;rw[e,h];split<;>rfl
     have hno:=eW p;have hi1:decide (((t.kids.length:Nat):Int)<((p.kids.length:Nat):Int))=false:=zf (by omega);have hpan:=fun k=>aJr (A:=fM s n) (aIr n) (ps:=p.kids) (ts:=t.kids) (l:=l) (b:=false) k;have hstop:=fun k=>aJq (A:=fM s n) (aMl n) (ps:=p.kids) (ts:=t.kids) (l:=l) (b:=false) k;have hfin:jT (fM s n) (p.kids.take p.kids.length) (t.kids.take p.kids.length) l false=jT (fM s n) p.kids t.kids l false:=by rw[fH,aGj]
     have hcond:(decide (((p.kids.length:Nat):Int)<((t.kids.length:Nat):Int))=false)∨(decide (((p.rest.length:Nat):Int)=0)=false):=by
      by_cases h0:p.rest.length=0
      ·exact .inl (zf (by have:=hex h0;omega))
      ·exact .inr (zf (by omega))
     obtain⟨ok1,ok2⟩:=I2 (A:=fM s n) (ps:=p.kids) (ts:=t.kids) (b:=false) (fun q _=>tQ n q) (fun x h=>ht.kid h) hu hl;have ok3:=tP (A:=fM s n) (zR n) (ps:=p.kids) (ts:=t.kids) (b:=false) ha;generalize hTb:fM s (n+1) p t l false=TB at *
     by_cases hi2:((p.kids.length:Nat):Int)<((t.kids.length:Nat):Int)
     ·have hr0:decide (((p.rest.length:Nat):Int)=0)=false:=zf (fun h=>by have:=hex (by omega);omega);simp -implicitDefEqProofs (disch:=omega) only[hp7,hk,hpx,htx,zf h78,hi1,zt hi2,hr0,go_sem,simprocAttr];refine dV (fun(q:Nat×List AObj)=>[.k,.v (.sl ((jT (fM s n) (p.kids.take q.1) (t.kids.take q.1) l false).1.map avu) (jT (fM s n) (p.kids.take q.1) (t.kids.take q.1) l false).1.length),.k,.k,.k,.k,.k,.k,.j,.k,.j,.j,.k,.k,.k,.k,.k,.k,.k,.k,.k,.k,.k,.k,.k,.k,.k,.k,.k,.k,.k,.k,.k,.k,.k,.k,.k,.k,.k,.k,.k,.k,.k,.k,.k,.k,.k,.k,.k,.k,.k,.k,.k,.k,.k,.k,.k,.k,.k,.k,.v (.i .i64 (q.1:Nat)),.j,.j,.j,.j,.j,.j,.j,.j,.j,.j,.j,.j,.j,.j,.j,.j,.j,.k,.k,.k,.k,.k,.k,.k,.k,.k,.k,.k,.k,.k,.k,.k,.k,.k,.k]) (fun q=>(.box false [bQ s]::.box false [.i .i64 7,.i .i64 p.n,.s [],.s p.sort,.sl (p.kids.flatMap aU) p.kids.length,.sl (p.rest.flatMap aU) p.rest.length]::.box false [.i .i64 7,.i .i64 t.n,.s [],.s t.sort,.sl (t.kids.flatMap aU) t.kids.length,.sl (t.rest.flatMap aU) t.rest.length]::q.2)) (fun q=>q.1≤p.kids.length∧(jT (fM s n) (p.kids.take q.1) (t.kids.take q.1) l false).2=false) (fun q=>p.kids.length-q.1) ((0,[])) ⟨bX _,by simp[jT]⟩ rfl (by simp[iS]) ?_;rintro⟨k,g⟩ j ⟨hkl,hb⟩;dsimp only at hkl hb;by_cases hlt:k<p.kids.length
      ·have hki:decide ((k:Int)<((p.kids.length:Nat):Int))=true:=zt (by omega);have hkt:k<t.kids.length:=by omega
       have hpk:=cS (d:=default) hlt;have htk:=cS (d:=default) hkt;have er:=E3 (A:=fM s n) (l:=l) (b:=false) hlt hkt;have hn1:=oM hlt;have hn2:=iU (l:=p.kids) (k:=k+1);obtain⟨r1,r2⟩:=I2 (A:=fM s n) (ps:=p.kids.take k) (ts:=t.kids.take k) (b:=false) (fun q _=>tQ n q) (fun x h=>ht.kid (dI h)) hu hl;have r3:=tP (A:=fM s n) (zR n) (ps:=p.kids.take k) (ts:=t.kids.take k) (b:=false) ha;have c:=hA _ hpk (t.kids.getD k default) _ (m+nodesL (p.kids.take k)) (ht.kid htk) (hpl _ htk) (hnk _ htk) r1 r3 r2 (by omega);have hp1:=hpan (k+1);have hs1:=hstop (k+1);rw[hb]at er;rw[er]at hp1 hs1;generalize hR:fM s n (p.kids.getD k default) (t.kids.getD k default) (jT (fM s n) (p.kids.take k) (t.kids.take k) l false).1 false=R at *
       simp -implicitDefEqProofs (disch:=omega) only[hki,go_sem,simprocAttr];repeat refine bE (by omega) ?_
       refine vH c ?_ (fun hb'=>⟨hpanE (hp1 hb'),rfl⟩) (fun hb'=>?_)
       ·simp -implicitDefEqProofs (disch:=omega) only[avw,elT,aL,bQ,go_sem,simprocAttr]
       by_cases hR0:R.1=[]
       ·have hz:decide (((R.1.length:Nat):Int)=0)=true:=zt (by rw[hR0];rfl);simp -implicitDefEqProofs (disch:=omega) only[avw,hz,go_sem,simprocAttr];have hz0:=hs1 hR0;rw[hst0 hz0 hb'];exact⟨rfl,oQ⟩
       ·have hz:decide (((R.1.length:Nat):Int)=0)=false:=zf (fun h=>hR0 (List.eq_nil_of_length_eq_zero (by omega)));simp -implicitDefEqProofs (disch:=omega) only[avw,hz,go_sem,simprocAttr];refine⟨(k+1,_),⟨by dsimp only;omega,by dsimp only;rw[er];exact hb'⟩,by dsimp only;omega,rfl,?_⟩;dsimp only;rw[er];exact⟨rfl,rfl⟩
      ·have hki:decide ((k:Int)<((p.kids.length:Nat):Int))=false:=zf (by omega);obtain rfl:k=p.kids.length:=by omega
       rw[hfin]at hb ⊢;simp -implicitDefEqProofs (disch:=omega) only[hki,go_sem,simprocAttr];by_cases h0:p.rest.length=0
       ·have hr1:decide ((0:Int)<((p.rest.length:Nat):Int))=false:=zf (by omega);refine dV (fun(q:Unit)=>[.k,.v (.sl ((jT (fM s n) p.kids t.kids l false).1.map avu) (jT (fM s n) p.kids t.kids l false).1.length),.k,.k,.k,.k,.k,.k,.k,.k,.k,.k,.k,.j,.k,.k,.k,.k,.k,.k,.k,.k,.k,.k,.k,.k,.k,.k,.k,.k,.k,.k,.k,.k,.k,.k,.k,.k,.k,.k,.k,.k,.k,.k,.k,.k,.k,.k,.k,.k,.k,.k,.k,.k,.k,.k,.k,.k,.k,.k,.k,.k,.k,.k,.k,.k,.k,.k,.k,.k,.k,.k,.k,.k,.k,.k,.k,.k,.k,.k,.k,.v (.i .i64 0),.j,.j,.j,.j,.j,.j,.j,.j,.j,.j,.j,.j,.j,.k]) (fun q=>(.box false [bQ s]::.box false [.i .i64 7,.i .i64 p.n,.s [],.s p.sort,.sl (p.kids.flatMap aU) p.kids.length,.sl (p.rest.flatMap aU) p.rest.length]::.box false [.i .i64 7,.i .i64 t.n,.s [],.s t.sort,.sl (t.kids.flatMap aU) t.kids.length,.sl (t.rest.flatMap aU) t.rest.length]::g)) (fun q=>True) (fun q=>0) (()) trivial rfl (by simp[iS]) ?_;rintro⟨⟩ j7 -
        simp -implicitDefEqProofs (disch:=omega) only[hr1,go_sem,simprocAttr];rw[e,if_neg (by omega)];exact⟨hb,.inl ⟨rfl,sQ _⟩⟩
       ·obtain⟨r,hr,hr6⟩:=(bJz hp (.inl hp7)).resolve_left (fun h=>h0 (by rw[h];rfl));have hrl:p.rest.length=1:=by rw[hr];rfl
        have hrk:(p.rest.getD 0 default).kind=6:=by rw[hr];exact hr6
        have hro:OkT (p.rest.getD 0 default):=hp.1.rst _ (cS (by omega));have hn9:=iU (l:=p.kids) (k:=p.kids.length);have c:=aAj s (jT (fM s n) p.kids t.kids l false).1 (p.rest.getD 0 default) (.mk 7 0 [] [] (t.kids.drop p.kids.length) []) (m+nodesL p.kids) hm ok2 ok1 ok3 (by omega) hro (aDg (fun x hx=>(ht.kid (gK hx)).1) (by rw[dS];omega)) (by omega) (by omega) (by omega);have hf1:=qM (s:=s) (p:=p.rest.getD 0 default) (t:=.mk 7 0 [] [] (t.kids.drop p.kids.length) []) (l:=(jT (fM s n) p.kids t.kids l false).1);rw[if_pos (by omega),hb,D6,sW,if_neg (by omega)]at e;have q1:List.drop (p.kids.length*6) (t.kids.flatMap aU)=(t.kids.drop p.kids.length).flatMap aU:=aCc;generalize jT (fM s n) p.kids t.kids l false=RW at *
        rw[e];refine dV (fun(q:Nat×List LSub×List AObj)=>[.k,.v (.sl (q.2.1.map avu) q.2.1.length),.k,.k,.k,.k,.k,.k,.k,.k,.k,.k,.k,.j,.k,.k,.k,.k,.k,.k,.k,.k,.k,.k,.k,.k,.k,.k,.k,.k,.k,.k,.k,.k,.k,.k,.k,.k,.k,.k,.k,.k,.k,.k,.k,.k,.k,.k,.k,.k,.k,.k,.k,.k,.k,.k,.k,.k,.k,.k,.k,.k,.k,.k,.k,.k,.k,.k,.k,.k,.k,.k,.k,.k,.k,.k,.k,.k,.k,.k,.k,.v (.i .i64 (q.1:Nat)),.j,.j,.j,.j,.j,.j,.j,.j,.j,.j,.j,.j,.j,.k]) (fun q=>(.box false [bQ s]::.box false [.i .i64 7,.i .i64 p.n,.s [],.s p.sort,.sl (p.kids.flatMap aU) p.kids.length,.sl (p.rest.flatMap aU) p.rest.length]::.box false [.i .i64 7,.i .i64 t.n,.s [],.s t.sort,.sl (t.kids.flatMap aU) t.kids.length,.sl (t.rest.flatMap aU) t.rest.length]::q.2.2)) (fun q=>(q.1=0∧q.2.1=RW.1)∨(q.1=1∧q.2.1=RW.1.flatMap (iJ s (p.rest.getD 0 default) (.mk 7 0 [] [] (t.kids.drop p.kids.length) [])))) (fun q=>1-q.1) ((0,RW.1,g)) (.inl ⟨rfl,rfl⟩) rfl (by simp[iS]) ?_;rintro⟨x,v,g6⟩ j7 hq;dsimp only at hq;rcases hq with⟨rfl,rfl⟩|⟨rfl,rfl⟩
        ·have hr1:decide ((0:Int)<((p.rest.length:Nat):Int))=true:=zt (by omega);simp -implicitDefEqProofs (disch:=omega) only[hr1,q1,go_sem,simprocAttr];repeat refine bE (by omega) ?_
         refine bJ c ?_ ?_
         ·simp -implicitDefEqProofs (disch:=omega) only[avw,elT,aL,bQ,avt,List.flatMap_nil,bZ,go_sem,simprocAttr]
         simp -implicitDefEqProofs (disch:=omega) only[avw,go_sem,simprocAttr];exact⟨(1,RW.1.flatMap (iJ s (p.rest.getD 0 default) (.mk 7 0 [] [] (t.kids.drop p.kids.length) [])),_),.inr ⟨rfl,rfl⟩,by dsimp only;omega,rfl,rfl,rfl⟩
        ·have hr1:decide (((1:Nat):Int)<((p.rest.length:Nat):Int))=false:=zf (by omega);have hr2:decide ((1:Int)<((p.rest.length:Nat):Int))=false:=hr1;simp -implicitDefEqProofs (disch:=omega) only[hr1,hr2,go_sem,simprocAttr];exact .inl ⟨rfl,sQ _⟩
     ·skip;simp -implicitDefEqProofs (disch:=omega) only[hp7,hk,hpx,htx,zf h78,hi1,zf hi2,go_sem,simprocAttr];refine dV (fun(q:Nat×List AObj)=>[.k,.v (.sl ((jT (fM s n) (p.kids.take q.1) (t.kids.take q.1) l false).1.map avu) (jT (fM s n) (p.kids.take q.1) (t.kids.take q.1) l false).1.length),.k,.k,.k,.k,.k,.k,.j,.k,.j,.j,.k,.k,.k,.k,.k,.k,.k,.k,.k,.k,.k,.k,.k,.k,.k,.k,.k,.k,.k,.k,.k,.k,.k,.k,.k,.k,.k,.k,.k,.k,.k,.k,.k,.k,.k,.k,.k,.k,.k,.k,.k,.k,.k,.k,.k,.k,.k,.k,.v (.i .i64 (q.1:Nat)),.j,.j,.j,.j,.j,.j,.j,.j,.j,.j,.j,.j,.j,.j,.j,.j,.j,.k,.k,.k,.k,.k,.k,.k,.k,.k,.k,.k,.k,.k,.k,.k,.k,.k,.k]) (fun q=>(.box false [bQ s]::.box false [.i .i64 7,.i .i64 p.n,.s [],.s p.sort,.sl (p.kids.flatMap aU) p.kids.length,.sl (p.rest.flatMap aU) p.rest.length]::.box false [.i .i64 7,.i .i64 t.n,.s [],.s t.sort,.sl (t.kids.flatMap aU) t.kids.length,.sl (t.rest.flatMap aU) t.rest.length]::q.2)) (fun q=>q.1≤p.kids.length∧(jT (fM s n) (p.kids.take q.1) (t.kids.take q.1) l false).2=false) (fun q=>p.kids.length-q.1) ((0,[])) ⟨bX _,by simp[jT]⟩ rfl (by simp[iS]) ?_;rintro⟨k,g⟩ j ⟨hkl,hb⟩;dsimp only at hkl hb;by_cases hlt:k<p.kids.length
      ·have hki:decide ((k:Int)<((p.kids.length:Nat):Int))=true:=zt (by omega);have hkt:k<t.kids.length:=by omega
       have hpk:=cS (d:=default) hlt;have htk:=cS (d:=default) hkt;have er:=E3 (A:=fM s n) (l:=l) (b:=false) hlt hkt;have hn1:=oM hlt;have hn2:=iU (l:=p.kids) (k:=k+1);obtain⟨r1,r2⟩:=I2 (A:=fM s n) (ps:=p.kids.take k) (ts:=t.kids.take k) (b:=false) (fun q _=>tQ n q) (fun x h=>ht.kid (dI h)) hu hl;have r3:=tP (A:=fM s n) (zR n) (ps:=p.kids.take k) (ts:=t.kids.take k) (b:=false) ha;have c:=hA _ hpk (t.kids.getD k default) _ (m+nodesL (p.kids.take k)) (ht.kid htk) (hpl _ htk) (hnk _ htk) r1 r3 r2 (by omega);have hp1:=hpan (k+1);have hs1:=hstop (k+1);rw[hb]at er;rw[er]at hp1 hs1;generalize hR:fM s n (p.kids.getD k default) (t.kids.getD k default) (jT (fM s n) (p.kids.take k) (t.kids.take k) l false).1 false=R at *
       simp -implicitDefEqProofs (disch:=omega) only[hki,go_sem,simprocAttr];repeat refine bE (by omega) ?_
       refine vH c ?_ (fun hb'=>⟨hpanE (hp1 hb'),rfl⟩) (fun hb'=>?_)
       ·simp -implicitDefEqProofs (disch:=omega) only[avw,elT,aL,bQ,go_sem,simprocAttr]
       by_cases hR0:R.1=[]
       ·have hz:decide (((R.1.length:Nat):Int)=0)=true:=zt (by rw[hR0];rfl);simp -implicitDefEqProofs (disch:=omega) only[avw,hz,go_sem,simprocAttr];have hz0:=hs1 hR0;rw[hst0 hz0 hb'];exact⟨rfl,oQ⟩
       ·have hz:decide (((R.1.length:Nat):Int)=0)=false:=zf (fun h=>hR0 (List.eq_nil_of_length_eq_zero (by omega)));simp -implicitDefEqProofs (disch:=omega) only[avw,hz,go_sem,simprocAttr];refine⟨(k+1,_),⟨by dsimp only;omega,by dsimp only;rw[er];exact hb'⟩,by dsimp only;omega,rfl,?_⟩;dsimp only;rw[er];exact⟨rfl,rfl⟩
      ·have hki:decide ((k:Int)<((p.kids.length:Nat):Int))=false:=zf (by omega);obtain rfl:k=p.kids.length:=by omega
       rw[hfin]at hb ⊢;simp -implicitDefEqProofs (disch:=omega) only[hki,go_sem,simprocAttr];by_cases h0:p.rest.length=0
       ·have hr1:decide ((0:Int)<((p.rest.length:Nat):Int))=false:=zf (by omega);refine dV (fun(q:Unit)=>[.k,.v (.sl ((jT (fM s n) p.kids t.kids l false).1.map avu) (jT (fM s n) p.kids t.kids l false).1.length),.k,.k,.k,.k,.k,.k,.k,.k,.k,.k,.k,.j,.k,.k,.k,.k,.k,.k,.k,.k,.k,.k,.k,.k,.k,.k,.k,.k,.k,.k,.k,.k,.k,.k,.k,.k,.k,.k,.k,.k,.k,.k,.k,.k,.k,.k,.k,.k,.k,.k,.k,.k,.k,.k,.k,.k,.k,.k,.k,.k,.k,.k,.k,.k,.k,.k,.k,.k,.k,.k,.k,.k,.k,.k,.k,.k,.k,.k,.k,.v (.i .i64 0),.j,.j,.j,.j,.j,.j,.j,.j,.j,.j,.j,.j,.j,.k]) (fun q=>(.box false [bQ s]::.box false [.i .i64 7,.i .i64 p.n,.s [],.s p.sort,.sl (p.kids.flatMap aU) p.kids.length,.sl (p.rest.flatMap aU) p.rest.length]::.box false [.i .i64 7,.i .i64 t.n,.s [],.s t.sort,.sl (t.kids.flatMap aU) t.kids.length,.sl (t.rest.flatMap aU) t.rest.length]::g)) (fun q=>True) (fun q=>0) (()) trivial rfl (by simp[iS]) ?_;rintro⟨⟩ j7 -
        simp -implicitDefEqProofs (disch:=omega) only[hr1,go_sem,simprocAttr];rw[e,if_neg (by omega)];exact⟨hb,.inl ⟨rfl,sQ _⟩⟩
       ·obtain⟨r,hr,hr6⟩:=(bJz hp (.inl hp7)).resolve_left (fun h=>h0 (by rw[h];rfl));have hrl:p.rest.length=1:=by rw[hr];rfl
        have hrk:(p.rest.getD 0 default).kind=6:=by rw[hr];exact hr6
        have hro:OkT (p.rest.getD 0 default):=hp.1.rst _ (cS (by omega));have hn9:=iU (l:=p.kids) (k:=p.kids.length);have c:=aAj s (jT (fM s n) p.kids t.kids l false).1 (p.rest.getD 0 default) (.mk 7 0 [] [] (t.kids.drop p.kids.length) []) (m+nodesL p.kids) hm ok2 ok1 ok3 (by omega) hro (aDg (fun x hx=>(ht.kid (gK hx)).1) (by rw[dS];omega)) (by omega) (by omega) (by omega);have hf1:=qM (s:=s) (p:=p.rest.getD 0 default) (t:=.mk 7 0 [] [] (t.kids.drop p.kids.length) []) (l:=(jT (fM s n) p.kids t.kids l false).1);rw[if_pos (by omega),hb,D6,sW,if_neg (by omega)]at e;have q1:List.drop (p.kids.length*6) (t.kids.flatMap aU)=(t.kids.drop p.kids.length).flatMap aU:=aCc;generalize jT (fM s n) p.kids t.kids l false=RW at *
        rw[e];refine dV (fun(q:Nat×List LSub×List AObj)=>[.k,.v (.sl (q.2.1.map avu) q.2.1.length),.k,.k,.k,.k,.k,.k,.k,.k,.k,.k,.k,.j,.k,.k,.k,.k,.k,.k,.k,.k,.k,.k,.k,.k,.k,.k,.k,.k,.k,.k,.k,.k,.k,.k,.k,.k,.k,.k,.k,.k,.k,.k,.k,.k,.k,.k,.k,.k,.k,.k,.k,.k,.k,.k,.k,.k,.k,.k,.k,.k,.k,.k,.k,.k,.k,.k,.k,.k,.k,.k,.k,.k,.k,.k,.k,.k,.k,.k,.k,.v (.i .i64 (q.1:Nat)),.j,.j,.j,.j,.j,.j,.j,.j,.j,.j,.j,.j,.j,.k]) (fun q=>(.box false [bQ s]::.box false [.i .i64 7,.i .i64 p.n,.s [],.s p.sort,.sl (p.kids.flatMap aU) p.kids.length,.sl (p.rest.flatMap aU) p.rest.length]::.box false [.i .i64 7,.i .i64 t.n,.s [],.s t.sort,.sl (t.kids.flatMap aU) t.kids.length,.sl (t.rest.flatMap aU) t.rest.length]::q.2.2)) (fun q=>(q.1=0∧q.2.1=RW.1)∨(q.1=1∧q.2.1=RW.1.flatMap (iJ s (p.rest.getD 0 default) (.mk 7 0 [] [] (t.kids.drop p.kids.length) [])))) (fun q=>1-q.1) ((0,RW.1,g)) (.inl ⟨rfl,rfl⟩) rfl (by simp[iS]) ?_;rintro⟨x,v,g6⟩ j7 hq;dsimp only at hq;rcases hq with⟨rfl,rfl⟩|⟨rfl,rfl⟩
        ·have hr1:decide ((0:Int)<((p.rest.length:Nat):Int))=true:=zt (by omega);simp -implicitDefEqProofs (disch:=omega) only[hr1,q1,go_sem,simprocAttr];repeat refine bE (by omega) ?_
         refine bJ c ?_ ?_
         ·simp -implicitDefEqProofs (disch:=omega) only[avw,elT,aL,bQ,avt,List.flatMap_nil,bZ,go_sem,simprocAttr]
         simp -implicitDefEqProofs (disch:=omega) only[avw,go_sem,simprocAttr];exact⟨(1,RW.1.flatMap (iJ s (p.rest.getD 0 default) (.mk 7 0 [] [] (t.kids.drop p.kids.length) [])),_),.inr ⟨rfl,rfl⟩,by dsimp only;omega,rfl,rfl,rfl⟩
        ·have hr1:decide (((1:Nat):Int)<((p.rest.length:Nat):Int))=false:=zf (by omega);have hr2:decide ((1:Int)<((p.rest.length:Nat):Int))=false:=hr1;simp -implicitDefEqProofs (disch:=omega) only[hr1,hr2,go_sem,simprocAttr];exact .inl ⟨rfl,sQ _⟩
    ·have h0:p.rest.length=0:=P2 fun h=>hex fun h'=>absurd h' h;have hgt:p.kids.length<t.kids.length:=by
      rcases fP p.kids.length t.kids.length with h|h
      ·exact h
      ·exact absurd (fun _=>h) hex
     have e:fM s (n+1) p t l false=([],false):=by rw[fM,if_neg h75,if_pos hp7,if_neg (fun h=>hex h.2.2)]
     have hi1:decide (((t.kids.length:Nat):Int)<((p.kids.length:Nat):Int))=false:=zf (by omega);have hi2:decide (((p.kids.length:Nat):Int)<((t.kids.length:Nat):Int))=true:=zt (by omega);have hr0:decide (((p.rest.length:Nat):Int)=0)=true:=zt (by omega);rw[e];simp -implicitDefEqProofs (disch:=omega) only[hp7,hk,hpx,htx,zf h78,hi1,hi2,hr0,go_sem,simprocAttr];exact oQ
   ·have e:fM s (n+1) p t l false=([],false):=by rw[fM,if_neg h75,if_pos hp7,if_neg (fun h=>hle h.2.1)]
    have hi1:decide (((t.kids.length:Nat):Int)<((p.kids.length:Nat):Int))=true:=zt (by omega);rw[e];simp -implicitDefEqProofs (disch:=omega) only[hp7,hk,hpx,htx,zf h78,hi1,go_sem,simprocAttr];exact oQ
  ·have hk':¬(7:Int)=t.kind:=fun h=>hk h.symm;have e:fM s (n+1) p t l false=([],false):=by rw[fM,if_neg h75,if_pos hp7,if_neg (fun h=>hk h.1)]
   rw[e];simp -implicitDefEqProofs (disch:=omega) only[hp7,zf hk',go_sem,simprocAttr];exact oQ
theorem bRh(s:dK)(n:Nat)(p t:LTerm)(l:List LSub)(m:Nat)(hm:Small s)(hA:∀q∈p.kids,bPc s n q)(hp:OkN p)(hp8:p.kind=8)(hpl1:p.kids.length≤1000000)(ht:OkN t)(hpl:∀x∈t.kids,jW s x=true)(hnk:∀x∈t.kids,nodesT x≤1000000)(htl:t.kids.length≤1000000)(hu:E2 m l)(ha:nJ l)(hl:l.length≤1000)(hmm:m+nodesT p≤1000000): aFx Tryz.prog G0 167 [.agg [bQ s],avw l,elT p,elT t] (avw (fM s (n+1) p t l false).1) (fM s (n+1) p t l false).2 vX:=by
 refine kT (rx:=true) (th:=fun i=>if i=11 then some ⟨none,[],false,false,true,[],[],8⟩else if i=18 then some ⟨none,[],false,false,true,[],[],8⟩else none) dE Tryz.func167 rfl (by kernel_rfl) (by kernel_rfl) (ac:=?_) ?_ g0 ?_;rotate_left
 ·simp only[strip,kV,eR,kU,RX.off,ckF,ckX,zOf,exd,vOf,aH,aG,bH,bG,aK,bA,aS,aK,bT,bY,dP,fQ,bD,bM,aE,aC,eB,anyPre,Region.binds,aA,aB,aI,if_true,if_false,aY,aW,aR,aT,aZ,aQ,aH,aG,List.append_nil,aLq,vQ,rR,rC,cU,cD,cG,aK,bH,bG,dD,beq_self_eq_true,fY,Nat.reduceBEq,qK,pH,qH,jX,aHu,fD,gE,bT,cX,Z2,Z1,↓reduceIte,Nat.reduceEqDiff,Nat.reduceBEq,mJ,nP,oH,splitK,vY,D9,aG,fD,gE,aA,aB,bA,aR,aS,bH,bG];rfl
 ·simp -implicitDefEqProofs (disch:=omega) only[Tryz.f167,go_sem,List.replicate,simprocAttr,avw,elT,aL];have h85:¬p.kind=5:=by omega
  have h87:¬p.kind=7:=by omega
  have hpx:=aZi hp (.inr hp8);by_cases hk:t.kind=8
  ·have htx:=aZi ht (.inr hk);have e:fM s (n+1) p t l false=lQ (fM s n) s p t l false:=by rw[fM,if_neg h85,if_neg h87,if_pos hp8,if_pos hk]
   rw[e];have c:=bQk s n p t l m hm hA hp hp8 hpl1 ht hk hpl hnk htl hu ha hl hmm;simp only[elT,aL,hp8,hk,hpx,htx]at c;refine zh (zA2 hp8 (zA2 hk (zA2 hpx htx))) ?_;refine vH c ?_ (fun hb'=>⟨hb',rfl⟩) (fun hb'=>?_)
   ·exact zv (zA2 @avw.eq_1 @bQ.eq_1)
   refine zh @avw.eq_1 ?_;exact⟨hb',.inl ⟨rfl,sQ _⟩⟩
  ·have hk':¬(8:Int)=t.kind:=fun h=>hk h.symm;have e:fM s (n+1) p t l false=([],false):=by rw[fM,if_neg h85,if_neg h87,if_pos hp8,if_neg hk]
   rw[e];refine zh (zA2 hp8 (zf hk')) ?_;exact oQ
theorem bNf(s:dK)(n:Nat)(p t:LTerm)(l:List LSub)(hk:p.kind=5∨p.kind=7∨p.kind=8)(c:aFx Tryz.prog G0 167 [.agg [bQ s],avw l,elT p,elT t] (avw (fM s (n+1) p t l false).1) (fM s (n+1) p t l false).2 vX): aFx Tryz.prog G0 103 [.agg [bQ s],avw l,elT p,elT t] (avw (fM s (n+1) p t l false).1) (fM s (n+1) p t l false).2 vX:=by
 refine kT (rx:=false) (th:=fun _=>none) dE Tryz.func103 rfl (by kernel_rfl) (by kernel_rfl) (ac:=?_) ?_ g0 ?_;rotate_left
 ·simp only[strip,kV,eR,kU,RX.off,ckF,ckX,zOf,exd,vOf,aH,aG,bH,bG,aK,bA,aS,aK,bT,bY,dP,fQ,bD,bM,aE,aC,eB,anyPre,Region.binds,aA,aB,aI,if_true,if_false,aY,aW,aR,aT,aZ,aQ,aH,aG,List.append_nil];rfl
 ·simp -implicitDefEqProofs (disch:=omega) only[Tryz.f103,go_sem,List.replicate,simprocAttr,avw,elT,aL];generalize fM s (n+1) p t l false=R at *
  have h57:¬(7:Int)=5:=by decide
  have h58:¬(8:Int)=5:=by decide
  have h78:¬(8:Int)=7:=by decide
  rcases hk with hk|hk|hk;all_goals
   simp only[elT,aL,hk]at c
   refine zh (zA2 hk (zA2 (zf h57) (zA2 (zf h58) (zf h78)))) ?_
   refine vH c ?_ (fun hb'=>⟨hb',rfl⟩) (fun hb'=>?_)
   ·exact zv (zA2 @avw.eq_1 @bQ.eq_1)
   refine zh @avw.eq_1 ?_
   exact⟨hb',.inl ⟨rfl,sQ _⟩⟩
theorem cDk{s:dK}(hm:Small s):∀(n:Nat) (p:LTerm),OkN p→nodesT p≤n→bPc s n p
 |0,p,hp,h=>by rw[eW]at h;omega
 |n + 1,p,hp,h=>fun t l m ht hpt hnt hu ha hl hmm=>by
  have hno:=eW p;have hnt2:=eW t;have hk1:=lO p.kids;have hk2:=lO t.kids;have hA:∀q∈p.kids,bPc s n q:=fun q hq=>cDk hm n q (hp.kid hq) (by have:=(iI hq).1;omega);have hnk:∀x∈t.kids,nodesT x≤1000000:=fun x hx=>by have:=(iI hx).1;omega
  have hpk:∀x∈t.kids,jW s x=true:=fun x hx=>bAq hpt hx;by_cases h5:p.kind=5
  ·exact bNf s n p t l (.inl h5) (bRj s n p t l m hm hA hp h5 (by omega) ht hpk hnk (by omega) hu ha hl hmm)
  by_cases h7:p.kind=7
  ·exact bNf s n p t l (.inr (.inl h7)) (bRi s n p t l m hm hA hp h7 (by omega) ht hpk hnk (by omega) hu ha hl hmm)
  by_cases h8:p.kind=8
  ·exact bNf s n p t l (.inr (.inr h8)) (bRh s n p t l m hm hA hp h8 (by omega) ht hpk hnk (by omega) hu ha hl hmm)
  have hf:=qM (s:=s) (p:=p) (t:=t) (l:=l);have e:fM s (n+1) p t l false=(l.flatMap (iJ s p t),false):=by
   rw[fM,if_neg h5,if_neg h7,if_neg h8,D6,sW,if_neg (by omega)]
  rw[e];exact aVx vX (aAj s l p t m hm hl hu ha (by omega) hp.1 ht.1 h5 h7 h8)
theorem bTp(s:dK)(p t:LTerm)(l:List LSub)(hm:Small s)(hp:OkN p)(ht:OkN t)(hpt:jW s t=true)(hnp:nodesT p≤100000)(hnt:nodesT t≤1000000)(hu:E2 100000 l)(ha:nJ l)(hl:l.length≤1000): aFx Tryz.prog G0 50 [bQ s,avw l,elT p,elT t] (avw (fM s (nodesT p) p t l false).1) (fM s (nodesT p) p t l false).2 vX:=by
 refine kT (rx:=false) (th:=fun _=>none) dE Tryz.func50 rfl (by kernel_rfl) (by kernel_rfl) (ac:=?_) ?_ g0 ?_;rotate_left
 ·simp only[strip,kV,eR,kU,RX.off,ckF,ckX,zOf,exd,vOf,aH,aG,bH,bG,aK,bA,aS,aK,bT,bY,dP,fQ,bD,bM,aE,aC,eB,anyPre,Region.binds,aA,aB,aI,if_true,if_false,aY,aW,aR,aT,aZ,aQ,aH,aG,List.append_nil];rfl
 ·simp -implicitDefEqProofs (disch:=omega) only[Tryz.f50,go_sem,List.replicate,simprocAttr,avw,elT,aL];have c:=cDk hm (nodesT p) p hp (bV _) t l 100000 ht hpt hnt hu ha hl (by omega);generalize fM s (nodesT p) p t l false=R at *
  refine vH c ?_ (fun hb'=>⟨hb',rfl⟩) (fun hb'=>?_)
  ·exact zv (zA2 @avw.eq_1 (zA2 @elT.eq_1 (zA2 @aL @bQ.eq_1)))
  refine zh @avw.eq_1 ?_;exact⟨hb',.inl ⟨rfl,sQ _⟩⟩
def rQ(s:dK)(u:LSub):Nat→Bool
 |0=>true
 |k+1=>rQ s u k&&(isName (u.getD k default).1&&((decide (k=0)||Op.bytesLess (u.getD (k-1) default).1 (u.getD k default).1)&&jW s (u.getD k default).2))
def pU(s:dK)(u:LSub):Bool:=rQ s u u.length
theorem R5{s:dK}{u:LSub}{k:Nat}(h:rQ s u k=false):∀j,rQ s u (k+j)=false
 |0=>h
 |j+1=>by rw[show k+(j+1)=k+j+1 by omega,rQ,R5 h j];rfl
theorem aQv{s:dK}{u:LSub}{k:Nat}(hk:k≤u.length)(h:rQ s u k=false):pU s u=false:=by
 have:=R5 h (u.length-k);rwa[show k+(u.length-k)=u.length by omega]at this
theorem aLi(s:dK)(u:LSub)(hs:Small s)(hu:OkU 1000000 u)(hn:∀p∈u,p.1.length≤140737488355328): CT 48 [bQ s,avu u] (.b (pU s u)):=by
 refine dO dE Tryz.func48 g0 ?_
 ·simp -implicitDefEqProofs (disch:=omega) only[Tryz.f48,go_sem,List.replicate,simprocAttr,avu];refine dV (fun(q:Nat×List AObj)=>(.k::.k::.k::.k::.j::.j::.j::.k::.k::.v (.i .i64 (q.1:Nat))::(rp 31 .j []))) (fun q=>q.2) (fun q=>q.1≤u.length∧rQ s u q.1=true) (fun q=>u.length-q.1) ((0,[])) ⟨bX _,rfl⟩ rfl (by simp[iS]) ?_;rintro⟨k,g⟩ j ⟨hk,hb⟩;dsimp only at hk hb;by_cases hlt:k<u.length
  ·have hki:decide ((k:Int)<((u.length:Nat):Int))=true:=zt (by omega);have hm:=cS (d:=default) hlt;have hul:=hu.1;have hot:=hu.2 _ hm;have c1:=Q4 (u.getD k default).1 (by have:=hn _ hm;omega);have c2:=aWe s (u.getD k default).2 hs hot;have hno:=fun h=>aQv (s:=s) (u:=u) (k:=k+1) (by omega) h;rw[rQ,hb,aR]at hno;have hsk:rQ s u (k+1)=(isName (u.getD k default).1&&((decide (k=0)||Op.bytesLess (u.getD (k-1) default).1 (u.getD k default).1)&&jW s (u.getD k default).2)):=by rw[rQ,hb,aR]
   refine zh (zA2 hki (zA2 @prT.eq_1 @aL)) ?_;repeat refine bE (by omega) ?_
   refine bJ c1 ?_ ?_
   ·exact zu
   refine zg ?_;cases h1:isName (u.getD k default).1 with
   |false=>
    simp -implicitDefEqProofs (disch:=omega) only[h1,aB,go_sem,simprocAttr];exact .inl ⟨by rw[hno (by rw[h1];rfl)],rfl⟩
   |true=>
    by_cases hk0:k=0
    ·have hk1:decide ((0:Int)<0)=false:=rfl;subst hk0;simp -implicitDefEqProofs (disch:=omega) only[h1,hk1,aA,go_sem,simprocAttr];repeat refine bE (by omega) ?_
     refine bJ c2 ?_ ?_
     ·exact zv (zA2 @elT.eq_1 @aL)
     cases h2:jW s (u.getD 0 default).2 with
     |false=>
      simp -implicitDefEqProofs (disch:=omega) only[h2,aB,go_sem,simprocAttr];exact .inl ⟨by rw[hno (by rw[h1,h2,aS,aS])],rfl⟩
     |true=>
      simp -implicitDefEqProofs (disch:=omega) only[h2,aA,go_sem,simprocAttr];refine⟨(0+1,_),⟨by dsimp only;omega,by dsimp only;rw[hsk,h1,h2];simp⟩,by dsimp only;omega,rfl,by simp⟩
    ·have hk1:decide ((0:Int)<(k:Int))=true:=zt (by omega);have hw1:IntKind.i64.wrap ((k:Int)-1)=((k-1:Nat):Int):=by rw[wrap64 (by omega) (by omega)];omega
     have hp1:=aRz (u:=u) (k:=k-1) (by omega);simp -implicitDefEqProofs (disch:=omega) only[h1,hk1,hw1,hp1,aA,go_sem,simprocAttr];repeat refine bE (by omega) ?_
     cases h3:Op.bytesLess (u.getD (k-1) default).1 (u.getD k default).1 with
     |false=>
      simp -implicitDefEqProofs (disch:=omega) only[h3,aB,go_sem,simprocAttr];exact .inl ⟨by rw[hno (by rw[h1,h3,zf hk0];rfl)],rfl⟩
     |true=>
      simp -implicitDefEqProofs (disch:=omega) only[h3,aA,go_sem,simprocAttr];repeat refine bE (by omega) ?_
      refine bJ c2 ?_ ?_
      ·exact zv (zA2 @elT.eq_1 @aL)
      cases h2:jW s (u.getD k default).2 with
      |false=>
       simp -implicitDefEqProofs (disch:=omega) only[h2,aB,go_sem,simprocAttr];exact .inl ⟨by rw[hno (by rw[h1,h2,aS,aS])],rfl⟩
      |true=>
       simp -implicitDefEqProofs (disch:=omega) only[h2,aA,go_sem,simprocAttr];refine⟨(k+1,_),⟨by dsimp only;omega,by dsimp only;rw[hsk,h1,h2,h3];simp⟩,by dsimp only;omega,rfl,by simp⟩
  ·have hki:decide ((k:Int)<((u.length:Nat):Int))=false:=zf (by omega);obtain rfl:k=u.length:=by omega
   refine zh hki ?_;exact .inl ⟨by rw[pU,hb],rfl⟩
theorem bTo(u:LSub)(hu:OkU 1000000 u): CT 51 [avu u] (avu u):=by
 refine gI (rx:=true) (th:=fun _=>none) dE Tryz.func51 g0 ?_
 ·simp -implicitDefEqProofs (disch:=omega) only[Tryz.f51,go_sem,List.replicate,simprocAttr,avu];refine dV (fun(q:Nat×AV×List AObj)=>(.k::.k::.k::.v (q.2.1)::.k::.j::.k::.k::.v (.i .i64 (q.1:Nat))::(rp 13 .j [.k]))) (fun q=>q.2.2) (fun q=>q.1≤u.length∧jU 7 0 q.2.2 q.2.1 ((u.take q.1).flatMap prT) (u.take q.1).length) (fun q=>u.length-q.1) ((0,.e0,[])) ⟨bX _,jN⟩ rfl (by simp[iS]) ?_;rintro⟨k,out,g⟩ j ⟨hk,ho⟩;dsimp only at hk ho;have hul:=hu.1;by_cases hlt:k<u.length
  ·have hki:decide ((k:Int)<((u.length:Nat):Int))=true:=zt (by omega);have hm:=cS (d:=default) hlt;have c2:=bHv (u.getD k default).2 (hu.2 _ hm);have hX:(u.take (k+1)).flatMap prT=(u.take k).flatMap prT++prT (u.getD k default):=pI hlt;have hl:(u.take k).length≤1000000:=by rw[cN];omega
   have hl2:(u.take (k+1)).length=(u.take k).length+1:=by rw[cN,cN];omega
   refine zh (zA2 hki (zA2 @prT.eq_1 @aL)) ?_;repeat refine bE (by omega) ?_
   refine bJ c2 ?_ ?_
   ·exact zv (zA2 @elT.eq_1 @aL)
   refine zh (zA2 @elT.eq_1 (zA2 @aL (zA2 @pZ (zA2 @aJ.{0} (zA2 @aM.{0} @List.append_nil.{0}))))) ?_;refine fN (pre:=[]) (g:=g) (more:=[.box false (.s (u.getD k default).1::(tmC ((u.getD k default).2))),.arr false 7 (.s (u.getD k default).1::(tmC ((u.getD k default).2)))]) (news:=.s (u.getD k default).1::(tmC ((u.getD k default).2))) (m:=1) ho rfl ?_ cDc cBq bWx cDh rfl (by decide) ?_ ?_ ⟨by omega,by omega⟩ ?_
   ·simp only[aC,aE,cM]
   ·exact zu
   ·exact zu
   intro out' g' ho' _;refine zg ?_;refine⟨(k+1,out',g'),⟨by dsimp only;omega,?_⟩,by dsimp only;omega,rfl,by simp⟩;dsimp only;rw[hX,hl2,prT,aL];exact ho'
  ·have hki:decide ((k:Int)<((u.length:Nat):Int))=false:=zf (by omega);rw[bB (by omega)]at ho;refine zh hki ?_;exact bGt (pre:=[]) ho nL
theorem bTs(s:dK)(u:LSub)(hm:Small s)(hs:OkS s)(hu:OkU 1000000 u)(hn:∀p∈u,p.1.length≤140737488355328): CT 18 [.agg (dW s),avu u] (.b (iH s&&pU s u)):=by
 refine dO dE Tryz.func18 g0 ?_
 ·simp -implicitDefEqProofs (disch:=omega) only[Tryz.f18,go_sem,List.replicate,simprocAttr,avu];have c3:=aLi s u hm hu hn;simp only[avu]at c3;have c1:=aOk s hm hs;cases hv:iH s with
  |true=>
   rw[hv]at c1;(refine zt3 c1 (aAk s hm (iP hv)) c3 ?_;repeat' first|exact trivial|refine zJ ?_ ?_|refine zH fun hc=>?_);all_goals exact bR rfl rfl
  |false=>
   rw[hv]at c1;(refine zt1 c1 ?_;repeat' first|exact trivial|refine zJ ?_ ?_|refine zH fun hc=>?_);all_goals exact bR rfl rfl
theorem H2{s:dK}{u:LSub}:∀{k:Nat},rQ s u k=true→∀i,i<k→isName (u.getD i default).1=true∧(i=0∨Op.bytesLess (u.getD (i-1) default).1 (u.getD i default).1=true)∧jW s (u.getD i default).2=true
 |0,_,i,hi=>by omega
 |k + 1,h,i,hi=>by
  rw[rQ,aD]at h;rcases fP i k with h1|h1
  ·exact H2 h.1 i h1
  ·obtain rfl:i=k:=by omega
   have h2:=h.2;simp only[aD,cB,decide_eq_true_eq]at h2;exact h2
theorem aTy{x y:Str}(h:Op.bytesLess x y=true):x<y:=by rw[bytesLess_eq]at h;exact of_decide_eq_true h
theorem R6{s:dK}{u:LSub}(h:pU s u=true):AscU u:=by
 have key:∀d i,i+d+1<u.length→(u.getD i default).1<(u.getD (i+d+1) default).1:=by
  intro d;induction d with
  |zero=>
   intro i hi;obtain⟨_,h2,_⟩:=H2 h (i+0+1) hi;have h2:=h2.resolve_left (by omega);rw[show i+0+1-1=i by omega]at h2;exact aTy h2
  |succ d ih=>
   intro i hi;obtain⟨_,h2,_⟩:=H2 h (i+(d+1)+1) hi;have h2:=h2.resolve_left (by omega);rw[show i+(d+1)+1-1=i+d+1 by omega]at h2;exact mD (ih i (by omega)) (aTy h2)
 refine eS.2 fun i j hi hj hij=>?_;have:=key (j-i-1) i (by omega);rw[show i+(j-i-1)+1=j by omega]at this;simpa[List.getD,hi,hj]using this
end Go.Proofs.YtdjcggcjlphdoaaGreatDoor
namespace Go.Proofs.YtdjcggcjlphdoaaGreatDoor
open Go.Vo Go
section
variable {P:Program} (w:World)
theorem cAg{T:TypeId}{ms}(h:P.underlying T=some (.interface ms)):(binOp .eql T .nilIface .nilIface).run P w=.ok (.bool true) w:=by
 have h1:(Op.equalIn 10000 T .nilIface .nilIface).run P w=.ok true w:=by
  unfold Op.equalIn;rw[cK,run_underlying h];rfl
 have h2:(Go.binOp .eql T .nilIface .nilIface).run P w=.ok (.bool true) w:=by
  simp only[Go.binOp,Op.equal,Op.maxDepth];simp[h1]
 exact h2
theorem cAh{T:TypeId}{ms}{U:TypeId}{v:Value}(h:P.underlying T=some (.interface ms)):(binOp .eql T (.iface U v) .nilIface).run P w=.ok (.bool false) w:=by
 have h1:(Op.equalIn 10000 T (.iface U v) .nilIface).run P w=.ok false w:=by
  unfold Op.equalIn;rw[cK,run_underlying h];rfl
 have h2:(Go.binOp .eql T (.iface U v) .nilIface).run P w=.ok (.bool false) w:=by
  simp only[Go.binOp,Op.equal,Op.maxDepth];simp[h1]
 exact h2
end
theorem aOp(p:Addr)(w:World):CallsD Tryz.prog 49 #[.pointer (some p)] .returning w fun e u' w'=>e=.returned (.tuple #[])∧u'=.returning∧w'=w:=by
 refine callsD_of_wpS Tryz.func49 rfl fun c₀ cs hu=>?_;apply wpS_seq;apply wpS_region;simp[wpOpsS,go_sem,recoverD,hu,Tryz.ntmps49,Exit.thenS,Array.replicate,List.replicate];refine wpS_of_wp ?_;have hb:=cAg (P:=Tryz.prog) w Tryz.underlying20;apply wp_block;apply wp_seq;apply wp_region;simp[wpOps,Region.wanted,Oper.wp,Oper.upon,execOp,Act.eval,eqGuard,hb,Result.andThen,Act.put,Exit.then];refine Or.inl (wp_cond (t:=true) rfl ?_);simp only[if_true];apply wp_region;simp[wpOps,Region.wanted,Oper.wp,Oper.upon,execOp,Act.eval,Result.andThen,Act.put,Exit.then];refine Or.inl ?_;cases c₀;simp_all[Exit.inBlock,bodyPostS,results,Tryz.results49]
section
variable {P:Program} (w:World)
theorem bYd{A U X:TypeId}{v z:Value}{k}(h:P.underlying A=some (.int k))(hU:U≠A)(hz:(zeroValue A).run P w=.ok z w):(Instr.typeAssert (.iface U v) X A true).run P w=.ok (.tuple #[z,.bool false]) w:=by
 unfold Instr.typeAssert;simp only[cK,run_underlying h,bP,hU,if_false,if_true,hz];rfl
theorem bQm{U X:TypeId}{v:Value}{fs}(h:P.underlying U=some (.struct fs)):(Instr.typeAssert (.iface U v) X U true).run P w=.ok (.tuple #[v,.bool true]) w:=by
 unfold Instr.typeAssert;simp only[cK,run_underlying h,bP,if_true];rfl
end
theorem aOo(p:Addr)(x:Value)(older:List PanicEntry)(w:World)(hc:(w.alloc (.cells #[] 138)).cell? p=some x)(hz:(w.alloc (.cells #[] 138)).frozen? p=false) :
 CallsD Tryz.prog 49 #[.pointer (some p)] (.panicking ({v:=.iface 138 (.agg #[]),recovered:=false}::older)) w fun e u' w'=>e=.returned (.tuple #[])∧u'=.panicking ({v:=.iface 138 (.agg #[]),recovered:=true}::older)∧w'=(w.alloc (.cells #[] 138)).setCell p (.int .i64 3):=by
 refine callsD_of_wpS Tryz.func49 rfl fun c₀ cs hu=>?_;apply wpS_seq;apply wpS_region;simp[wpOpsS,go_sem,recoverD,hu,Tryz.ntmps49,Exit.thenS,Array.replicate,List.replicate];refine wpS_of_wp ?_;have hb:=cAh (P:=Tryz.prog) (U:=138) (v:=.agg #[]) w Tryz.underlying20;have h1:=bYd (P:=Tryz.prog) (A:=38) (U:=138) (v:=.agg #[]) (X:=20) w Tryz.underlying38 (by decide) (Tryz.zeroValue38 w);have h2:=bQm (P:=Tryz.prog) (U:=138) (v:=.agg #[]) (X:=20) w Tryz.underlying138;apply wp_block;apply wp_seq;apply wp_region;simp[wpOps,Region.wanted,Oper.wp,Oper.upon,execOp,Act.eval,eqGuard,hb,Result.andThen,Act.put,Exit.then];refine Or.inl (wp_cond (t:=false) rfl ?_);simp only[aI,if_false];apply wp_seq;apply wp_region;simp[wpOps,Region.wanted,Oper.wp,Oper.upon,execOp,Act.eval,Result.andThen,Act.put,Exit.then,h1,go_sem];refine .inl (.inl (.inl (wp_cond (t:=false) rfl ?_)));simp only[aI,if_false];apply wp_seq;apply wp_region;simp[wpOps,Region.wanted,Oper.wp,Oper.upon,execOp,Act.eval,Result.andThen,Act.put,Exit.then,h2,go_sem];refine .inl (.inl (.inl (wp_cond (t:=true) rfl ?_)));simp only[if_true];apply wp_seq;apply wp_region;simp[wpOps,Region.wanted,Oper.wp,Oper.upon,execOp,Act.eval,Result.andThen,Act.put,Exit.then,go_sem,Tryz.zeroValue138];generalize hW:w.alloc (.cells #[] 138)=W at *
 refine .inl (.inl (wp_region ?_));simp[wpOps,Region.wanted,Oper.wp,Oper.upon,execOp,Act.eval,Result.andThen,Act.put,Exit.then,go_sem,hc,hz];refine .inl (.inl ?_);cases c₀;simp_all[Exit.inBlock,bodyPostS,results,Tryz.results49]
end Go.Proofs.YtdjcggcjlphdoaaGreatDoor

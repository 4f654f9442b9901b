/-
  Functions of the chapter, as plain functions of what they are given; no condition.
-/
import Derived.Test.YtdjcggcjlphdoaaGreatDoorVcP54
set_option maxRecDepth 100000
set_option linter.unusedSimpArgs false
set_option linter.unusedVariables false
set_option maxHeartbeats 4000000
namespace Go.Proofs.YtdjcggcjlphdoaaGreatDoor
open Go Go.Vo
open Nat (reduceAdd reduceSub reduceMul reduceLeDiff reduceLT reduceEqDiff)
open Int (reduceNeg)
theorem aJh{s:dF}{t c:LTerm}(h:fN s t=true)(hc:c∈t.kids):fN s c=true:=by
 rw[fN,aB]at h ⊢;have hp:=h.2;rw[xJ]at hp;simp only[aB,bF]at hp;refine⟨?_,hp.1.2 c hc⟩;have hv:=h.1;simp only[iQ,aB,decide_eq_true_eq]at hv ⊢;have m:=lU hc;have e1:=gA t;have e2:=aKj t;exact⟨⟨(nF.1 hv.1.1).2 c hc,by omega⟩,by omega⟩
theorem bPt(s:dF)(n:Nat)(b:Bool)(p t:LTerm)(l:List LSub)(m:Nat)(hm:Small s)(hs:OkS s)(hv:fM s=true)(hA:∀q∈p.kids,bGv s n q)(hp:OkN p)(hp8:p.kind=8)(hpl1:p.kids.length≤1000000)(ht:OkN t)(ht8:t.kind=8)(hpl:∀x∈t.kids,fN s x=true)(hnk:∀x∈t.kids,nodesT x≤1000000)(htl:t.kids.length≤1000000)(hu:tD m l)(hl:l.length≤1000)(hmm:m+nodesT p≤1000000) :
 ACalls Tryz.prog G0 107 [.ptr 0 0,elT p,elT t,avw l] [.box false [.sl (s.sorts.map .s) s.sorts.length,.sl (s.below.flatMap bZ) s.below.length,.sl (s.ops.flatMap bG) s.ops.length,.sl (s.funs.flatMap bG) s.funs.length,.sl (s.values.map .s) s.values.length,.b (b)]] (fun r h'=>r=avw (lK (dX s n) s p t l b).1∧h'=[.box false [.sl (s.sorts.map .s) s.sorts.length,.sl (s.below.flatMap bZ) s.below.length,.sl (s.ops.flatMap bG) s.ops.length,.sl (s.funs.flatMap bG) s.funs.length,.sl (s.values.map .s) s.values.length,.b ((lK (dX s n) s p t l b).2)]]):=
 jI g0 (bOi s n b p t l m hm hs hv hA hp hp8 hpl1 ht ht8 hpl hnk htl hu hl hmm) (gS _) (by rw[fJ,wH];rfl) (bT _)
theorem bHw{h:List AObj}{x:Int}{l:List LTerm}:gJ dep h (.agg [.i .i64 x,.i .i64 0,.s [],.s [],.sl (l.flatMap aM) l.length,.e0])=elT (.mk x 0 [] [] l []):=by
 rw[elT,aI,fS];simp[pers,persL,avt,eW,rQ];exact⟨rfl,rfl,rfl,rfl,by rw[gJ,if_pos (show pers (AV.sl _ _)=true from eW)];rfl,rfl⟩
theorem aYr{h:List AObj}{x:Int}{l:List LTerm}:Vo.freeze (eB dep h (.agg [.i .i64 x,.i .i64 0,.s [],.s [],.sl (l.flatMap aM) l.length,.e0])) h=h:=by
 rw[tP,bMw,if_pos (by simp[aKw,pers,avt,eW])];rfl
theorem cAd(s:dF)(n:Nat)(b:Bool)(p t:LTerm)(l:List LSub)(m:Nat)(hm:Small s)(hs:OkS s)(hv:fM s=true)(hA:∀q∈p.kids,bGv s n q)(hp:OkN p)(ht:OkN t)(hpt:fN s t=true)(hnt:nodesT t≤1000000)(hu:tD m l)(hl:l.length≤1000)(hmm:m+nodesT p≤1000000): ACalls Tryz.prog G0 54 [.ptr 0 0,elT p,elT t,avw l] [.box false [.sl (s.sorts.map .s) s.sorts.length,.sl (s.below.flatMap bZ) s.below.length,.sl (s.ops.flatMap bG) s.ops.length,.sl (s.funs.flatMap bG) s.funs.length,.sl (s.values.map .s) s.values.length,.b (b)]] (MK s (dX s (n+1) p t l b)):=by
 refine jD (rx:=true) (th:=fun i=>if i=10 then some ⟨none,[],false,false,true,[],[],8⟩else if i=12 then some ⟨none,[],false,false,true,[],[],11⟩else none) cI Tryz.func54 ?_
 ·simp -implicitDefEqProofs (disch:=omega) only[Tryz.f54,go_sem,List.replicate,simprocAttr,avw];have hno:=gA p;have hnt2:=gA t;have hk1:=mV p.kids;have hk2:=mV t.kids;have hnk:∀x∈t.kids,nodesT x≤1000000:=fun x hx=>by have:=(lU hx).1;omega
  have hpk:∀x∈t.kids,fN s x=true:=fun x hx=>aJh hpt hx;have all:∀x∈t.kids,OkN x∧fN s x=true∧nodesT x≤1000000:=fun x hx=>⟨ht.kid hx,hpk x hx,hnk x hx⟩;rw[dX];by_cases h5:p.kind=5
  ·rw[if_pos h5]
   by_cases hc1:t.kind=5
   ·by_cases hc2:t.text=p.text
    ·by_cases hc3:t.kids.length=p.kids.length
     ·rw[if_pos ⟨hc1,hc2,hc3⟩];have c:=cAz s n b p.kids t.kids l m hA all (by omega) (by omega) hu hl (by omega);have hi3:((t.kids.length:Nat):Int)=((p.kids.length:Nat):Int):=by omega
      refine zh (zA2 (zt h5) (zA2 (zt hc1) (zA2 (zt hc2) (zA2 (zt hi3) hc2)))) ?_;(refine zx0 (zA2 (zt h5) (zA2 (zt hc1) (zA2 (zt hc2) (zA2 (zt hi3) hc2)))) ?_;repeat' first|exact trivial|refine zJ ?_ ?_|refine zH fun hc=>?_);refine aLn c (gS _) (by simp only[avw,avt,renL,ren,renL_pers _ _ iW,renL_pers _ _ eW,mY]) ?_;refine zg ?_;exact vX
     ·rw[if_neg (fun h=>hc3 h.2.2)];have hi3:¬((t.kids.length:Nat):Int)=((p.kids.length:Nat):Int):=by omega
      refine zh (zA2 (zt h5) (zA2 (zt hc1) (zA2 (zt hc2) (zA2 (zf hi3) hc2)))) ?_;(refine zx0 (zA2 (zt h5) (zA2 (zt hc1) (zA2 (zt hc2) (zA2 (zf hi3) hc2)))) ?_;repeat' first|exact trivial|refine zJ ?_ ?_|refine zH fun hc=>?_);all_goals exact pU (r:=([],b)) eX
    ·rw[if_neg (fun h=>hc2 h.2.1)];refine zh (zA2 (zt h5) (zA2 (zt hc1) (zf hc2))) ?_;(refine zx0 (zA2 (zt h5) (zA2 (zt hc1) (zf hc2))) ?_;repeat' first|exact trivial|refine zJ ?_ ?_|refine zH fun hc=>?_);all_goals exact pU (r:=([],b)) eX
   ·rw[if_neg (fun h=>hc1 h.1)];refine zh (zA2 (zt h5) (zf hc1)) ?_;(refine zx0 (zA2 (zt h5) (zf hc1)) ?_;repeat' first|exact trivial|refine zJ ?_ ?_|refine zH fun hc=>?_);all_goals exact pU (r:=([],b)) eX
  rw[if_neg h5];by_cases h7:p.kind=7
  ·rw[if_pos h7]
   have h57:¬(7:Int)=5:=by decide
   by_cases hc1:t.kind=7
   ·by_cases hc2:p.kids.length≤t.kids.length
    ·have hi2:¬((t.kids.length:Nat):Int)<((p.kids.length:Nat):Int):=by omega
     have hrow:=cAz s n b p.kids (t.kids.take p.kids.length) l m hA (fun x hx=>all x (dS hx)) (by rw[bS];omega) (by omega) hu hl (by omega);obtain⟨r1,r2⟩:=xI (A:=dX s n) (ps:=p.kids) (ts:=t.kids.take p.kids.length) (b:=b) (fun q _=>mQ n q) (fun x hx=>(all x (dS hx)).1) hu hl;have htk:(t.kids.take p.kids.length).length=p.kids.length:=by rw[bS];omega
     by_cases hr:0<p.rest.length
     ·have hr0:¬((p.rest.length:Nat):Int)=0:=by omega
      have hri:(0:Int)<((p.rest.length:Nat):Int):=by omega
      rw[if_pos ⟨hc1,hc2,fun h=>by omega⟩,if_pos hr];have ce:=bPv s (jH (dX s n) p.kids (t.kids.take p.kids.length) l b).2 (p.rest.getD 0 default) (.mk 7 0 [] [] (t.kids.drop p.kids.length) []) (jH (dX s n) p.kids (t.kids.take p.kids.length) l b).1 (m+nodesL p.kids) hm hs r2 r1 (by omega) (hp.1.rst _ (cC (d:=default) hr)) (J5 (fun x hx=>(all x (iM hx)).1.1) (by rw[eJ];omega)) (aQn (.inl rfl));refine zh (zA2 (zf h5) (zA2 (zt h7) (zA2 (zt hc1) (zA2 (zf hi2) (zf hr0))))) ?_;(refine zx0 (zA2 (zf h5) (zA2 (zt h7) (zA2 (zt hc1) (zA2 (zf hi2) (zf hr0))))) ?_;repeat' first|exact trivial|refine zJ ?_ ?_|refine zH fun hc=>?_);refine aLn hrow (gS _) (by simp only[avw,avt,renL,ren,renL_pers _ _ iW,renL_pers _ _ eW,mY,htk]) ?_;refine zh (zA2 (zt hri) @avw.eq_1) ?_;(refine zx0 (zA2 (zt hri) @avw.eq_1) ?_;repeat' first|exact trivial|refine zJ ?_ ?_|refine zH fun hc=>?_);have q1:List.drop (p.kids.length*6) (t.kids.flatMap aM)=(t.kids.drop p.kids.length).flatMap aM:=xC;rw[q1,← eJ];refine U9 2 rfl ?_;rw[bHw,aYr];refine aLn ce (gS _) (by simp only[List.set,elT,aI,avw,avt,renL,ren,renL_pers _ _ iW,renL_pers _ _ eW,mY,LTerm.kind,LTerm.n,LTerm.text,LTerm.sort,LTerm.kids,LTerm.rest,List.flatMap_nil,cH]) ?_;refine zg ?_;exact vX
     ·have hr0:((p.rest.length:Nat):Int)=0:=by omega
      by_cases hc3:t.kids.length≤p.kids.length
      ·have hi3:¬((p.kids.length:Nat):Int)<((t.kids.length:Nat):Int):=by omega
       have hri:¬(0:Int)<((p.rest.length:Nat):Int):=by omega
       have htt:t.kids.take p.kids.length=t.kids:=aS hc3;have hte:t.kids.length=p.kids.length:=by omega
       rw[htt]at hrow;rw[if_pos ⟨hc1,hc2,fun _=>hc3⟩,if_neg hr,htt];refine zh (zA2 (zf h5) (zA2 (zt h7) (zA2 (zt hc1) (zA2 (zf hi2) (zA2 (zt hr0) (zf hi3)))))) ?_;(refine zx0 (zA2 (zf h5) (zA2 (zt h7) (zA2 (zt hc1) (zA2 (zf hi2) (zA2 (zt hr0) (zf hi3)))))) ?_;repeat' first|exact trivial|refine zJ ?_ ?_|refine zH fun hc=>?_);refine aLn hrow (gS _) (by simp only[avw,avt,renL,ren,renL_pers _ _ iW,renL_pers _ _ eW,mY,hte]) ?_;refine zh (zf hri) ?_;exact vX
      ·have hi3:((p.kids.length:Nat):Int)<((t.kids.length:Nat):Int):=by omega
       rw[if_neg (fun h=>hc3 (h.2.2 (by omega)))];refine zh (zA2 (zf h5) (zA2 (zt h7) (zA2 (zt hc1) (zA2 (zf hi2) (zA2 (zt hr0) (zt hi3)))))) ?_;(refine zx0 (zA2 (zf h5) (zA2 (zt h7) (zA2 (zt hc1) (zA2 (zf hi2) (zA2 (zt hr0) (zt hi3)))))) ?_;repeat' first|exact trivial|refine zJ ?_ ?_|refine zH fun hc=>?_);all_goals exact pU (r:=([],b)) eX
    ·have hi2:((t.kids.length:Nat):Int)<((p.kids.length:Nat):Int):=by omega
     rw[if_neg (fun h=>hc2 h.2.1)];refine zh (zA2 (zf h5) (zA2 (zt h7) (zA2 (zt hc1) (zt hi2)))) ?_;(refine zx0 (zA2 (zf h5) (zA2 (zt h7) (zA2 (zt hc1) (zt hi2)))) ?_;repeat' first|exact trivial|refine zJ ?_ ?_|refine zH fun hc=>?_);all_goals exact pU (r:=([],b)) eX
   ·rw[if_neg (fun h=>hc1 h.1)];refine zh (zA2 (zf h5) (zA2 (zt h7) (zf hc1))) ?_;(refine zx0 (zA2 (zf h5) (zA2 (zt h7) (zf hc1))) ?_;repeat' first|exact trivial|refine zJ ?_ ?_|refine zH fun hc=>?_);all_goals exact pU (r:=([],b)) eX
  rw[if_neg h7];by_cases h8:p.kind=8
  ·rw[if_pos h8];by_cases hc1:t.kind=8
   ·rw[if_pos hc1];have c:=bPt s n b p t l m hm hs hv hA hp h8 (by omega) ht hc1 hpk hnk (by omega) hu hl hmm;refine zh (zA2 (zf h5) (zA2 (zf h7) (zA2 (zt h8) (zt hc1)))) ?_;(refine zx0 (zA2 (zf h5) (zA2 (zf h7) (zA2 (zt h8) (zt hc1)))) ?_;repeat' first|exact trivial|refine zJ ?_ ?_|refine zH fun hc=>?_);refine aLn c (gS _) (by simp only[elT,aI,avw,avt,renL,ren,renL_pers _ _ iW,renL_pers _ _ eW,mY]) ?_;refine zg ?_;exact vX
   ·rw[if_neg hc1];refine zh (zA2 (zf h5) (zA2 (zf h7) (zA2 (zt h8) (zf hc1)))) ?_;(refine zx0 (zA2 (zf h5) (zA2 (zf h7) (zA2 (zt h8) (zf hc1)))) ?_;repeat' first|exact trivial|refine zJ ?_ ?_|refine zH fun hc=>?_);all_goals exact pU (r:=([],b)) eX
  rw[if_neg h8];have c:=bPv s b p t l m hm hs hl hu (by omega) hp.1 ht.1 (aQm hv hpt);refine zh (zA2 (zf h5) (zA2 (zf h7) (zf h8))) ?_;(refine zx0 (zA2 (zf h5) (zA2 (zf h7) (zf h8))) ?_;repeat' first|exact trivial|refine zJ ?_ ?_|refine zH fun hc=>?_);refine aLn c (gS _) (by simp only[elT,aI,avw,avt,renL,ren,renL_pers _ _ iW,renL_pers _ _ eW,mY]) ?_;refine zg ?_;exact vX
end Go.Proofs.YtdjcggcjlphdoaaGreatDoor

/-
  Functions of the chapter, as plain functions of what they are given; no condition.
-/
import Derived.Test.YtdjcggcjlphdoaaGreatDoorVdP18
import Derived.Test.YtdjcggcjlphdoaaGreatDoorVcP15
import Derived.Test.YtdjcggcjlphdoaaGreatDoorVdP13
import Derived.Test.YtdjcggcjlphdoaaGreatDoorVoP20
set_option maxRecDepth 100000
set_option linter.unusedSimpArgs false
set_option linter.unusedVariables false
set_option maxHeartbeats 4000000
namespace Go.Proofs.YtdjcggcjlphdoaaGreatDoor
open Go Go.Vo
open Nat (reduceAdd reduceSub reduceMul reduceLeDiff reduceLT reduceEqDiff)
open Int (reduceNeg)
theorem aCt{l:List LTerm}{k:Nat}(h:k<l.length):(l.take (k+1)).any pR=((l.take k).any pR||pR (l.getD k default)):=by
 rw[fO (d:=default) h,List.any_append];simp
theorem aSg{l:List LTerm}{k:Nat}(h:k<l.length)(hw:pR (l.getD k default)=true):l.any pR=true:=gY.2 ⟨_,cT h,hw⟩
theorem bGg(t:LTerm)(ht:OkT t)(ih:∀k∈t.kids,CT 34 [elT k] (.b (pR k))): CT 34 [elT t] (.b (pR t)):=by
 refine bQ cZ Tryz.func34 g0 ?_
 ·skip;have hk1:=ht.kids;have e:=aKt t;by_cases h6:t.kind=6
  ·by_cases hx:t.text=[95]
   ·rw[zt h6,zt hx,aI,bC]at e;rw[e];refine zh (zA2 (zt h6) (zt hx)) ?_;exact bV rfl rfl
   ·rw[zf hx,aM,cU]at e
    rw[e];refine zh (zA2 (zt h6) (zf hx)) ?_;refine kI (fun(k:Nat)=>(.k::.k::.j::.k::.j::(rp 11 .k (.v (.i .i64 (k:Nat))::(rp 6 .j []))))) (fun k=>[.box false (tmC t)]) (fun k=>(k≤t.kids.length∧(t.kids.take k).any pR=false)) (fun k=>t.kids.length-k) (0) _ (⟨bJ _,rfl⟩) rfl (by simp[hZ]) ?_;rintro k g j hk;obtain⟨hk,hno⟩:=hk;by_cases hlt:k<t.kids.length
    ·have hki:decide ((k:Int)<((t.kids.length:Nat):Int))=true:=zt (by omega);have c:=ih _ (cT (d:=default) hlt);have es:=aCt hlt;rcases mQ (pR (t.kids.getD k default))with hw|hw
     ·have ea:=aSg hlt hw;rw[hw]at c;rw[ea];refine zh hki ?_;(refine zy1 hki c ?_;repeat' first|exact trivial|refine zJ ?_ ?_|refine zH fun hc=>?_);all_goals exact bV rfl rfl
     ·rw[hw]at c es;rw[hno]at es;refine zh hki ?_;(refine zy1 hki c ?_;repeat' first|exact trivial|refine zJ ?_ ?_|refine zH fun hc=>?_);exact⟨k+1,_,⟨by omega,es⟩,by omega,rfl,by simp⟩
    ·have hki:decide ((k:Int)<((t.kids.length:Nat):Int))=false:=zf (by omega);obtain rfl:k=t.kids.length:=by omega
     rw[gD]at hno;rw[hno];refine zh hki ?_;exact bV rfl rfl
  ·rw[zf h6,aO,cU]at e
   rw[e];refine zh (zf h6) ?_;refine kI (fun(k:Nat)=>(.k::.k::.j::.k::.j::(rp 11 .k (.v (.i .i64 (k:Nat))::(rp 6 .j []))))) (fun k=>[.box false (tmC t)]) (fun k=>(k≤t.kids.length∧(t.kids.take k).any pR=false)) (fun k=>t.kids.length-k) (0) _ (⟨bJ _,rfl⟩) rfl (by simp[hZ]) ?_;rintro k g j hk;obtain⟨hk,hno⟩:=hk;by_cases hlt:k<t.kids.length
   ·have hki:decide ((k:Int)<((t.kids.length:Nat):Int))=true:=zt (by omega);have c:=ih _ (cT (d:=default) hlt);have es:=aCt hlt;rcases mQ (pR (t.kids.getD k default))with hw|hw
    ·have ea:=aSg hlt hw;rw[hw]at c;rw[ea];refine zh hki ?_;(refine zy1 hki c ?_;repeat' first|exact trivial|refine zJ ?_ ?_|refine zH fun hc=>?_);all_goals exact bV rfl rfl
    ·rw[hw]at c es;rw[hno]at es;refine zh hki ?_;(refine zy1 hki c ?_;repeat' first|exact trivial|refine zJ ?_ ?_|refine zH fun hc=>?_);exact⟨k+1,_,⟨by omega,es⟩,by omega,rfl,by simp⟩
   ·have hki:decide ((k:Int)<((t.kids.length:Nat):Int))=false:=zf (by omega);obtain rfl:k=t.kids.length:=by omega
    rw[gD]at hno;rw[hno];refine zh hki ?_;exact bV rfl rfl
theorem bXv:∀(t:LTerm),OkT t→CT 34 [elT t] (.b (pR t)):=
 fH (Q:=fun t=>OkT t→CT 34 [elT t] (.b (pR t))) fun t hk _ ht=>bGg t ht fun k hm=>hk k hm (ht.kid k hm)
def wS:dX:=⟨[],[],[],[],[]⟩
def bLt:Str:=[73,110,116]
def wX:Str:=[88]
def wL:Str:=[76]
def wZ:Str:=[90]
def tN(n:Int):LTerm:=.mk 1 n [] [] [] []
def tV(x so:Str):LTerm:=.mk 6 0 x so [] []
def tI(x:Str):LTerm:=.mk 4 0 x [] [] []
def tL(ks rs:List LTerm):LTerm:=.mk 7 0 [] [] ks rs
def aCw:Str:=[76,105,115,116]
def wT1:LTerm:=tL [tN 1,tN 2] []
def wp1:LTerm:=tL [tV wX bLt] [tV wL aCw]
def wm:LTerm:=.mk 8 0 [] [] [tI [97],tN 1,tI [98],tN 2] []
def wp2:LTerm:=.mk 8 0 [] [] [tV [75] [73,100],tV [86] bLt] [tV [77] [77,97,112]]
def wp3:LTerm:=tL [tV wX bLt,tV wX bLt] []
def wpd:LTerm:=tV [36] [65,110,121]
def wq1:LTerm:=tL [] [tV wL aCw]
def wq2:LTerm:=tL [tV wX bLt] []
def wu:LSub:=[(wL,tL [tN 2] []),(wX,tN 1)]
def wb:LSub:=[(wL,tL [tN 2] []),(wX,tN 1),(wZ,tN 3)]
def wk:List LSub:=(kD wS wp2 wm []).1
theorem okw{k n:Int}{x so:Str}{ks rs:List LTerm}(hx:x.length≤100)(hs:so.length≤100)(hn:0≤n∧n≤100)(hk:ks.length≤100)(hr:rs.length≤100)(h:∀t∈ks,OkT t)(h2:∀t∈rs,OkT t):OkT (.mk k n x so ks rs):=
 .mk (by simp only[LTerm.text];omega) (by simp only[LTerm.sort];omega) (by simp only[LTerm.n];omega) (by simp only[LTerm.n];omega) (by simp only[LTerm.kids];omega) (by simp only[LTerm.rest];omega) (by simpa[LTerm.kids]using h) (by simpa[LTerm.rest]using h2)
theorem okn:∀t∈([]:List LTerm),OkT t:=fun t h=>by cases h
theorem okc{a:LTerm}{l:List LTerm}(ha:OkT a)(h:∀t∈l,OkT t):∀t∈a::l,OkT t:=fun t ht=>by
 rcases cH.1 ht with rfl|ht
 ·exact ha
 ·exact h t ht
theorem okN{n:Int}(h:0≤n∧n≤100):OkT (tN n):=okw (by decide) (by decide) h (by decide) (by decide) okn okn
theorem okV{x so:Str}(hx:x.length≤100)(hs:so.length≤100):OkT (tV x so):=okw hx hs (by decide) (by decide) (by decide) okn okn
theorem okI{x:Str}(hx:x.length≤100):OkT (tI x):=okw hx (by decide) (by decide) (by decide) (by decide) okn okn
theorem bVd:OkT wT1:=okw (by decide) (by decide) (by decide) (by decide) (by decide) (okc (okN (by decide)) (okc (okN (by decide)) okn)) okn
theorem cGq:OkT wp1:=okw (by decide) (by decide) (by decide) (by decide) (by decide) (okc (okV (by decide) (by decide)) okn) (okc (okV (by decide) (by decide)) okn)
theorem cKh:OkT wm:=okw (by decide) (by decide) (by decide) (by decide) (by decide) (okc (okI (by decide)) (okc (okN (by decide)) (okc (okI (by decide)) (okc (okN (by decide)) okn)))) okn
theorem cGp:OkT wp2:=okw (by decide) (by decide) (by decide) (by decide) (by decide) (okc (okV (by decide) (by decide)) (okc (okV (by decide) (by decide)) okn)) (okc (okV (by decide) (by decide)) okn)
theorem cKg:OkT wp3:=okw (by decide) (by decide) (by decide) (by decide) (by decide) (okc (okV (by decide) (by decide)) (okc (okV (by decide) (by decide)) okn)) okn
theorem cKf:OkT wpd:=okV (by decide) (by decide)
theorem cKe:OkT wq1:=okw (by decide) (by decide) (by decide) (by decide) (by decide) okn (okc (okV (by decide) (by decide)) okn)
theorem cGo:OkT wq2:=okw (by decide) (by decide) (by decide) (by decide) (by decide) (okc (okV (by decide) (by decide)) okn) okn
theorem cGr:OkT (tL [tN 2] []):=okw (by decide) (by decide) (by decide) (by decide) (by decide) (okc (okN (by decide)) okn) okn
theorem smW:Small wS:=⟨by decide,by decide,by decide,by decide,by decide⟩
theorem aVl:OkS wS:=⟨by decide,by simp[wS],by decide,by simp[wS],by decide,by simp[wS],by decide,by simp[wS],by decide,by decide,by decide,by simp[wS]⟩
theorem bOj{m:Nat}:OkU m []:=⟨bJ _,fun p h=>by cases h⟩
theorem bVc{m:Nat}{x:Str}{t:LTerm}{u:LSub}(ht:OkT t)(h:OkU m u):OkU (m+1) ((x,t)::u):=⟨by have:=h.1;simp;omega,fun p hp=>by
 rcases cH.1 hp with rfl|hp
 ·exact ht
 ·exact h.2 p hp⟩
theorem cGn:OkU 100000 wu:=bVc cGr (bVc (okN (by decide)) bOj)
theorem cKd:OkU 100000 wb:=bVc cGr (bVc (okN (by decide)) (bVc (okN (by decide)) bOj))
theorem nm0:∀q∈([]:LSub),q.1.length≤140737488355328:=fun q h=>by cases h
theorem nmc{x:Str}{t:LTerm}{u:LSub}(hx:x.length≤100)(h:∀q∈u,q.1.length≤140737488355328):∀q∈(x,t)::u,q.1.length≤140737488355328:=fun q hq=>by
 rcases cH.1 hq with rfl|hq
 ·show x.length≤_;omega
 ·exact h q hq
theorem nmu:∀q∈wu,q.1.length≤140737488355328:=nmc (by decide) (nmc (by decide) nm0)
theorem nmb:∀q∈wb,q.1.length≤140737488355328:=nmc (by decide) (nmc (by decide) (nmc (by decide) nm0))
def W0:List LTerm→Bool:=fun _=>false
theorem cFt:AscU wu:=vL (s:=wS) (by kernel_rfl)
theorem bNo:bIg W0 id wS wu (tV wX bLt):=fun so tw=>pP g0 (cDb W0 id wS wu (tV wX bLt) so tw smW cFt (by decide) rfl) (by rw[elT,pers,wJ]) (by simp[AObj.persO,persL,pers,mM,avu,lZ]) (bK _)
theorem cDa:bIg W0 id wS wu (tV wL aCw):=fun so tw=>pP g0 (cDb W0 id wS wu (tV wL aCw) so tw smW cFt (by decide) rfl) (by rw[elT,pers,wJ]) (by simp[AObj.persO,persL,pers,mM,avu,lZ]) (bK _)
theorem cJu:bIg W0 id wS wu wp1:=fun so tw=>pP g0 (cGk W0 id wS wu wp1 so tw smW (fun k hk=>by rw[aV.1 hk];exact bNo) (fun k hk=>by rw[aV.1 hk];exact cDa) (by decide) (fun h=>absurd h (by decide)) (by decide) (by decide) (by decide +kernel)) (by rw[elT,pers,wJ]) (by simp[AObj.persO,persL,pers,mM,avu,lZ]) (bK _)
theorem cCz:F6 id wu wp1=wT1:=by decide +kernel
def bJp:List (FuncId×List AV×AV):=[
 (12,[.agg (dT wS),elT wp1,elT wT1,.sl [] 0],.tup [avw [wu],.i .i64 0]),
 (12,[.agg (dT wS),elT wp2,elT wm,.sl [] 0],.tup [avw wk,.i .i64 0]),
 (12,[.agg (dT wS),elT wp3,elT wT1,.sl [] 0],.tup [avw [],.i .i64 0]),
 (12,[.agg (dT wS),elT wpd,elT (tN 1),.sl [] 0],.tup [avw [],.i .i64 2]),
 (12,[.agg (dT wS),elT (tN 1),elT (tN 2),.sl [] 0],.tup [avw [],.i .i64 0]),
 (22,[.agg (dT wS),elT wp1,avu wu],.tup [elT wT1,.i .i64 0]),
 (45,[.agg (dT wS)],cM wS),
 (44,[.agg (dT wS)],.b true),
 (70,[avu wu,.s wZ,elT (tN 3)],avu wb),
 (134,[.agg [cM wS],.mapv [] [],elT (tV wL aCw),elT wq2,.fn 76 [] []],.b true),
 (67,[.agg (dT wS),elT (tN 3)],.b true),
 (24,[elT wT1,elT wT1],.b true),
 (48,[cM wS,avu wu],.b true),
 (48,[cM wS,avu wb],.b true),
 (20,[.agg (dT wS),elT wp2],.b true),
 (20,[.agg (dT wS),elT wq1],.b true),
 (20,[.agg (dT wS),elT wq2],.b true)]
theorem pL{f:FuncId}{a:List AV}{r r':AV}(h:CT f a r)(e:r=r'):CT f a r':=e▸h
theorem km1:CT 12 [.agg (dT wS),elT wp1,elT wT1,.sl [] 0] (.tup [avw [wu],.i .i64 0]):=pL (Y8 wS wp1 wT1 [] smW aVl cGq bVd bOj nm0 (by decide) (by decide)) (by rw[show kD wS wp1 wT1 []=([wu],0) by kernel_rfl])
theorem km2:CT 12 [.agg (dT wS),elT wp2,elT wm,.sl [] 0] (.tup [avw wk,.i .i64 0]):=pL (Y8 wS wp2 wm [] smW aVl cGp cKh bOj nm0 (by decide) (by decide)) (by rw[show(kD wS wp2 wm []).2=0 by kernel_rfl];rfl)
theorem km3:CT 12 [.agg (dT wS),elT wp3,elT wT1,.sl [] 0] (.tup [avw [],.i .i64 0]):=pL (Y8 wS wp3 wT1 [] smW aVl cKg bVd bOj nm0 (by decide) (by decide)) (by rw[show kD wS wp3 wT1 []=([],0) by kernel_rfl])
theorem km4:CT 12 [.agg (dT wS),elT wpd,elT (tN 1),.sl [] 0] (.tup [avw [],.i .i64 2]):=pL (Y8 wS wpd (tN 1) [] smW aVl cKf (okN (by decide)) bOj nm0 (by decide) (by decide)) (by rw[show kD wS wpd (tN 1) []=([],2) by kernel_rfl])
theorem km5:CT 12 [.agg (dT wS),elT (tN 1),elT (tN 2),.sl [] 0] (.tup [avw [],.i .i64 0]):=pL (Y8 wS (tN 1) (tN 2) [] smW aVl (okN (by decide)) (okN (by decide)) bOj nm0 (by decide) (by decide)) (by rw[show kD wS (tN 1) (tN 2) []=([],0) by kernel_rfl])
theorem km6:CT 22 [.agg (dT wS),elT wp1,avu wu] (.tup [elT wT1,.i .i64 0]):=pL (bKn W0 id wS wp1 wu smW aVl cGq (cGn.mono (by omega)) nmu (fun _ _=>cJu) (cCz▸bVd)) (by rw[show aUm W0 id wS wp1 wu=(wT1,0) by kernel_rfl])
theorem hvW:kV wS=true:=by kernel_rfl
theorem km7:CT 45 [.agg (dT wS)] (cM wS):=aFx wS smW (jR hvW)
theorem km8:CT 44 [.agg (dT wS)] (.b true):=hvW▸aQx wS smW aVl
theorem km9:CT 70 [avu wu,.s wZ,elT (tN 3)] (avu wb):=pL (bKm wu wZ (tN 3) cFt (by kernel_rfl) (by decide)) (by rw[show X6 wu wZ (tN 3)=wb by kernel_rfl])
theorem cKr:CT 134 [.agg [cM wS],.mapv [] [],elT (tV wL aCw),elT wq2,.fn 76 [] []] (.b true):=pL (bXm wS [] (tV wL aCw) wq2 76 [] [] (fun _=>true) smW (fun x h=>by cases h) (okV (by decide) (by decide)) cGo rfl rfl fun v _=>bXr v) (by rw[show cGm (bTi wS [] (tV wL aCw) wq2) (fun _=>true)=true by kernel_rfl])
theorem cKq:CT 67 [.agg (dT wS),elT (tN 3)] (.b true):=pL (bYf wS (tN 3) smW aVl (okN (by decide))) (by rw[show(kV wS&&gI wS (tN 3))=true by kernel_rfl])
theorem cKp:CT 24 [elT wT1,elT wT1] (.b true):=pL (aYx wT1 wT1 bVd bVd) (by rw[show decide (wT1=wT1)=true from zt rfl])
theorem cKo:CT 48 [cM wS,avu wu] (.b true):=pL (aNn wS wu smW (cGn.mono (by omega)) nmu) (by rw[show mK wS wu=true by kernel_rfl])
theorem cKn:CT 48 [cM wS,avu wb] (.b true):=pL (aNn wS wb smW (cKd.mono (by omega)) nmb) (by rw[show mK wS wb=true by kernel_rfl])
theorem cKm:CT 20 [.agg (dT wS),elT wp2] (.b true):=pL (aYp wS wp2 smW aVl cGp) (by rw[show aAm wS wp2=true by kernel_rfl])
theorem cKl:CT 20 [.agg (dT wS),elT wq1] (.b true):=pL (aYp wS wq1 smW aVl cKe) (by rw[show aAm wS wq1=true by kernel_rfl])
theorem cKk:CT 20 [.agg (dT wS),elT wq2] (.b true):=pL (aYp wS wq2 smW aVl cGo) (by rw[show aAm wS wq2=true by kernel_rfl])
theorem aWm:bBf Tryz.prog G0 (cCm bJp):=bMf fun e he=>by
 simp only[bJp,cH,List.not_mem_nil,or_false]at he;rcases he with rfl|rfl|rfl|rfl|rfl|rfl|rfl|rfl|rfl|rfl|rfl|rfl|rfl|rfl|rfl|rfl|rfl;all_goals dsimp only
 all_goals first|exact km1|exact km2|exact km3|exact km4|exact km5|exact km6|exact km7|exact km8|exact km9|exact cKr|exact cKq|exact cKp|exact cKo|exact cKn|exact cKm|exact cKl|exact cKk
def cDt:FuncId→How:=fun f=>if f=75 then⟨true,true,fun i=>if i=10 then some ⟨none,[0],true,false,false,[],[41],0⟩else none⟩
 else if f=31 then⟨false,true,fun i=>if i=5 then some ⟨none,[3],false,false,false,[],[27],0⟩else none⟩else⟨false,true,fun _=>none⟩
theorem bCt:[11,15,18,25,27,31,40,41,42,43,51,60,66,68,69,74,75,122,126,127,128,136,137,138,197,198,199,248].all (fun f=>bSm Tryz.prog (cDt f).rx (cDt f).th f)=true:=by kernel_rfl
theorem bXx:CT 11 [] (.b true):=bMs cZ g0 aWm cDt (bVe bCt) 300 (by kernel_rfl)
end Go.Proofs.YtdjcggcjlphdoaaGreatDoor

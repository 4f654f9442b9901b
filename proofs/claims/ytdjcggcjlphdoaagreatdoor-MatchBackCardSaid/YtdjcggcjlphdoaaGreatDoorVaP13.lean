/-
  Functions of the chapter, as plain functions of what they are given; no condition.
-/
import Derived.Test.YtdjcggcjlphdoaaGreatDoorTeP12
import Derived.Test.YtdjcggcjlphdoaaGreatDoorTeP14
import Derived.Test.YtdjcggcjlphdoaaGreatDoorVaP12
import Derived.Test.YtdjcggcjlphdoaaGreatDoorVaP11
import Derived.Test.YtdjcggcjlphdoaaGreatDoorSoP13
set_option maxRecDepth 100000
set_option linter.unusedSimpArgs false
set_option linter.unusedVariables false
set_option maxHeartbeats 4000000
namespace Go.Proofs.YtdjcggcjlphdoaaGreatDoor
open Go Go.Vo
open Nat (reduceAdd reduceSub reduceMul reduceLeDiff reduceLT reduceEqDiff)
open Int (reduceNeg)
def aVj(s:dX)(t:LTerm):Bool:=(lL s t.text).2.2&&(decide ((lL s t.text).1.args.length=t.kids.length)&&aKe t.kids.length (fun i=>bEo s (qM s (t.kids.getD i default)) ((lL s t.text).1.args.getD i [])))
mutual
def tG(s:dX):LTerm→Bool
 | .mk k n x so ks rs=>fitsPL s ks&&(if k=6 then jE s so else if k=5 then aVj s (.mk k n x so ks rs)else true)
def fitsPL(s:dX):List LTerm→Bool
 | []=>true
 |k::l=>tG s k&&fitsPL s l
end
theorem aFo{s:dX}:∀l,fitsPL s l=l.all (tG s)
 | []=>rfl
 |k::l=>by rw[fitsPL,aFo l];rfl
theorem aNa(s:dX)(t:LTerm):tG s t=(t.kids.all (tG s)&&(if t.kind=6 then jE s t.sort else if t.kind=5 then aVj s t else true)):=by
 cases t;rw[tG,aFo];rfl
theorem bGi(s:dX)(t:LTerm)(hs:Small s)(ht:OkT t)(ih:∀k∈t.kids,CT 96 [cM s,elT k] (.b (tG s k))): CT 96 [cM s,elT t] (.b (tG s t)):=by
 refine bQ cZ Tryz.func96 g0 ?_
 ·skip;have e:=aNa s t;have hk1:=ht.kids;have c1:=aYu s t.text;obtain⟨⟨q,fn,ok⟩,hq⟩:∃p,lL s t.text=p:=⟨_,rfl⟩;simp only[aVj,hq]at e;rw[hq]at c1;(refine zs0 ?_;repeat' first|exact trivial|refine zJ ?_ ?_|refine zH fun hc=>?_);refine kI (fun(k:Nat)=>(.k::.k::.k::.k::.j::.k::.j::(rp 8 .k (.v (.i .i64 (k:Nat))::(rp 8 .j (rp 49 .k [])))))) (fun k=>[.box false (tmC t)]) (fun k=>k≤t.kids.length∧∀j,j<k→tG s (t.kids.getD j default)=true) (fun k=>t.kids.length-k) (0) _ ⟨bJ _,fun j h=>by omega⟩ rfl (by simp[hZ]) ?_;rintro k g j ⟨hk,ha⟩;have o:k<t.kids.length→CT 96 [cM s,elT (t.kids.getD k default)] (.b (tG s (t.kids.getD k default))):=fun h=>ih _ (cT h);refine zg ?_;(repeat'(first|refine gT ?_ ?_|refine gF ?_ ?_|refine gC ?_ ?_|((first|(refine dA ((o (by omega))) ?_ ?_;(focus(simp -implicitDefEqProofs (disch:=omega) only[tF,cM,zdB,go_sem,simprocAttr];done)))|(refine dA (aFw s t.sort) ?_ ?_;(focus(simp -implicitDefEqProofs (disch:=omega) only[tF,cM,zdB,go_sem,simprocAttr];done)))|(refine dA (c1) ?_ ?_;(focus(simp -implicitDefEqProofs (disch:=omega) only[tF,cM,zdB,go_sem,simprocAttr];done))));simp -implicitDefEqProofs (disch:=omega) only[tF,cM,go_sem,simprocAttr])|refine bX (by omega) ?_|(intro hr;have hc:=hr;(try simp only[zdz]at hc);simp -implicitDefEqProofs (disch:=omega) only[hr,tF,cM,go_sem,simprocAttr];(try clear hr))));all_goals first
   |exact bV (by rw[e,aGy k (by omega) hc,aO]) rfl
   |exact⟨k+1,_,⟨by omega,fD ha hc⟩,by omega,rfl,by simp⟩
   |skip
  all_goals rw[I7 (fun j hj=>ha j (by omega)),aI]at e
  all_goals first
   |(exfalso;omega)
   |exact bV (by rw[e,if_pos (by assumption)]) rfl
   |exact bV (by rw[e,if_neg (by assumption),if_neg (by assumption)]) rfl
   |exact bV (by rw[e,if_neg (by assumption),if_pos (by omega),show ok=false from hc,aO]) rfl
   |exact bV (by rw[e,if_neg (by assumption),if_pos (by omega),zf (by omega:¬q.args.length=t.kids.length),aO,aM]) rfl
   |skip
  have hn:q.args.length=t.kids.length:=by omega
  have hok:ok=true:=by assumption
  rw[if_neg (by assumption),if_pos (by omega),zt hn,aI,hok,aI]at e;refine kI (fun(k:Nat)=>(.k::.k::.k::.k::.j::(rp 5 .k (.j::.j::(rp 44 .k (.v (.i .i64 (k:Nat))::(rp 16 .j []))))))) (fun k=>(.box false (tmC t)::(g++[.box false (eU q)]))) (fun k=>k≤t.kids.length∧∀j,j<k→bEo s (qM s (t.kids.getD j default)) (q.args.getD j [])=true) (fun k=>t.kids.length-k) (0) [] ⟨bJ _,fun j h=>by omega⟩ (by simp[avs,avb,avi,avo,eU,dT]) (by simp[hZ]) ?_;rintro kk g2 j2 ⟨hkk,ha2⟩;refine zg ?_;(refine zt2 (aGa s (t.kids.getD kk default)) (cFb s (qM s (t.kids.getD kk default)) (q.args.getD kk []) hs) ?_;repeat' first|exact trivial|refine zJ ?_ ?_|refine zH fun hc=>?_);all_goals first
   |exact bV (by rw[e,wF kk (by omega) hc]) rfl
   |exact⟨kk+1,_,⟨by omega,fD ha2 hc⟩,by omega,rfl,by simp⟩
   |exact bV (by rw[e,R6 (fun j hj=>ha2 j (by omega))]) rfl
   |(exfalso;omega)
theorem bKq(s:dX)(hs:Small s):∀(t:LTerm),OkT t→CT 96 [cM s,elT t] (.b (tG s t)):=
 fH fun t hk _ ht=>bGi s t hs ht (fun k hm=>hk k hm (ht.kid k hm))
def aQq(s:dX)(t:LTerm):Bool:=iA nodeB t&&(kV s&&tG s t)
theorem bYg(s:dX)(t:LTerm)(hm:Small s)(hs:OkS s)(ht:OkT t): CT 57 [.agg (dT s),elT t] (.b (aQq s t)):=by
 refine bQ cZ Tryz.func57 g0 ?_
 ·skip;have c1:=aNr t ht;have c2:=aQx s hm hs;rw[aQq];rcases mQ (iA nodeB t)with h1|h1
  ·rcases mQ (kV s)with h2|h2
   ·rw[h1]at c1;rw[h2]at c2;(refine zt4 c1 c2 (aFx s hm (jR h2)) (bKq s hm t ht) ?_;repeat' first|exact trivial|refine zJ ?_ ?_|refine zH fun hc=>?_);all_goals exact bV (by rw[h1,h2];rfl) rfl
   ·rw[h1]at c1;rw[h2]at c2;(refine zt2 c1 c2 ?_;repeat' first|exact trivial|refine zJ ?_ ?_|refine zH fun hc=>?_);all_goals exact bV (by rw[h1,h2];rfl) rfl
  ·rw[h1]at c1;(refine zt1 c1 ?_;repeat' first|exact trivial|refine zJ ?_ ?_|refine zH fun hc=>?_);all_goals exact bV (by rw[h1];rfl) rfl
theorem bYf(s:dX)(t:LTerm)(hm:Small s)(hs:OkS s)(ht:OkT t): CT 67 [.agg (dT s),elT t] (.b (kV s&&gI s t)):=by
 refine bQ cZ Tryz.func67 g0 ?_
 ·skip;have c2:=aQx s hm hs;rcases mQ (kV s)with h2|h2
  ·rw[h2]at c2;(refine zt3 c2 (aFx s hm (jR h2)) (aYw s t hm ht) ?_;repeat' first|exact trivial|refine zJ ?_ ?_|refine zH fun hc=>?_);all_goals exact bV (by rw[h2];rfl) rfl
  ·rw[h2]at c2;(refine zt1 c2 ?_;repeat' first|exact trivial|refine zJ ?_ ?_|refine zH fun hc=>?_);all_goals exact bV (by rw[h2];rfl) rfl
def PtR(x y:AObj)(b:Bool)(h:List AObj):Prop:=∃g,h=x::y::.box false [.b b]::g
theorem cCe(x y:AObj):bSa 100 [.ptr 2 0] 3 (PtR x y) bDs cBu:=by
 refine⟨?_,?_,?_⟩
 ·rintro b h z ⟨g,rfl⟩;exact⟨g++z,rfl⟩
 ·rintro b h ⟨g,rfl⟩;simp
 ·rintro b ⟨t,d⟩ l h hP ho ⟨g,rfl⟩;have hb:=hP (t,d) (by simp);refine⟨hb,fun v hv=>hP v (by simp[hv]),?_⟩;refine(cKb t d b x y g ho (by have:=hb.2.2;dsimp only at this;omega)).mono ?_;rintro r h' ⟨rfl,z,rfl⟩;exact⟨rfl,⟨g++z,rfl⟩,aFe⟩
def aSa(s:dX)(t:LTerm):Bool:=iA nodeB t&&(tG s t&&(!oB (aQm s) false (vis t 1)&&oB bDs (decide ((uB t).2=[])) (vis t 1)))
theorem bKp(s:dX)(t:LTerm)(hs:Small s)(ht:OkT t): CT 46 [cM s,elT t] (.b (aSa s t)):=by
 refine bQ cZ Tryz.func46 g0 ?_
 ·skip;have c1:=aNr t ht;have c2:=bKq s hs t ht;rcases mQ (iA nodeB t)with hv|hv
  ·have c3:=bYd s t ht hv;have c4:=bYc t ht hv;rw[hv]at c1;rw[aSa,hv,aI];rcases mQ (tG s t)with hf|hf
   ·rw[hf]at c2;rw[hf,aI];rcases mQ (oB (aQm s) false (vis t 1))with hn|hn
    ·rw[hn]at c3;(refine zt3 c1 c2 c3 ?_;repeat' first|exact trivial|refine zJ ?_ ?_|refine zH fun hc=>?_);all_goals exact bV (by rw[hn];rfl) rfl
    ·rw[hn]at c3;rw[hn,aS,aI];generalize uB t=sv at *
     refine zh @tE ?_;(repeat'(first|refine gT ?_ ?_|refine gF ?_ ?_|refine gC ?_ ?_|((first|(refine dA (c1) ?_ ?_;(focus(simp -implicitDefEqProofs (disch:=omega) only[tE,bEq,zdB,go_sem,↓reduceIte,reduceAdd,reduceSub,reduceMul,reduceLeDiff,reduceLT,reduceEqDiff,reduceNeg,Nat.reduceBEq];done)))|(refine dA (c2) ?_ ?_;(focus(simp -implicitDefEqProofs (disch:=omega) only[tE,bEq,zdB,go_sem,↓reduceIte,reduceAdd,reduceSub,reduceMul,reduceLeDiff,reduceLT,reduceEqDiff,reduceNeg,Nat.reduceBEq];done)))|(refine dA (c3) ?_ ?_;(focus(simp -implicitDefEqProofs (disch:=omega) only[tE,bEq,zdB,go_sem,↓reduceIte,reduceAdd,reduceSub,reduceMul,reduceLeDiff,reduceLT,reduceEqDiff,reduceNeg,Nat.reduceBEq];done)))|(refine dA (c4) ?_ ?_;(focus(simp -implicitDefEqProofs (disch:=omega) only[tE,bEq,zdB,go_sem,↓reduceIte,reduceAdd,reduceSub,reduceMul,reduceLeDiff,reduceLT,reduceEqDiff,reduceNeg,Nat.reduceBEq];done))));simp -implicitDefEqProofs (disch:=omega) only[tE,bEq,go_sem,↓reduceIte,reduceAdd,reduceSub,reduceMul,reduceLeDiff,reduceLT,reduceEqDiff,reduceNeg,Nat.reduceBEq])|refine bX (by omega) ?_|(intro hr;have hc:=hr;(try simp only[zdz]at hc);simp -implicitDefEqProofs (disch:=omega) only[hr,tE,bEq,go_sem,↓reduceIte,reduceAdd,reduceSub,reduceMul,reduceLeDiff,reduceLT,reduceEqDiff,reduceNeg,Nat.reduceBEq];(try clear hr))));have cw:=fun(b:Bool)=>bLs (cCe (.box false (tmC t)) (.arr true 6 (tmC t))) (fun a=>⟨_,[],rfl⟩) t ht 1 b [] _ ⟨[],rfl⟩ (aSk (a:=false) hv);simp only[elT,aW,avt]at cw;refine fM (cw _) ?_;rintro r h' ⟨rfl,⟨g,rfl⟩,_⟩;refine zg ?_;exact bV rfl rfl
   ·rw[hf]at c2;(refine zt2 c1 c2 ?_;repeat' first|exact trivial|refine zJ ?_ ?_|refine zH fun hc=>?_);all_goals exact bV (by rw[hf];rfl) rfl
  ·rw[hv]at c1;(refine zt1 c1 ?_;repeat' first|exact trivial|refine zJ ?_ ?_|refine zH fun hc=>?_);all_goals exact bV (by rw[aSa,hv];rfl) rfl
def bSn(l:List LTerm)(t:LTerm):List LTerm:=(J6 t).foldl bHu l
def bOs(l:List LTerm):Bool:=l.all fun v => !decide (v.text=[36])
def cDc(i:Bool)(s:dX)(t:LTerm):Bool:=i&&(!T6 s t&&(yX t&&(bOs (bSn [] t)&&bSi (bSn [] t))))
theorem aAb{t:LTerm}(h:gK t false true true false false=true):t.n=0∧t.kids=[]∧t.rest=[]:=by
 simp only[gK,aA,cC,decide_eq_true_eq,aE,false_or,true_or,and_true]at h;exact⟨h.1.1,h.1.2,h.2⟩
structure aCi(v:LTerm):Prop where
 n:v.n=0
 kids:v.kids=[]
 rest:v.rest=[]
 text:v.text ≠ []
theorem aVt{x:Str}(h:eQ x=true):x ≠ []:=by
 rintro rfl;simp[eQ]at h
theorem bEj{t:LTerm}(h:nodeB t=true)(h6:t.kind=6):aCi t:=by
 have hh:nodeB t=(if yM t.text=true then decide (t.sort=cBt)&&gK t false true true false false else eQ t.text&&eQ t.sort&&gK t false true true false false):=by simp only[nodeB,h6,Int.reduceEq,if_false,if_true]
 rw[hh]at h;split at h
 ·rename_i ho;simp only[aA]at h;obtain⟨a,b,c⟩:=aAb h.2;refine⟨a,b,c,fun e=>?_⟩;rw[e]at ho;simp[yM]at ho
 ·simp only[aA]at h;obtain⟨a,b,c⟩:=aAb h.2;exact⟨a,b,c,aVt h.1.1⟩
theorem bCy{t r:LTerm}(h:nodeB t=true)(hr:r∈t.rest):aCi r:=by
 have h1:=uC h hr;have z0:∀{a b c d},gK t a b c d false=true→t.rest=[]:=by
  intro a b c d h;simp only[gK,aA,cC,decide_eq_true_eq,aE,false_or]at h;exact h.2
 have r0:∀{s},oH t s=true→r.n=0:=by
  intro s h;simp only[oH,aA,cC,decide_eq_true_eq]at h;have hl:0<t.rest.length:=iI hr;rcases h with h|h
  ·omega
  ·obtain⟨⟨⟨⟨h1,hk⟩,hn⟩,_⟩,hz⟩:=h;obtain⟨x,hx⟩:=nI.1 h1;rw[hx]at hr hz;rw[aV]at hr;subst hr;exact(aAb hz).1
 refine⟨?_,h1.2.2.1,h1.2.2.2,aVt h1.2.1⟩;have hh:=h;unfold nodeB at hh;repeat' split at hh
 all_goals try simp only[aA]at hh
 all_goals first
  |exact absurd hr (by rw[z0 hh.2];simp)
  |exact r0 hh.1
  |exact r0 hh.1.1
  |cases hh
theorem bLu:∀t:LTerm,wfT nodeB t=true→∀d:Int,∀v∈vis t d,v.1.kind=6→aCi v.1:=
 fH (Q := fun t=>wfT nodeB t=true→∀d:Int,∀v∈vis t d,v.1.kind=6→aCi v.1) fun t hk hr hw d v hv h6=>by
  have hw':=gS.1 hw;rw[pW,oW,cH,bM]at hv;rcases hv with rfl|hv|hv
  ·exact bEj hw'.1 h6
  ·have L:∀l:List LTerm,(∀k∈l,k∈t.kids)→v∈visL l (d+1)→aCi v.1:=by
    intro l;induction l with
    |nil=>intro _ h;cases h
    |cons x l ih=>
     intro hm h;rw[visL,bM]at h;rcases h with h|h
     ·exact hk x (hm x (by simp)) (hw'.2 x (hm x (by simp))) (d+1) v h h6
     ·exact ih (fun k hk=>hm k (by simp[hk])) h
   exact L t.kids (fun _ h=>h) hv
  ·have L:∀l:List LTerm,(∀k∈l,k∈t.rest)→v∈visL l (d+1)→aCi v.1:=by
    intro l;induction l with
    |nil=>intro _ h;cases h
    |cons x l ih=>
     intro hm h;rw[visL,bM]at h;rcases h with h|h
     ·have hx:=uC hw'.1 (hm x (by simp));rw[vJ hx.2.2.1 hx.2.2.2,aV]at h;subst h;exact bCy hw'.1 (hm x (by simp))
     ·exact ih (fun k hk=>hm k (by simp[hk])) h
   exact L t.rest (fun _ h=>h) hv
theorem xV{t x:LTerm}(hw:wfT nodeB t=true)(h:x∈J6 t):aCi x∧x.kind=6:=by
 have h2:=jV.1 h;obtain⟨v,hv,rfl⟩:=dS.1 h2.1;have h6:v.1.kind=6:=by have:=h2.2;simp only[isV,aA,decide_eq_true_eq]at this;exact this.1
 exact⟨bLu t hw 1 v hv h6,h6⟩
theorem aUw{a b:LTerm}(ha:aCi a∧a.kind=6)(hb:aCi b∧b.kind=6)(h:N6 a=N6 b):a=b:=by
 obtain⟨⟨a1,a2,a3,_⟩,a4⟩:=ha;obtain⟨⟨b1,b2,b3,_⟩,b4⟩:=hb;cases a;cases b;simp only[N6,LTerm.text,LTerm.sort,bH,LTerm.n,LTerm.kids,LTerm.rest,LTerm.kind]at *
 subst_vars;rw[h.1,h.2]
theorem bDr(s:dX)(t:LTerm):aSa s t=cDc (iA nodeB t&&tG s t) s t:=by
 rw[aSa,cDc];rcases mQ (iA nodeB t)with hv|hv
 ·rcases mQ (tG s t)with hf|hf
  ·rw[hv,hf]
   simp only[aI];have hw:wfT nodeB t=true:=by simp only[iA,aA]at hv;exact hv.1.1
   rw[aMv,aAn,cU,aWt s t hw 1,aWn t hw 1];have hp:=fun x hx=>xV (x:=x) hw hx;have e1:decide ((uB t).2=[])=bSi (bSn [] t):=by
    rw[fA,decide_eq_true_eq,bSn,aVk (fun a ha b hb=>aUw (hp a ha) (hp b hb)),uB,aLg,J6];refine bMi fun x hx=>?_;obtain⟨v,hv,rfl⟩:=dS.1 hx;exact(hp v hv).1.text
   have e2:bOs (bSn [] t) = !dol t 1:=by
    have hm:=(aCd (J6 t) [] fI).2;rw[fA,bOs,bF,eF,dol,fQ];constructor
    ·intro h v hv;intro q;simp only[aA,decide_eq_true_eq]at q;have hx:v.1∈J6 t:=jV.2 ⟨dS.2 ⟨v,hv,rfl⟩,by simp[isV,q.1,q.2]⟩;have:=h v.1 ((hm v.1).2 (.inr hx));simp[q.2]at this
    ·intro h x hx;have hx:=((hm x).1 hx).resolve_left (by simp);have h2:=jV.1 hx;obtain⟨v,hv,rfl⟩:=dS.1 h2.1;have:=h v hv;simp only[(hp v.1 hx).2,decide_true,aI,decide_eq_true_eq]at this;simp[this]
   rw[e1,e2];cases T6 s t<;>cases yX t<;>cases dol t 1<;>cases bSi (bSn [] t)<;>rfl
  ·rw[hf];simp
 ·rw[hv];simp
def aAm(s:dX)(t:LTerm):Bool:=kV s&&aSa s t
theorem aYp(s:dX)(t:LTerm)(hm:Small s)(hs:OkS s)(ht:OkT t): CT 20 [.agg (dT s),elT t] (.b (aAm s t)):=by
 refine iS (rx:=true) (th:=fun _=>none) cZ Tryz.func20 g0 ?_
 ·simp -implicitDefEqProofs (disch:=omega) only[Tryz.f20,go_sem,List.replicate,simprocAttr];have c2:=aQx s hm hs;have c3:=bKp s t hm ht;rw[aAm];rcases mQ (kV s)with h2|h2
  ·rw[h2]at c2;(refine zt3 c2 (aFx s hm (jR h2)) c3 ?_;repeat' first|exact trivial|refine zJ ?_ ?_|refine zH fun hc=>?_);all_goals exact bV (by rw[h2];rfl) rfl
  ·rw[h2]at c2;(refine zt1 c2 ?_;repeat' first|exact trivial|refine zJ ?_ ?_|refine zH fun hc=>?_);all_goals exact bV (by rw[h2];rfl) rfl
theorem aPz{s:dX}{t:LTerm}(h:aAm s t=true):iA nodeB t=true:=by
 rw[aAm,aSa,aA,aA]at h;exact h.2.1
end Go.Proofs.YtdjcggcjlphdoaaGreatDoor

/-
  Functions of the chapter, as plain functions of what they are given; no condition.
-/
import Derived.Test.YtdjcggcjlphdoaaGreatDoorTeP53
import Derived.Test.YtdjcggcjlphdoaaGreatDoorTeP55
import Derived.Test.YtdjcggcjlphdoaaGreatDoorVaP52
import Derived.Test.YtdjcggcjlphdoaaGreatDoorVaP51
import Derived.Test.YtdjcggcjlphdoaaGreatDoorSoP53
set_option maxRecDepth 100000
set_option linter.unusedSimpArgs false
set_option linter.unusedVariables false
set_option maxHeartbeats 4000000
namespace Go.Proofs.YtdjcggcjlphdoaaGreatDoor
open Go Go.Vo
open Nat (reduceAdd reduceSub reduceMul reduceLeDiff reduceLT reduceEqDiff)
open Int (reduceNeg)
def aJs(s:dF)(t:LTerm):Bool:=(called s t.text).2.2&&(decide ((called s t.text).1.args.length=t.kids.length)&&Q1 t.kids.length (fun i=>aSr s (jU s (t.kids.getD i default)) ((called s t.text).1.args.getD i [])))
mutual
def qE(s:dF):LTerm→Bool
 | .mk k n x so ks rs=>fitsPL s ks&&(if k=6 then existsA s so else if k=5 then aJs s (.mk k n x so ks rs)else true)
def fitsPL(s:dF):List LTerm→Bool
 | []=>true
 |k::l=>qE s k&&fitsPL s l
end
theorem aEe{s:dF}:∀l,fitsPL s l=l.all (qE s)
 | []=>rfl
 |k::l=>by rw[fitsPL,aEe l];rfl
theorem aKo(s:dF)(t:LTerm):qE s t=(t.kids.all (qE s)&&(if t.kind=6 then existsA s t.sort else if t.kind=5 then aJs s t else true)):=by
 cases t;rw[qE,aEe];rfl
theorem bBu(s:dF)(t:LTerm)(hs:Small s)(ht:OkT t)(ih:∀k∈t.kids,CT 96 [cD s,elT k] (.b (qE s k))): CT 96 [cD s,elT t] (.b (qE s t)):=by
 refine aZ cI Tryz.func96 g0 ?_
 ·skip;have e:=aKo s t;have hk1:=ht.kids;have c1:=aVe s t.text;obtain⟨⟨q,fn,ok⟩,hq⟩:∃p,called s t.text=p:=⟨_,rfl⟩;simp only[aJs,hq]at e;rw[hq]at c1;(refine zs0 ?_;repeat' first|exact trivial|refine zJ ?_ ?_|refine zH fun hc=>?_);refine gW (fun(k:Nat)=>(.k::.k::.k::.k::.j::.k::.j::(rp 8 .k (.v (.i .i64 (k:Nat))::(rp 8 .j (rp 49 .k [])))))) (fun k=>[.box false (tmC t)]) (fun k=>k≤t.kids.length∧∀j,j<k→qE s (t.kids.getD j default)=true) (fun k=>t.kids.length-k) (0) _ ⟨aR _,fun j h=>by omega⟩ rfl (by simp[fO]) ?_;rintro k g j ⟨hk,ha⟩;have o:k<t.kids.length→CT 96 [cD s,elT (t.kids.getD k default)] (.b (qE s (t.kids.getD k default))):=fun h=>ih _ (cC h);refine zg ?_;(repeat'(first|refine gT ?_ ?_|refine gF ?_ ?_|refine gC ?_ ?_|((first|(refine bM ((o (by omega))) ?_ ?_;(focus(simp -implicitDefEqProofs (disch:=omega) only[sW,cD,zdB,go_sem,simprocAttr];done)))|(refine bM (aEp s t.sort) ?_ ?_;(focus(simp -implicitDefEqProofs (disch:=omega) only[sW,cD,zdB,go_sem,simprocAttr];done)))|(refine bM (c1) ?_ ?_;(focus(simp -implicitDefEqProofs (disch:=omega) only[sW,cD,zdB,go_sem,simprocAttr];done))));simp -implicitDefEqProofs (disch:=omega) only[sW,cD,go_sem,simprocAttr])|refine aU (by omega) ?_|(intro hr;have hc:=hr;(try simp only[zdz]at hc);simp -implicitDefEqProofs (disch:=omega) only[hr,sW,cD,go_sem,simprocAttr];(try clear hr))));all_goals first
   |exact aV (by rw[e,yT k (by omega) hc,Bool.false_and]) rfl
   |exact⟨k+1,_,⟨by omega,cR ha hc⟩,by omega,rfl,by simp⟩
   |skip
  all_goals rw[pX (fun j hj=>ha j (by omega)),Bool.true_and]at e
  all_goals first
   |(exfalso;omega)
   |exact aV (by rw[e,if_pos (by assumption)]) rfl
   |exact aV (by rw[e,if_neg (by assumption),if_neg (by assumption)]) rfl
   |exact aV (by rw[e,if_neg (by assumption),if_pos (by omega),show ok=false from hc,Bool.false_and]) rfl
   |exact aV (by rw[e,if_neg (by assumption),if_pos (by omega),zf (by omega:¬q.args.length=t.kids.length),Bool.false_and,Bool.and_false]) rfl
   |skip
  have hn:q.args.length=t.kids.length:=by omega
  have hok:ok=true:=by assumption
  rw[if_neg (by assumption),if_pos (by omega),zt hn,Bool.true_and,hok,Bool.true_and]at e;refine gW (fun(k:Nat)=>(.k::.k::.k::.k::.j::(rp 5 .k (.j::.j::(rp 44 .k (.v (.i .i64 (k:Nat))::(rp 16 .j []))))))) (fun k=>(.box false (tmC t)::(g++[.box false (bG q)]))) (fun k=>k≤t.kids.length∧∀j,j<k→aSr s (jU s (t.kids.getD j default)) (q.args.getD j [])=true) (fun k=>t.kids.length-k) (0) [] ⟨aR _,fun j h=>by omega⟩ (by simp[avs,avb,avi,avo,bG,bX]) (by simp[fO]) ?_;rintro kk g2 j2 ⟨hkk,ha2⟩;refine zg ?_;(refine zt2 (aEs s (t.kids.getD kk default)) (bZc s (jU s (t.kids.getD kk default)) (q.args.getD kk []) hs) ?_;repeat' first|exact trivial|refine zJ ?_ ?_|refine zH fun hc=>?_);all_goals first
   |exact aV (by rw[e,iZ kk (by omega) hc]) rfl
   |exact⟨kk+1,_,⟨by omega,cR ha2 hc⟩,by omega,rfl,by simp⟩
   |exact aV (by rw[e,mH (fun j hj=>ha2 j (by omega))]) rfl
   |(exfalso;omega)
theorem bFv(s:dF)(hs:Small s):∀(t:LTerm),OkT t→CT 96 [cD s,elT t] (.b (qE s t)):=
 fG fun t hk _ ht=>bBu s t hs ht (fun k hm=>hk k hm (ht.kid k hm))
def aUa(s:dF)(t:LTerm):Bool:=iQ dQ t&&(fM s&&qE s t)
theorem bSp(s:dF)(t:LTerm)(hm:Small s)(hs:OkS s)(ht:OkT t): CT 57 [.agg (bX s),elT t] (.b (aUa s t)):=by
 refine aZ cI Tryz.func57 g0 ?_
 ·skip;have c1:=aLg t ht;have c2:=aOg s hm hs;rw[aUa];rcases kC (iQ dQ t)with h1|h1
  ·rcases kC (fM s)with h2|h2
   ·rw[h1]at c1;rw[h2]at c2;(refine zt4 c1 c2 (aEr s hm (jF h2)) (bFv s hm t ht) ?_;repeat' first|exact trivial|refine zJ ?_ ?_|refine zH fun hc=>?_);all_goals exact aV (by rw[h1,h2];rfl) rfl
   ·rw[h1]at c1;rw[h2]at c2;(refine zt2 c1 c2 ?_;repeat' first|exact trivial|refine zJ ?_ ?_|refine zH fun hc=>?_);all_goals exact aV (by rw[h1,h2];rfl) rfl
  ·rw[h1]at c1;(refine zt1 c1 ?_;repeat' first|exact trivial|refine zJ ?_ ?_|refine zH fun hc=>?_);all_goals exact aV (by rw[h1];rfl) rfl
theorem bSo(s:dF)(t:LTerm)(hm:Small s)(hs:OkS s)(ht:OkT t): CT 67 [.agg (bX s),elT t] (.b (fM s&&fN s t)):=by
 refine aZ cI Tryz.func67 g0 ?_
 ·skip;have c2:=aOg s hm hs;rcases kC (fM s)with h2|h2
  ·rw[h2]at c2;(refine zt3 c2 (aEr s hm (jF h2)) (aVg s t hm ht) ?_;repeat' first|exact trivial|refine zJ ?_ ?_|refine zH fun hc=>?_);all_goals exact aV (by rw[h2];rfl) rfl
  ·rw[h2]at c2;(refine zt1 c2 ?_;repeat' first|exact trivial|refine zJ ?_ ?_|refine zH fun hc=>?_);all_goals exact aV (by rw[h2];rfl) rfl
def PtR(x y:AObj)(b:Bool)(h:List AObj):Prop:=∃g,h=x::y::.box false [.b b]::g
theorem bWj(x y:AObj):bMz 100 [.ptr 2 0] 3 (PtR x y) aZj bWa:=by
 refine⟨?_,?_,?_⟩
 ·rintro b h z ⟨g,rfl⟩;exact⟨g++z,rfl⟩
 ·rintro b h ⟨g,rfl⟩;simp
 ·rintro b ⟨t,d⟩ l h hP ho ⟨g,rfl⟩;have hb:=hP (t,d) (by simp);refine⟨hb,fun v hv=>hP v (by simp[hv]),?_⟩;refine(cEi t d b x y g ho (by have:=hb.2.2;dsimp only at this;omega)).mono ?_;rintro r h' ⟨rfl,z,rfl⟩;exact⟨rfl,⟨g++z,rfl⟩,aDw⟩
def aZi(s:dF)(t:LTerm):Bool:=iQ dQ t&&(qE s t&&(!A8 (aNx s) false (vis t 1)&&A8 aZj (decide ((tJ t).2=[])) (vis t 1)))
theorem bFt(s:dF)(t:LTerm)(hs:Small s)(ht:OkT t): CT 46 [cD s,elT t] (.b (aZi s t)):=by
 refine aZ cI Tryz.func46 g0 ?_
 ·skip;have c1:=aLg t ht;have c2:=bFv s hs t ht;rcases kC (iQ dQ t)with hv|hv
  ·have c3:=bSg s t ht hv;have c4:=bSf t ht hv;rw[hv]at c1;rw[aZi,hv,Bool.true_and];rcases kC (qE s t)with hf|hf
   ·rw[hf]at c2;rw[hf,Bool.true_and];rcases kC (A8 (aNx s) false (vis t 1))with hn|hn
    ·rw[hn]at c3;(refine zt3 c1 c2 c3 ?_;repeat' first|exact trivial|refine zJ ?_ ?_|refine zH fun hc=>?_);all_goals exact aV (by rw[hn];rfl) rfl
    ·rw[hn]at c3;rw[hn,Bool.not_false,Bool.true_and];generalize tJ t=sv at *
     refine zh @mL ?_;(repeat'(first|refine gT ?_ ?_|refine gF ?_ ?_|refine gC ?_ ?_|((first|(refine bM (c1) ?_ ?_;(focus(simp -implicitDefEqProofs (disch:=omega) only[mL,bAc,zdB,go_sem,↓reduceIte,reduceAdd,reduceSub,reduceMul,reduceLeDiff,reduceLT,reduceEqDiff,reduceNeg,Nat.reduceBEq];done)))|(refine bM (c2) ?_ ?_;(focus(simp -implicitDefEqProofs (disch:=omega) only[mL,bAc,zdB,go_sem,↓reduceIte,reduceAdd,reduceSub,reduceMul,reduceLeDiff,reduceLT,reduceEqDiff,reduceNeg,Nat.reduceBEq];done)))|(refine bM (c3) ?_ ?_;(focus(simp -implicitDefEqProofs (disch:=omega) only[mL,bAc,zdB,go_sem,↓reduceIte,reduceAdd,reduceSub,reduceMul,reduceLeDiff,reduceLT,reduceEqDiff,reduceNeg,Nat.reduceBEq];done)))|(refine bM (c4) ?_ ?_;(focus(simp -implicitDefEqProofs (disch:=omega) only[mL,bAc,zdB,go_sem,↓reduceIte,reduceAdd,reduceSub,reduceMul,reduceLeDiff,reduceLT,reduceEqDiff,reduceNeg,Nat.reduceBEq];done))));simp -implicitDefEqProofs (disch:=omega) only[mL,bAc,go_sem,↓reduceIte,reduceAdd,reduceSub,reduceMul,reduceLeDiff,reduceLT,reduceEqDiff,reduceNeg,Nat.reduceBEq])|refine aU (by omega) ?_|(intro hr;have hc:=hr;(try simp only[zdz]at hc);simp -implicitDefEqProofs (disch:=omega) only[hr,mL,bAc,go_sem,↓reduceIte,reduceAdd,reduceSub,reduceMul,reduceLeDiff,reduceLT,reduceEqDiff,reduceNeg,Nat.reduceBEq];(try clear hr))));have cw:=fun(b:Bool)=>bHd (bWj (.box false (tmC t)) (.arr true 6 (tmC t))) (fun a=>⟨_,[],rfl⟩) t ht 1 b [] _ ⟨[],rfl⟩ (aPr (a:=false) hv);simp only[elT,aI,avt]at cw;refine jC (cw _) ?_;rintro r h' ⟨rfl,⟨g,rfl⟩,_⟩;refine zg ?_;exact aV rfl rfl
   ·rw[hf]at c2;(refine zt2 c1 c2 ?_;repeat' first|exact trivial|refine zJ ?_ ?_|refine zH fun hc=>?_);all_goals exact aV (by rw[hf];rfl) rfl
  ·rw[hv]at c1;(refine zt1 c1 ?_;repeat' first|exact trivial|refine zJ ?_ ?_|refine zH fun hc=>?_);all_goals exact aV (by rw[aZi,hv];rfl) rfl
theorem bGt{l:List LTerm}{f:LTerm→Bool}{k:Nat}(hk:k<l.length)(h:f (l.getD k default)=true):l.any f=true:=pY.2 ⟨_,cC hk,h⟩
theorem bGs{l:List LTerm}{f:LTerm→Bool}(h:∀j,j<l.length→f (l.getD j default)=false):l.any f=false:=by
 rw[oL];intro x hx;obtain⟨j,hj,rfl⟩:=dG.1 hx;have:=h j hj;simpa[List.getD,hj]using this
theorem N3{f:Nat→Bool}{k:Nat}(h:∀j,j<k→f j=false)(hk:f k=false):∀j,j<k+1→f j=false:=fun j hj=>by
 rcases qJ.1 hj with h1|rfl
 ·exact h j h1
 ·exact hk
theorem bBp(s:dF)(t:LTerm)(hm:Small s)(ht:OkT t)(ih:∀k∈t.kids,CT 114 [.agg (bX s),elT k] (.b (qZ s k))): CT 114 [.agg (bX s),elT t] (.b (qZ s t)):=by
 refine aZ cI Tryz.func114 g0 ?_
 ·skip;have e:=aKk s t;have hk1:=ht.kids;have c1:=aLk s.ops t.text (by have:=hm.ops;omega);have o:∀k,k<t.kids.length→CT 114 [.agg (bX s),elT (t.kids.getD k default)] (.b (qZ s (t.kids.getD k default))):=fun k h=>ih _ (cC h);by_cases h5:t.kind=5
  ·cases hf:s.ops.find? fun o=>decide (o.name=t.text)with
   |none=>
    rw[hf]at c1 e;refine zh (zt h5) ?_;(repeat'(first|refine gT ?_ ?_|refine gF ?_ ?_|refine gC ?_ ?_|((refine bM (c1) ?_ ?_;(focus(simp -implicitDefEqProofs (disch:=omega) only[zt h5,iV,zdB,go_sem,simprocAttr];done)));simp -implicitDefEqProofs (disch:=omega) only[zt h5,iV,go_sem,simprocAttr])|refine aU (by omega) ?_|(intro hr;have hc:=hr;(try simp only[zdz]at hc);simp -implicitDefEqProofs (disch:=omega) only[hr,zt h5,iV,go_sem,simprocAttr];(try clear hr))));all_goals exact aV (by rw[e,zt h5];rfl) rfl
   |some q=>
    rw[hf]at c1 e;rw[aO,Bool.and_false,cV]at e;refine zh (zt h5) ?_;(repeat'(first|refine gT ?_ ?_|refine gF ?_ ?_|refine gC ?_ ?_|((refine bM (c1) ?_ ?_;(focus(simp -implicitDefEqProofs (disch:=omega) only[zt h5,iV,zdB,go_sem,simprocAttr];done)));simp -implicitDefEqProofs (disch:=omega) only[zt h5,iV,go_sem,simprocAttr])|refine aU (by omega) ?_|(intro hr;have hc:=hr;(try simp only[zdz]at hc);simp -implicitDefEqProofs (disch:=omega) only[hr,zt h5,iV,go_sem,simprocAttr];(try clear hr))));refine gW (fun(k:Nat)=>(.k::.k::.k::.k::.j::.k::.k::.k::.j::(rp 16 .k (.v (.i .i64 (k:Nat))::(rp 7 .j []))))) (fun k=>[.box false (bX s),.box false (tmC t)]) (fun k=>k≤t.kids.length∧∀j,j<k→qZ s (t.kids.getD j default)=false) (fun k=>t.kids.length-k) (0) _ ⟨aR _,fun j h=>by omega⟩ rfl (by simp[fO]) ?_;rintro k g j ⟨hk,ha⟩;refine zg ?_;(refine zt1 (o k) ?_;repeat' first|exact trivial|refine zJ ?_ ?_|refine zH fun hc=>?_);all_goals first
     |exact aV (by rw[e,bGt (by omega) hc]) rfl
     |exact⟨k+1,_,⟨by omega,N3 ha hc⟩,by omega,rfl,by simp⟩
     |exact aV (by rw[e,bGs (fun j hj=>ha j (by omega))]) rfl
     |(exfalso;omega)
  ·rw[zf h5,Bool.false_and,cV]at e;refine zh (zf h5) ?_;(refine zx0 (zf h5) ?_;repeat' first|exact trivial|refine zJ ?_ ?_|refine zH fun hc=>?_);refine gW (fun(k:Nat)=>(.k::.k::.k::.k::.j::.k::.k::.k::.j::(rp 16 .k (.v (.i .i64 (k:Nat))::(rp 7 .j []))))) (fun k=>[.box false (bX s),.box false (tmC t)]) (fun k=>k≤t.kids.length∧∀j,j<k→qZ s (t.kids.getD j default)=false) (fun k=>t.kids.length-k) (0) _ ⟨aR _,fun j h=>by omega⟩ rfl (by simp[fO]) ?_;rintro k g j ⟨hk,ha⟩;refine zg ?_;(refine zt1 (o k) ?_;repeat' first|exact trivial|refine zJ ?_ ?_|refine zH fun hc=>?_);all_goals first
    |exact aV (by rw[e,bGt (by omega) hc]) rfl
    |exact⟨k+1,_,⟨by omega,N3 ha hc⟩,by omega,rfl,by simp⟩
    |exact aV (by rw[e,bGs (fun j hj=>ha j (by omega))]) rfl
    |(exfalso;omega)
theorem bFs(s:dF)(hm:Small s):∀(t:LTerm),OkT t→CT 114 [.agg (bX s),elT t] (.b (qZ s t)):=
 fG fun t hk _ ht=>bBp s t hm ht (fun k hmm=>hk k hmm (ht.kid k hmm))
theorem bBo(t:LTerm)(ht:OkT t)(ih:∀k∈t.kids,CT 115 [elT k] (.b (qX k))): CT 115 [elT t] (.b (qX t)):=by
 refine aZ cI Tryz.func115 g0 ?_
 ·skip;have e:=aKh t;obtain⟨b8,hb8⟩:∃b,decide (t.kind=8)=b:=⟨_,rfl⟩;rw[hb8]at e;have hk1:=ht.kids;have o:∀k,k<t.kids.length→CT 115 [elT (t.kids.getD k default)] (.b (qX (t.kids.getD k default))):=fun k h=>ih _ (cC h);have q:∀k,k<t.kids.length→OkT (t.kids.getD k default):=fun k h=>ht.kid _ (cC h);(refine zs0 ?_;repeat' first|exact trivial|refine zJ ?_ ?_|refine zH fun hc=>?_);refine gW (fun(k:Nat)=>(.k::.k::.j::.j::.j::.k::.k::.k::.v (.i .i64 (k:Nat))::(rp 32 .j []))) (fun k=>[.box false (tmC t)]) (fun k=>k≤t.kids.length∧∀j,j<k→(qX (t.kids.getD j default)&&bEv b8 j (t.kids.getD j default))=true) (fun k=>t.kids.length-k) (0) _ ⟨aR _,fun j h=>by omega⟩ rfl (by simp[fO]) ?_;rintro k g j ⟨hk,ha⟩;have hmod:((k:Nat):Int).tmod 2=((k % 2:Nat):Int):=rfl;refine zh hmod ?_;(repeat'(first|refine gT ?_ ?_|refine gF ?_ ?_|refine gC ?_ ?_|((first|(refine bM ((o k (by omega))) ?_ ?_;(focus(simp -implicitDefEqProofs (disch:=omega) only[hmod,Int.reduceEq,zdB,go_sem,simprocAttr];done)))|refine cF (bGi (t.kids.getD k default)) ?_|refine cF (P8 (t.kids.getD k default).text (q k (by omega)).text) ?_);simp -implicitDefEqProofs (disch:=omega) only[hmod,Int.reduceEq,go_sem,simprocAttr])|refine aU (by omega) ?_|(intro hr;have hc:=hr;(try simp only[zdz]at hc);simp -implicitDefEqProofs (disch:=omega) only[hr,hmod,Int.reduceEq,go_sem,simprocAttr];(try clear hr))));all_goals try simp only[Int.natCast_eq_zero]at *
  all_goals first
   |exact aV (by rw[e,iZ k (by omega) (by simp_all[bEv])]) rfl
   |exact⟨k+1,_,⟨by omega,cR ha (by simp_all[bEv])⟩,by omega,rfl,by simp⟩
   |exact aV (by rw[e,mH (fun j hj=>ha j (by omega))]) rfl
theorem bFr:∀(t:LTerm),OkT t→CT 115 [elT t] (.b (qX t)):=
 fG fun t hk _ ht=>bBo t ht (fun k hmm=>hk k hmm (ht.kid k hmm))
theorem G3:∀(t:LTerm) (d e:Int),(vis t d).map (·.1)=(vis t e).map (·.1):=
 fG (Q:=fun t=>∀d e:Int,(vis t d).map (·.1)=(vis t e).map (·.1)) fun t hk hr d e=>by
  have L:∀(l:List LTerm) (d e:Int),(∀k∈l,∀d e:Int,(vis k d).map (·.1)=(vis k e).map (·.1))→(visL l d).map (·.1)=(visL l e).map (·.1):=by
   intro l;induction l with
   |nil=>intro d e _;rfl
   |cons x l ih=>intro d e h;rw[visL,visL,bO,bO,h x (by simp) d e,ih d e (fun k hk=>h k (by simp[hk]))]
  rw[oN,oN,aK,aK,L (t.kids++t.rest) (d+1) (e+1) fun k hm=>by
   rcases cJ.1 hm with hm|hm
   ·exact hk k hm
   ·exact hr k hm]
def vZ(l:List LTerm)(t:LTerm):List LTerm:=(P0 t).foldl F5 l
theorem aXd(l:List LTerm)(t:LTerm):vZ l t=t.rest.foldl vZ (t.kids.foldl vZ (if isV t=true then F5 l t else l)):=by
 have L:∀(ks:List LTerm) (d:Int) (l:List LTerm),(((visL ks d).map (·.1)).filter isV).foldl F5 l=ks.foldl vZ l:=by
  intro ks;induction ks with
  |nil=>intro d l;rfl
  |cons x ks ih=>
   intro d l;rw[visL,bO,F8,oJ,ih,jK,vZ,P0,G3 x d 1]
 rw[vZ,P0,oN,lP,aK,bO,aW];split
 ·rw[jK,F8,oJ,L,L]
 ·rw[F8,oJ,L,L]
def pD(t:LTerm):Prop:=∀v∈vis t 1,(v.1.kind=6→v.1.kids=[]∧v.1.rest=[])∧v.1.kids.length+v.1.rest.length≤1000000
theorem pD.at{t:LTerm}(h:pD t):(t.kind=6→t.kids=[]∧t.rest=[])∧t.kids.length+t.rest.length≤1000000:=h (t,1) (by rw[oN];simp)
theorem pD.kid{t k:LTerm}(h:pD t)(hk:k∈t.kids++t.rest):pD k:=by
 intro v hv;have L:∀(l:List LTerm) (d:Int),k∈l→∃w∈visL l d,w.1=v.1:=by
  intro l;induction l with
  |nil=>intro d h;cases h
  |cons x l ih=>
   intro d h;rw[visL];rcases dD.1 h with rfl|h
   ·have hm:v.1∈(vis k d).map (·.1):=by rw[G3 k d 1];exact dP.2 ⟨v,hv,rfl⟩
    obtain⟨w,hw,he⟩:=dP.1 hm;exact⟨w,dT _ hw,he⟩
   ·obtain⟨w,hw,he⟩:=ih d h;exact⟨w,eD _ hw,he⟩
 obtain⟨w,hw,he⟩:=L (t.kids++t.rest) 2 hk;rw[← he];exact h w (by rw[oN];exact fV _ hw)
theorem oB(t:LTerm)(d e:Int):(vis t d).length=(vis t e).length:=by
 have:=congrArg List.length (G3 t d e);simpa using this
theorem bDh{l:List LTerm}{t:LTerm}:(F5 l t).length≤l.length+1:=by unfold F5;split<;>simp
abbrev SoK(l':List LTerm)(h:List AObj):AV→List AObj→Prop:=fun r h'=>gD 6 0 h' r (l'.flatMap aM) l'.length∧nA 0 h h'
theorem so1(t:LTerm)(l:List LTerm)(out:AV)(h:List AObj)(ht:OkT t)(hol:∀x∈l,OkT x)(hl:l.length≤1000000)(h6:t.kind=6)(h95:¬t.text=[95])(ho:gD 6 0 h out (l.flatMap aM) l.length): ACalls Tryz.prog G0 116 [out,elT t] h (SoK (F5 l t) h):=by
 refine gL (rx:=false) (th:=fun _=>none) cI Tryz.func116 ?_
 ·simp -implicitDefEqProofs (disch:=omega) only[Tryz.f116,go_sem,List.replicate,↓reduceIte,reduceAdd,reduceSub,reduceMul,reduceLeDiff,reduceLT,reduceEqDiff,reduceNeg,Nat.reduceBEq];have hk0:∀m:List AObj,nA 0 h (h++m):=fun m=>.app _ _ _;rcases ho with⟨rfl,hc,hn⟩|⟨i,rfl,hi,hil⟩
  ·obtain rfl:l=[]:=List.length_eq_zero_iff.1 hn;have e:F5 ([]:List LTerm) t=[t]:=by simp[F5]
   rw[e];refine zh (zA2 (zt h6) (zf h95)) ?_;(refine zx0 (zA2 (zt h6) (zf h95)) ?_;repeat' first|exact trivial|refine zJ ?_ ?_|refine zH fun hc=>?_);refine cO (fun(s:Nat)=>(.k::.k::.k::.k::.j::.k::.j::(rp 14 .k (.v (.i .i64 (0:Int))::(rp 8 .j (rp 27 .k [])))))) (fun s=>(h++[.box false (tmC t)])) (fun s=>True) (fun s=>s) (0) trivial rfl (by simp[fO]) ?_;rintro s j _;simp -implicitDefEqProofs (disch:=omega) only[go_sem,↓reduceIte,reduceAdd,reduceSub,reduceMul,reduceLeDiff,reduceLT,reduceEqDiff,reduceNeg,Nat.reduceBEq];(repeat'(first|refine gT ?_ ?_|refine gF ?_ ?_|refine gC ?_ ?_|refine aU (by omega) ?_|(intro hr;have hc:=hr;(try simp only[zdz]at hc);simp -implicitDefEqProofs (disch:=omega) only[hr,mL,go_sem,↓reduceIte,reduceAdd,reduceSub,reduceMul,reduceLeDiff,reduceLT,reduceEqDiff,reduceNeg,Nat.reduceBEq];(try clear hr))));all_goals first
    |(exfalso;omega)
    |exact⟨.inr ⟨h.length+2,rfl,by simp[aI,avt],by simp[aI]⟩,hk0 _⟩
  ·have hi2:∀m:List AObj,(h++m)[i]? = some (.arr false 6 (l.flatMap aM)):=fun m=>by rw[aG (bH hi)];exact hi
   refine zh (zA2 (zt h6) (zA2 (zf h95) hi2)) ?_;(refine zx0 (zA2 (zt h6) (zA2 (zf h95) hi2)) ?_;repeat' first|exact trivial|refine zJ ?_ ?_|refine zH fun hc=>?_);refine cO (fun(s:Nat×List AObj)=>(.k::.k::.k::.k::.j::.k::.j::(rp 14 .k (.v (.i .i64 (s.1:Nat))::(rp 8 .j (rp 27 .k [])))))) (fun s=>(h++(.box false (tmC t)::s.2))) (fun s=>s.1≤l.length∧∀j,j<s.1→¬l.getD j default=t) (fun s=>l.length-s.1) ((0,[])) ⟨aR _,fun j h=>by omega⟩ rfl (by simp[fO]) ?_;rintro⟨k,z⟩ j ⟨hk,ha⟩;dsimp only at hk ha;by_cases hlt:k<l.length
   ·have hki:(k:Int)<((l.length:Nat):Int):=by omega
    have cs:=U6 (l.getD k default) t (hol _ (cC hlt)) ht;refine zh (zA2 (zt hki) hi2) ?_;(refine zy1 (zA2 (zt hki) hi2) cs ?_;repeat' first|exact trivial|refine zJ ?_ ?_|refine zH fun hc=>?_);all_goals first
     |exact⟨(k+1,z++[.box false (tmC (l.getD k default))]),⟨by dsimp only;omega,fun j hj=>(by rcases qJ.1 hj with h1|rfl;exact ha j h1;exact hc)⟩,by dsimp only;omega,by simp,by simp⟩
     |skip
    have e:F5 l t=l:=by unfold F5;rw[if_pos (hc▸cC hlt)]
    rw[e];exact⟨.inr ⟨i,rfl,hi2 _,hil⟩,hk0 _⟩
   ·have hki:¬(k:Int)<((l.length:Nat):Int):=by omega
    have hb1:(l.length+1)*96≤140737488355328:=by omega
    have hb2:l.length≤140737488355327:=by omega
    have hlt2:=bH hi;have hkl:k=l.length:=by omega
    have e:F5 l t=l++[t]:=by
     unfold F5;rw[if_neg];intro hm;obtain⟨j,hj,he⟩:=dG.1 hm;exact ha j (by omega) (by simp[List.getD,hj,he])
    rw[e];simp -implicitDefEqProofs (disch:=omega) only[zf hki,hi2,mL,hil,hb1,hb2,bT,true_and,and_true,go_sem,↓reduceIte,reduceAdd,reduceSub,reduceMul,reduceLeDiff,reduceLT,reduceEqDiff,reduceNeg,Nat.reduceBEq];refine⟨.inr ⟨h.length+(z.length+1+1),by simp,?_,?_⟩,fun i' y _ hy=>?_⟩
    ·rw[aN (by simp)];simp[aI,avt]
    ·simp[aI,hil];omega
    ·have hne:i≠i':=by rintro rfl;rw[hi]at hy;cases hy
     have hl':=bH hy;rw[aG (by simp;omega),dH hne,aG hl'];exact hy
theorem uY{α β:Type}{f:α→β→α}{a:α}{l:List β}{k:Nat}{d:β}(h:k<l.length):(l.take (k+1)).foldl f a=f ((l.take k).foldl f a) (l.getD k d):=by
 rw[lI h,oJ];simp[List.getD,h]
theorem yV{l:List LTerm}{t:LTerm}:(vZ l t).length≤l.length+(vis t 1).length:=by
 have L:∀(m:List LTerm) (l:List LTerm),(m.foldl F5 l).length≤l.length+m.length:=by
  intro m;induction m with
  |nil=>intro l;simp
  |cons x m ih=>intro l;have:=ih (F5 l x);have:=bDh (l:=l) (t:=x);simp only[jK,bB];omega
 have:=L (P0 t) l;have h2:(P0 t).length≤(vis t 1).length:=by
  have:=List.length_filter_le isV ((vis t 1).map (·.1));simpa[P0]using this
 unfold vZ;omega
theorem aAw{l:List LTerm}{t:LTerm}(hl:∀x∈l,OkT x)(ht:OkT t):∀x∈vZ l t,OkT x:=by
 have L:∀(m l:List LTerm),(∀x∈l,OkT x)→(∀x∈m,OkT x)→∀x∈m.foldl F5 l,OkT x:=by
  intro m;induction m with
  |nil=>intro l h _;exact h
  |cons y m ih=>
   intro l h hm;refine ih _ (fun x hx=>?_) (fun x hx=>hm x (by simp[hx]));unfold F5 at hx;split at hx
   ·exact h x hx
   ·rcases cJ.1 hx with hx|hx
    ·exact h x hx
    ·rw[bJ]at hx;rw[hx];exact hm y (by simp)
 refine L _ _ hl fun x hx=>?_;have hx:=(sL.1 hx).1;obtain⟨v,hv,rfl⟩:=dP.1 hx;exact bDx t ht 1 v hv
theorem so2(t:LTerm)(l:List LTerm)(out:AV)(h:List AObj)(ht:OkT t)(hol:∀x∈l,OkT x)(hvl:pD t)(hl:l.length+(vis t 1).length≤1000000)(hnv:isV t=false)(ho:gD 6 0 h out (l.flatMap aM) l.length)(ih:∀k∈t.kids++t.rest,∀(l:List LTerm) (out:AV) (h:List AObj),(∀x∈l,OkT x)→l.length+(vis k 1).length≤1000000→gD 6 0 h out (l.flatMap aM) l.length→ACalls Tryz.prog G0 116 [out,elT k] h (SoK (vZ l k) h)): ACalls Tryz.prog G0 116 [out,elT t] h (SoK (vZ l t) h):=by
 refine gL (rx:=false) (th:=fun _=>none) cI Tryz.func116 ?_
 ·simp -implicitDefEqProofs (disch:=omega) only[Tryz.f116,go_sem,List.replicate,↓reduceIte,reduceAdd,reduceSub,reduceMul,reduceLeDiff,reduceLT,reduceEqDiff,reduceNeg,Nat.reduceBEq];have e:=aXd l t;rw[hnv,if_neg (by simp)]at e;have hk:=hvl.at.2;have hcond:(decide (t.kind=6) && !decide (t.text=[95]))=false:=hnv;rw[oN,bB,lP,List.length_append,show(1:Int)+1=2 from rfl]at hl;by_cases h6:t.kind=6
  ·have h95:t.text=[95]:=by simpa[h6]using hcond
   refine zh (zA2 (zt h6) (zt h95)) ?_;(refine zx0 (zA2 (zt h6) (zt h95)) ?_;repeat' first|exact trivial|refine zJ ?_ ?_|refine zH fun hc=>?_);refine cO (fun(s:Nat×List LTerm×AV×List AObj)=>[.v (s.2.2.1),.k,.k,.k,.k,.k,.k,.k,.j,.k,.k,.k,.k,.k,.k,.k,.k,.k,.k,.k,.k,.k,.k,.k,.k,.k,.k,.k,.k,.k,.k,.k,.k,.k,.k,.k,.k,.v (.i .i64 (s.1:Nat)),.j,.j,.j,.j,.j,.j,.j,.k,.k,.k,.k,.k,.k,.k,.k,.k,.k,.k,.k]) (fun s=>s.2.2.2) (fun s=>s.1≤t.kids.length∧(∀x∈s.2.1,OkT x)∧s.2.1.length+(visL (t.kids.drop s.1) 2).length+(visL t.rest 2).length≤1000000∧s.2.1=(t.kids.take s.1).foldl vZ l∧gD 6 0 s.2.2.2 s.2.2.1 (s.2.1.flatMap aM) s.2.1.length∧nA 0 (h++[.box false (tmC t)]) s.2.2.2) (fun s=>t.kids.length-s.1) ((0,l,out,h++[.box false (tmC t)])) ⟨aR _,hol,(by rw[bA];dsimp only;omega),rfl,ho.more _,.refl _ _⟩ rfl (by simp[fO]) ?_;rintro⟨k,l2,out2,H⟩ j ⟨hkl,ho2,hb2,he2,hi2,hs2⟩;dsimp only at hkl ho2 hb2 he2 hi2 hs2;by_cases hlt:k<t.kids.length
   ·have hki:(k:Int)<((t.kids.length:Nat):Int):=by omega
    have hmm:=cC (d:=default) hlt;rw[zC hlt,List.length_append,oB _ 2 1]at hb2;have ci:=ih _ (dT _ hmm) l2 out2 (H++[.box false (tmC (t.kids.getD k default))]) ho2 (by omega) (hi2.more _);simp only[elT,aI,avt]at ci;refine zh (zt hki) ?_;(refine zx0 (zt hki) ?_;repeat' first|exact trivial|refine zJ ?_ ?_|refine zH fun hc=>?_);refine jC ci ?_;rintro r h3 ⟨hi3,hs3⟩;refine zg ?_;have hw:=yV (l:=l2) (t:=t.kids.getD k default);refine⟨(k+1,vZ l2 (t.kids.getD k default),r,h3),⟨by dsimp only;omega,aAw ho2 (ht.kid _ hmm),by dsimp only;omega,?_,hi3,hs2.trans ((nA.app _ _ _).trans hs3)⟩,by dsimp only;omega,rfl,by simp⟩;dsimp only;rw[uY (d:=default) hlt,← he2]
   ·have hki:¬(k:Int)<((t.kids.length:Nat):Int):=by omega
    have hke:t.kids.take k=t.kids:=aS (by omega);have hd:(visL (t.kids.drop k) 2).length=0:=by rw[cQ (by omega)];rfl
    rw[hke]at he2;have hbx:H[h.length]? = some (.box false (tmC t)):=hs2 _ _ (aR _) (by simp);refine zh (zA2 (zf hki) hbx) ?_;(refine zx0 (zA2 (zf hki) hbx) ?_;repeat' first|exact trivial|refine zJ ?_ ?_|refine zH fun hc=>?_);refine cO (fun(s:Nat×List LTerm×AV×List AObj)=>[.v (s.2.2.1),.k,.k,.k,.k,.k,.k,.k,.k,.k,.j,.k,.k,.k,.k,.k,.k,.k,.k,.k,.k,.k,.k,.k,.k,.k,.k,.k,.k,.k,.k,.k,.k,.k,.k,.k,.k,.k,.k,.k,.k,.k,.k,.k,.k,.k,.k,.k,.v (.i .i64 (s.1:Nat)),.j,.j,.j,.j,.j,.j,.j,.k]) (fun s=>s.2.2.2) (fun s=>s.1≤t.rest.length∧(∀x∈s.2.1,OkT x)∧s.2.1.length+(visL (t.rest.drop s.1) 2).length≤1000000∧s.2.1=(t.rest.take s.1).foldl vZ l2∧gD 6 0 s.2.2.2 s.2.2.1 (s.2.1.flatMap aM) s.2.1.length∧nA 0 (h++[.box false (tmC t)]) s.2.2.2) (fun s=>t.rest.length-s.1) ((0,l2,out2,H)) ⟨aR _,ho2,(by rw[bA];dsimp only;omega),rfl,hi2,hs2⟩ rfl (by simp[fO]) ?_;rintro⟨k3,l3,out3,H3⟩ j3 ⟨hkl3,ho3,hb3,he3,hi3,hs3⟩;dsimp only at hkl3 ho3 hb3 he3 hi3 hs3;by_cases hlt3:k3<t.rest.length
    ·have hki3:(k3:Int)<((t.rest.length:Nat):Int):=by omega
     have hmm:=cC (d:=default) hlt3;rw[zC hlt3,List.length_append,oB _ 2 1]at hb3;have ci:=ih _ (eD _ hmm) l3 out3 (H3++[.box false (tmC (t.rest.getD k3 default))]) ho3 (by omega) (hi3.more _);simp only[elT,aI,avt]at ci;refine zh (zt hki3) ?_;(refine zx0 (zt hki3) ?_;repeat' first|exact trivial|refine zJ ?_ ?_|refine zH fun hc=>?_);refine jC ci ?_;rintro r h4 ⟨hi4,hs4⟩;refine zg ?_;have hw:=yV (l:=l3) (t:=t.rest.getD k3 default);refine⟨(k3+1,vZ l3 (t.rest.getD k3 default),r,h4),⟨by dsimp only;omega,aAw ho3 (ht.rst _ hmm),by dsimp only;omega,?_,hi4,hs3.trans ((nA.app _ _ _).trans hs4)⟩,by dsimp only;omega,rfl,by simp⟩;dsimp only;rw[uY (d:=default) hlt3,← he3]
    ·have hki3:¬(k3:Int)<((t.rest.length:Nat):Int):=by omega
     have hke3:t.rest.take k3=t.rest:=aS (by omega);rw[hke3,he2]at he3;refine zh (zf hki3) ?_;(refine zx0 (zf hki3) ?_;repeat' first|exact trivial|refine zJ ?_ ?_|refine zH fun hc=>?_);rw[e,← he3];exact⟨hi3,(nA.app _ _ _).trans hs3⟩
  ·refine zh (zf h6) ?_;(refine zx0 (zf h6) ?_;repeat' first|exact trivial|refine zJ ?_ ?_|refine zH fun hc=>?_);refine cO (fun(s:Nat×List LTerm×AV×List AObj)=>[.v (s.2.2.1),.k,.k,.k,.k,.k,.k,.k,.j,.k,.k,.k,.k,.k,.k,.k,.k,.k,.k,.k,.k,.k,.k,.k,.k,.k,.k,.k,.k,.k,.k,.k,.k,.k,.k,.k,.k,.v (.i .i64 (s.1:Nat)),.j,.j,.j,.j,.j,.j,.j,.k,.k,.k,.k,.k,.k,.k,.k,.k,.k,.k,.k]) (fun s=>s.2.2.2) (fun s=>s.1≤t.kids.length∧(∀x∈s.2.1,OkT x)∧s.2.1.length+(visL (t.kids.drop s.1) 2).length+(visL t.rest 2).length≤1000000∧s.2.1=(t.kids.take s.1).foldl vZ l∧gD 6 0 s.2.2.2 s.2.2.1 (s.2.1.flatMap aM) s.2.1.length∧nA 0 (h++[.box false (tmC t)]) s.2.2.2) (fun s=>t.kids.length-s.1) ((0,l,out,h++[.box false (tmC t)])) ⟨aR _,hol,(by rw[bA];dsimp only;omega),rfl,ho.more _,.refl _ _⟩ rfl (by simp[fO]) ?_;rintro⟨k,l2,out2,H⟩ j ⟨hkl,ho2,hb2,he2,hi2,hs2⟩;dsimp only at hkl ho2 hb2 he2 hi2 hs2;by_cases hlt:k<t.kids.length
   ·have hki:(k:Int)<((t.kids.length:Nat):Int):=by omega
    have hmm:=cC (d:=default) hlt;rw[zC hlt,List.length_append,oB _ 2 1]at hb2;have ci:=ih _ (dT _ hmm) l2 out2 (H++[.box false (tmC (t.kids.getD k default))]) ho2 (by omega) (hi2.more _);simp only[elT,aI,avt]at ci;refine zh (zt hki) ?_;(refine zx0 (zt hki) ?_;repeat' first|exact trivial|refine zJ ?_ ?_|refine zH fun hc=>?_);refine jC ci ?_;rintro r h3 ⟨hi3,hs3⟩;refine zg ?_;have hw:=yV (l:=l2) (t:=t.kids.getD k default);refine⟨(k+1,vZ l2 (t.kids.getD k default),r,h3),⟨by dsimp only;omega,aAw ho2 (ht.kid _ hmm),by dsimp only;omega,?_,hi3,hs2.trans ((nA.app _ _ _).trans hs3)⟩,by dsimp only;omega,rfl,by simp⟩;dsimp only;rw[uY (d:=default) hlt,← he2]
   ·have hki:¬(k:Int)<((t.kids.length:Nat):Int):=by omega
    have hke:t.kids.take k=t.kids:=aS (by omega);have hd:(visL (t.kids.drop k) 2).length=0:=by rw[cQ (by omega)];rfl
    rw[hke]at he2;have hbx:H[h.length]? = some (.box false (tmC t)):=hs2 _ _ (aR _) (by simp);refine zh (zA2 (zf hki) hbx) ?_;(refine zx0 (zA2 (zf hki) hbx) ?_;repeat' first|exact trivial|refine zJ ?_ ?_|refine zH fun hc=>?_);refine cO (fun(s:Nat×List LTerm×AV×List AObj)=>[.v (s.2.2.1),.k,.k,.k,.k,.k,.k,.k,.k,.k,.j,.k,.k,.k,.k,.k,.k,.k,.k,.k,.k,.k,.k,.k,.k,.k,.k,.k,.k,.k,.k,.k,.k,.k,.k,.k,.k,.k,.k,.k,.k,.k,.k,.k,.k,.k,.k,.k,.v (.i .i64 (s.1:Nat)),.j,.j,.j,.j,.j,.j,.j,.k]) (fun s=>s.2.2.2) (fun s=>s.1≤t.rest.length∧(∀x∈s.2.1,OkT x)∧s.2.1.length+(visL (t.rest.drop s.1) 2).length≤1000000∧s.2.1=(t.rest.take s.1).foldl vZ l2∧gD 6 0 s.2.2.2 s.2.2.1 (s.2.1.flatMap aM) s.2.1.length∧nA 0 (h++[.box false (tmC t)]) s.2.2.2) (fun s=>t.rest.length-s.1) ((0,l2,out2,H)) ⟨aR _,ho2,(by rw[bA];dsimp only;omega),rfl,hi2,hs2⟩ rfl (by simp[fO]) ?_;rintro⟨k3,l3,out3,H3⟩ j3 ⟨hkl3,ho3,hb3,he3,hi3,hs3⟩;dsimp only at hkl3 ho3 hb3 he3 hi3 hs3;by_cases hlt3:k3<t.rest.length
    ·have hki3:(k3:Int)<((t.rest.length:Nat):Int):=by omega
     have hmm:=cC (d:=default) hlt3;rw[zC hlt3,List.length_append,oB _ 2 1]at hb3;have ci:=ih _ (eD _ hmm) l3 out3 (H3++[.box false (tmC (t.rest.getD k3 default))]) ho3 (by omega) (hi3.more _);simp only[elT,aI,avt]at ci;refine zh (zt hki3) ?_;(refine zx0 (zt hki3) ?_;repeat' first|exact trivial|refine zJ ?_ ?_|refine zH fun hc=>?_);refine jC ci ?_;rintro r h4 ⟨hi4,hs4⟩;refine zg ?_;have hw:=yV (l:=l3) (t:=t.rest.getD k3 default);refine⟨(k3+1,vZ l3 (t.rest.getD k3 default),r,h4),⟨by dsimp only;omega,aAw ho3 (ht.rst _ hmm),by dsimp only;omega,?_,hi4,hs3.trans ((nA.app _ _ _).trans hs4)⟩,by dsimp only;omega,rfl,by simp⟩;dsimp only;rw[uY (d:=default) hlt3,← he3]
    ·have hki3:¬(k3:Int)<((t.rest.length:Nat):Int):=by omega
     have hke3:t.rest.take k3=t.rest:=aS (by omega);rw[hke3,he2]at he3;refine zh (zf hki3) ?_;(refine zx0 (zf hki3) ?_;repeat' first|exact trivial|refine zJ ?_ ?_|refine zH fun hc=>?_);rw[e,← he3];exact⟨hi3,(nA.app _ _ _).trans hs3⟩
theorem so:∀(t:LTerm),OkT t→pD t→∀(l:List LTerm) (out:AV) (h:List AObj),(∀x∈l,OkT x)→l.length+(vis t 1).length≤1000000→gD 6 0 h out (l.flatMap aM) l.length→ACalls Tryz.prog G0 116 [out,elT t] h (SoK (vZ l t) h):=
 fG (Q:=fun t=>OkT t→pD t→∀(l:List LTerm) (out:AV) (h:List AObj),(∀x∈l,OkT x)→l.length+(vis t 1).length≤1000000→gD 6 0 h out (l.flatMap aM) l.length→ACalls Tryz.prog G0 116 [out,elT t] h (SoK (vZ l t) h)) fun t hk hr ht hv l out h hol hl ho=>by
  cases hvt:isV t with
  |false=>
   refine so2 t l out h ht hol hv hl hvt ho fun k hm l out h hol hl ho=>?_;have hvk:=hv.kid hm;rcases cJ.1 hm with hm|hm
   ·exact hk k hm (ht.kid k hm) hvk l out h hol hl ho
   ·exact hr k hm (ht.rst k hm) hvk l out h hol hl ho
  |true=>
   have h6:t.kind=6:=by have:=hvt;simp only[isV,aB,decide_eq_true_eq]at this;exact this.1
   have h95:¬t.text=[95]:=by have:=hvt;simp only[isV,aB,dB,decide_eq_false_iff_not]at this;exact this.2
   have e:=aXd l t;rw[hvt,if_pos rfl,(hv.at.1 h6).1,(hv.at.1 h6).2]at e;rw[e];exact so1 t l out h ht hol (by omega) h6 h95 ho
theorem aQd{l:List LTerm}{k:Nat}(h:k≤l.length):List.take (k*6) (l.flatMap aM)=(l.take k).flatMap aM:=by
 induction l generalizing k with
 |nil=>simp
 |cons x l ih=>
  cases k with
  |zero=>simp
  |succ k=>
   rw[aL,List.flatMap_cons,List.flatMap_cons,List.take_append,pP,← ih (by simpa using h),aS (by rw[pP];omega),show(k+1)*6-6=k*6 by omega]
theorem bSd(l:List LTerm)(hl:l.length≤1000000): CT 117 [avt l] (.b (aXj l)):=by
 refine cW cI Tryz.func117 g0 ?_
 ·simp -implicitDefEqProofs (disch:=omega) only[Tryz.f117,go_sem,List.replicate,simprocAttr,avt];(refine zs0 ?_;repeat' first|exact trivial|refine zJ ?_ ?_|refine zH fun hc=>?_);refine gW (fun(k:Nat)=>(.k::.k::.j::.j::.j::.k::.j::.k::.k::.v (.i .i64 (k:Nat))::(rp 19 .j []))) (fun k=>([]:List AObj)) (fun k=>k≤l.length∧∀i,i<k→(Q1 i fun j => !decide ((l.getD i default).text=(l.getD j default).text))=true) (fun k=>l.length-k) (0) _ ⟨aR _,fun j h=>by omega⟩ rfl (by simp[fO]) ?_;rintro k g j ⟨hk,ha⟩;by_cases hlt:k<l.length
  ·have hki:(k:Int)<((l.length:Nat):Int):=by omega
   have htk:List.take (k*6) (l.flatMap aM)=(l.take k).flatMap aM:=aQd (by omega);have hlk:(l.take k).length=k:=by rw[bS];omega
   refine zh (zA2 (zt hki) htk) ?_;(refine zx0 (zA2 (zt hki) htk) ?_;repeat' first|exact trivial|refine zJ ?_ ?_|refine zH fun hc=>?_);refine cO (fun(s:Nat×List AObj)=>(.k::.k::.j::.k::.k::.k::.j::(rp 11 .k (.v (.i .i64 (s.1:Nat))::(rp 9 .j [.k]))))) (fun s=>(g++(.box false (tmC (l.getD k default))::s.2))) (fun s=>s.1≤k∧∀j,j<s.1→(!decide ((l.getD k default).text=(l.getD j default).text))=true) (fun s=>k-s.1) ((0,[])) ⟨aR _,fun j h=>by omega⟩ rfl (by simp[fO]) ?_;rintro⟨i,z⟩ j2 ⟨hi,hb⟩;dsimp only at hi hb;by_cases hlt2:i<k
   ·have hki2:(i:Int)<((k:Nat):Int):=by omega
    have hil:i<(l.take k).length:=by omega
    have hgd:(l.take k).getD i default=l.getD i default:=by simp[List.getD,hlt2,show i<l.length by omega,dZ]
    refine zh (zA2 (zt hki2) (zA2 hlk hgd)) ?_;(refine zx0 (zA2 (zt hki2) (zA2 hlk hgd)) ?_;repeat' first|exact trivial|refine zJ ?_ ?_|refine zH fun hc=>?_)
    ·have hf:(Q1 k fun j => !decide ((l.getD k default).text=(l.getD j default).text))=false:=iZ i hlt2 (by rw[zt hc];rfl);exact aV (by rw[aXj,iZ k hlt hf]) rfl
    ·exact⟨(i+1,z++[.box false (tmC (l.getD i default))]),⟨by dsimp only;omega,cR hb (by rw[zf hc];rfl)⟩,by dsimp only;omega,by simp,by simp⟩
   ·have hki2:¬(i:Int)<((k:Nat):Int):=by omega
    refine zh (zf hki2) ?_;(refine zx0 (zf hki2) ?_;repeat' first|exact trivial|refine zJ ?_ ?_|refine zH fun hc=>?_);all_goals exact⟨k+1,_,⟨by omega,cR ha (mH fun j hj=>hb j (by omega))⟩,by omega,rfl,by simp⟩
  ·have hki:¬(k:Int)<((l.length:Nat):Int):=by omega
   refine zh (zf hki) ?_;(refine zx0 (zf hki) ?_;repeat' first|exact trivial|refine zJ ?_ ?_|refine zH fun hc=>?_);all_goals exact aV (by rw[aXj,mH (fun i hi=>ha i (by omega))]) rfl
def aGy(l:List LTerm):Bool:=l.all fun v => !decide (v.text=[36])
def bPd(i:Bool)(s:dF)(t:LTerm):Bool:=i&&(!qZ s t&&(qX t&&(aGy (vZ [] t)&&aXj (vZ [] t))))
theorem bVg{l:List LTerm}{f:LTerm→Bool}{k:Nat}(hk:k<l.length)(h:f (l.getD k default)=false):l.all f=false:=Q3.2 ⟨_,cC hk,by rw[h];simp⟩
theorem bMt{l:List LTerm}{f:LTerm→Bool}(h:∀j,j<l.length→f (l.getD j default)=true):l.all f=true:=by
 rw[bF];intro x hx;obtain⟨j,hj,rfl⟩:=dG.1 hx;have:=h j hj;simpa[List.getD,hj]using this
theorem bBr(s:dF)(t:LTerm)(hm:Small s)(ht:OkT t)(hv:pD t)(hl:(vis t 1).length≤1000000)(c1:CT 113 [.agg (bX s),elT t] (.b true))(hf:qZ s t=false)(hk:qX t=true): CT 56 [.agg (bX s),elT t] (.b (aGy (vZ [] t)&&aXj (vZ [] t))):=by
 refine aZ cI Tryz.func56 g0 ?_
 ·skip;have c2:=bFs s hm t ht;have c3:=bFr t ht;rw[hf]at c2;rw[hk]at c3;have cs:=so t ht hv [] .e0 [.box false (bX s),.box false (tmC t)] (by simp) (by simpa using hl) eX;simp only[elT,aI,avt]at cs;(refine zt3 c1 c2 c3 ?_;repeat' first|exact trivial|refine zJ ?_ ?_|refine zH fun hc=>?_);refine jC cs ?_;rintro r h' ⟨ho,_⟩;have hL:(vZ [] t).length≤1000000:=by have:=yV (l:=[]) (t:=t);simp at this;omega
  have c4:=bSd (vZ [] t) hL;clear cs c1 c2 c3;generalize vZ [] t=L at *
  rcases ho with⟨rfl,hc,hn⟩|⟨i,rfl,hi,hil⟩
  ·obtain rfl:L=[]:=List.length_eq_zero_iff.1 hn;simp only[avt,List.flatMap_nil,cH]at c4;refine zg ?_;refine cO (fun(s:Nat)=>(.k::.k::.k::.k::.j::.k::.k::.j::(rp 18 .k (.v (.i .i64 (0:Int))::(rp 7 .j [.k,.k]))))) (fun s=>h') (fun s=>True) (fun s=>s) (0) trivial rfl (by simp[fO]) ?_;rintro s j _;refine zg ?_;(refine zt1 c4 ?_;repeat' first|exact trivial|refine zJ ?_ ?_|refine zH fun hc=>?_);all_goals first
    |(exfalso;omega)
    |exact aV (by rw[aGy];rfl) rfl
  ·have hi2:∀m:List AObj,(h'++m)[i]? = some (.arr false 6 (L.flatMap aM)):=fun m=>by rw[aG (bH hi)];exact hi
   refine zh hi ?_;rw[show h'=h'++[]from(List.append_nil h').symm];refine cO (fun(s:Nat×List AObj)=>(.k::.k::.k::.k::.j::.k::.k::.j::(rp 18 .k (.v (.i .i64 (s.1:Nat))::(rp 7 .j [.k,.k]))))) (fun s=>(h'++s.2)) (fun s=>s.1≤L.length∧∀j,j<s.1→(!decide ((L.getD j default).text=[36]))=true) (fun s=>L.length-s.1) ((0,[])) ⟨aR _,fun j h=>absurd h (Nat.not_lt_zero j)⟩ rfl (by simp[fO]) ?_;rintro⟨k,z⟩ j ⟨hk,ha⟩;dsimp only at hk ha;by_cases hlt:k<L.length
   ·have hki:(k:Int)<((L.length:Nat):Int):=by omega
    refine zh (zA2 (zt hki) hi2) ?_;(refine zx0 (zA2 (zt hki) hi2) ?_;repeat' first|exact trivial|refine zJ ?_ ?_|refine zH fun hc=>?_)
    ·have e:aGy L=false:=bVg hlt (by rw[zt hc];rfl);exact aV (by rw[e];rfl) rfl
    ·exact⟨(k+1,z++[.box false (tmC (L.getD k default))]),⟨by dsimp only;omega,cR ha (by rw[zf hc];rfl)⟩,by dsimp only;omega,by simp,by simp⟩
   ·have hki:¬(k:Int)<((L.length:Nat):Int):=by omega
    have htk:List.take (L.length*6) (L.flatMap aM)=L.flatMap aM:=aS (by omega);refine zh (zA2 (zf hki) hi2) ?_;(refine zy1 (zA2 (zf hki) (zA2 hi2 (zA2 hil (zA2 htk (zA2 @eW bT))))) c4 ?_;repeat' first|exact trivial|refine zJ ?_ ?_|refine zH fun hc=>?_);all_goals exact aV (by rw[aGy,bMt (fun j hj=>ha j (by omega))];rfl) rfl
theorem bBs(s:dF)(t:LTerm)(hm:Small s)(ht:OkT t)(c1:CT 113 [.agg (bX s),elT t] (.b false)): CT 56 [.agg (bX s),elT t] (.b false):=by
 refine aZ cI Tryz.func56 g0 ?_
 ·skip;(refine zt1 c1 ?_;repeat' first|exact trivial|refine zJ ?_ ?_|refine zH fun hc=>?_);all_goals exact aV rfl rfl
theorem bBq(s:dF)(t:LTerm)(hm:Small s)(ht:OkT t)(c1:CT 113 [.agg (bX s),elT t] (.b true))(hn:(!qZ s t&&qX t)=false): CT 56 [.agg (bX s),elT t] (.b false):=by
 refine aZ cI Tryz.func56 g0 ?_
 ·skip;have c2:=bFs s hm t ht;have c3:=bFr t ht;rcases kC (qZ s t)with hf|hf
  ·rw[hf]at c2;(refine zt2 c1 c2 ?_;repeat' first|exact trivial|refine zJ ?_ ?_|refine zH fun hc=>?_);all_goals exact aV rfl rfl
  ·rw[hf]at c2 hn;have hk:qX t=false:=by simpa using hn
   rw[hk]at c3;(refine zt3 c1 c2 c3 ?_;repeat' first|exact trivial|refine zJ ?_ ?_|refine zH fun hc=>?_);all_goals exact aV rfl rfl
theorem bSj(i:Bool)(s:dF)(t:LTerm)(hm:Small s)(ht:OkT t)(hv:i=true→pD t∧(vis t 1).length≤1000000)(c1:CT 113 [.agg (bX s),elT t] (.b i)):CT 56 [.agg (bX s),elT t] (.b (bPd i s t)):=by
 cases i with
 |false=>rw[bPd,Bool.false_and];exact bBs s t hm ht c1
 |true=>
  rw[bPd,Bool.true_and,← pL];rcases kC (!qZ s t&&qX t)with h|h
  ·rw[h,Bool.true_and];rw[aB,dB]at h;exact bBr s t hm ht (hv rfl).1 (hv rfl).2 c1 h.1 h.2
  ·rw[h,Bool.false_and];exact bBq s t hm ht c1 h
theorem V7{t:LTerm}(h:fX t false true true false false=true):t.n=0∧t.kids=[]∧t.rest=[]:=by
 simp only[fX,aB,cM,decide_eq_true_eq,aE,false_or,true_or,and_true]at h;exact⟨h.1.1,h.1.2,h.2⟩
structure aBc(v:LTerm):Prop where
 n:v.n=0
 kids:v.kids=[]
 rest:v.rest=[]
 text:v.text ≠ []
theorem aSn{x:Str}(h:eK x=true):x ≠ []:=by
 rintro rfl;simp[eK]at h
theorem aZw{t:LTerm}(h:dQ t=true)(h6:t.kind=6):aBc t:=by
 have hh:dQ t=(if D4 t.text=true then decide (t.sort=bVz)&&fX t false true true false false else eK t.text&&eK t.sort&&fX t false true true false false):=by simp only[dQ,h6,Int.reduceEq,if_false,if_true]
 rw[hh]at h;split at h
 ·rename_i ho;simp only[aB]at h;obtain⟨a,b,c⟩:=V7 h.2;refine⟨a,b,c,fun e=>?_⟩;rw[e]at ho;simp[D4]at ho
 ·simp only[aB]at h;obtain⟨a,b,c⟩:=V7 h.2;exact⟨a,b,c,aSn h.1.1⟩
theorem aYq{t r:LTerm}(h:dQ t=true)(hr:r∈t.rest):aBc r:=by
 have h1:=tK h hr;have z0:∀{a b c d},fX t a b c d false=true→t.rest=[]:=by
  intro a b c d h;simp only[fX,aB,cM,decide_eq_true_eq,aE,false_or]at h;exact h.2
 have r0:∀{s},qA t s=true→r.n=0:=by
  intro s h;simp only[qA,aB,cM,decide_eq_true_eq]at h;have hl:0<t.rest.length:=aFn hr;rcases h with h|h
  ·omega
  ·obtain⟨⟨⟨⟨h1,hk⟩,hn⟩,_⟩,hz⟩:=h;obtain⟨x,hx⟩:=aFo.1 h1;rw[hx]at hr hz;rw[bJ]at hr;subst hr;exact(V7 hz).1
 refine⟨?_,h1.2.2.1,h1.2.2.2,aSn h1.2.1⟩;have hh:=h;unfold dQ at hh;repeat' split at hh
 all_goals try simp only[aB]at hh
 all_goals first
  |exact absurd hr (by rw[z0 hh.2];simp)
  |exact r0 hh.1
  |exact r0 hh.1.1
  |cases hh
theorem aPq:∀t:LTerm,wfT dQ t=true→∀d:Int,∀v∈vis t d,v.1.kind=6→aBc v.1:=
 fG (Q := fun t=>wfT dQ t=true→∀d:Int,∀v∈vis t d,v.1.kind=6→aBc v.1) fun t hk hr hw d v hv h6=>by
  have hw':=nF.1 hw;rw[oN,lP,dD,cJ]at hv;rcases hv with rfl|hv|hv
  ·exact aZw hw'.1 h6
  ·have L:∀l:List LTerm,(∀k∈l,k∈t.kids)→v∈visL l (d+1)→aBc v.1:=by
    intro l;induction l with
    |nil=>intro _ h;cases h
    |cons x l ih=>
     intro hm h;rw[visL,cJ]at h;rcases h with h|h
     ·exact hk x (hm x (by simp)) (hw'.2 x (hm x (by simp))) (d+1) v h h6
     ·exact ih (fun k hk=>hm k (by simp[hk])) h
   exact L t.kids (fun _ h=>h) hv
  ·have L:∀l:List LTerm,(∀k∈l,k∈t.rest)→v∈visL l (d+1)→aBc v.1:=by
    intro l;induction l with
    |nil=>intro _ h;cases h
    |cons x l ih=>
     intro hm h;rw[visL,cJ]at h;rcases h with h|h
     ·have hx:=tK hw'.1 (hm x (by simp));rw[wW hx.2.2.1 hx.2.2.2,bJ]at h;subst h;exact aYq hw'.1 (hm x (by simp))
     ·exact ih (fun k hk=>hm k (by simp[hk])) h
   exact L t.rest (fun _ h=>h) hv
theorem aMq{t:LTerm}(hv:iQ dQ t=true):pD t∧(vis t 1).length≤1000000:=by
 have hP:=aFx hv;rw[List.append_nil]at hP;refine⟨fun v hm=>⟨fun h6=>?_,(hP.2 v hm).2.2⟩,by have:=hP.1;omega⟩;have:=aPq t (by simp only[iQ,aB]at hv;exact hv.1.1) 1 v hm h6;exact⟨this.kids,this.rest⟩
theorem aPs{t x:LTerm}(hw:wfT dQ t=true)(h:x∈P0 t):aBc x∧x.kind=6:=by
 have h2:=sL.1 h;obtain⟨v,hv,rfl⟩:=dP.1 h2.1;have h6:v.1.kind=6:=by have:=h2.2;simp only[isV,aB,decide_eq_true_eq]at this;exact this.1
 exact⟨aPq t hw 1 v hv h6,h6⟩
theorem bJf{a b:LTerm}(ha:aBc a∧a.kind=6)(hb:aBc b∧b.kind=6)(h:I9 a=I9 b):a=b:=by
 obtain⟨⟨a1,a2,a3,_⟩,a4⟩:=ha;obtain⟨⟨b1,b2,b3,_⟩,b4⟩:=hb;cases a;cases b;simp only[I9,LTerm.text,LTerm.sort,bD,LTerm.n,LTerm.kids,LTerm.rest,LTerm.kind]at *
 subst_vars;rw[h.1,h.2]
theorem aZh(s:dF)(t:LTerm):aZi s t=bPd (iQ dQ t&&qE s t) s t:=by
 rw[aZi,bPd];rcases kC (iQ dQ t)with hv|hv
 ·rcases kC (qE s t)with hf|hf
  ·rw[hv,hf]
   simp only[Bool.true_and];have hw:wfT dQ t=true:=by simp only[iQ,aB]at hv;exact hv.1.1
   rw[aKl,aJm,cV,aTm s t hw 1,aTg t hw 1];have hp:=fun x hx=>aPs (x:=x) hw hx;have e1:decide ((tJ t).2=[])=aXj (vZ [] t):=by
    rw[dK,decide_eq_true_eq,vZ,bJj (fun a ha b hb=>bJf (hp a ha) (hp b hb)),tJ,aIv,P0];refine bHt fun x hx=>?_;obtain⟨v,hv,rfl⟩:=dP.1 hx;exact(hp v hv).1.text
   have e2:aGy (vZ [] t) = !dol t 1:=by
    have hm:=(aAx (P0 t) [] eM).2;rw[dK,aGy,bF,dB,dol,oL];constructor
    ·intro h v hv;intro q;simp only[aB,decide_eq_true_eq]at q;have hx:v.1∈P0 t:=sL.2 ⟨dP.2 ⟨v,hv,rfl⟩,by simp[isV,q.1,q.2]⟩;have:=h v.1 ((hm v.1).2 (.inr hx));simp[q.2]at this
    ·intro h x hx;have hx:=((hm x).1 hx).resolve_left (by simp);have h2:=sL.1 hx;obtain⟨v,hv,rfl⟩:=dP.1 h2.1;have:=h v hv;simp only[(hp v.1 hx).2,decide_true,Bool.true_and,decide_eq_true_eq]at this;simp[this]
   rw[e1,e2];cases qZ s t<;>cases qX t<;>cases dol t 1<;>cases aXj (vZ [] t)<;>rfl
  ·rw[hf];simp
 ·rw[hv];simp
def aJl(s:dF)(t:LTerm):Bool:=fM s&&aZi s t
theorem aUz(s:dF)(t:LTerm)(hm:Small s)(hs:OkS s)(ht:OkT t): CT 20 [.agg (bX s),elT t] (.b (aJl s t)):=by
 refine gX (rx:=true) (th:=fun _=>none) cI Tryz.func20 g0 ?_
 ·simp -implicitDefEqProofs (disch:=omega) only[Tryz.f20,go_sem,List.replicate,simprocAttr];have c2:=aOg s hm hs;have c3:=bFt s t hm ht;rw[aJl];rcases kC (fM s)with h2|h2
  ·rw[h2]at c2;(refine zt3 c2 (aEr s hm (jF h2)) c3 ?_;repeat' first|exact trivial|refine zJ ?_ ?_|refine zH fun hc=>?_);all_goals exact aV (by rw[h2];rfl) rfl
  ·rw[h2]at c2;(refine zt1 c2 ?_;repeat' first|exact trivial|refine zJ ?_ ?_|refine zH fun hc=>?_);all_goals exact aV (by rw[h2];rfl) rfl
theorem bSk(s:dF)(t:LTerm)(hm:Small s)(hs:OkS s)(ht:OkT t)(c1:fM s=true→CT 113 [.agg (bX s),elT t] (.b (iQ dQ t&&qE s t))): CT 21 [.agg (bX s),elT t] (.b (aJl s t)):=by
 refine aZ cI Tryz.func21 g0 ?_
 ·skip;have c2:=bZn s hm hs;rw[aJl];rcases kC (fM s)with h2|h2
  ·have c3:=bSj _ s t hm ht (fun h=>aMq (by simp only[aB]at h;exact h.1)) (c1 h2);rw[← aZh]at c3;rw[h2]at c2;(refine zt2 c2 c3 ?_;repeat' first|exact trivial|refine zJ ?_ ?_|refine zH fun hc=>?_);all_goals exact aV (by rw[h2];rfl) rfl
  ·rw[h2]at c2;(refine zt1 c2 ?_;repeat' first|exact trivial|refine zJ ?_ ?_|refine zH fun hc=>?_);all_goals exact aV (by rw[h2];rfl) rfl
theorem S7{s:dF}{t:LTerm}(h:aJl s t=true):iQ dQ t=true:=by
 rw[aJl,aZi,aB,aB]at h;exact h.2.1
end Go.Proofs.YtdjcggcjlphdoaaGreatDoor

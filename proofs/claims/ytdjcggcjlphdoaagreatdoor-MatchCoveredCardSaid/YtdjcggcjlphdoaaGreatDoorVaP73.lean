/-
  Functions of the chapter, as plain functions of what they are given; no condition.
-/
import Derived.Test.YtdjcggcjlphdoaaGreatDoorTeP72
import Derived.Test.YtdjcggcjlphdoaaGreatDoorTeP74
import Derived.Test.YtdjcggcjlphdoaaGreatDoorVaP72
import Derived.Test.YtdjcggcjlphdoaaGreatDoorVaP71
import Derived.Test.YtdjcggcjlphdoaaGreatDoorSoP73
set_option maxRecDepth 100000
set_option linter.unusedSimpArgs false
set_option linter.unusedVariables false
set_option maxHeartbeats 4000000
namespace Go.Proofs.YtdjcggcjlphdoaaGreatDoor
open Go Go.Vo
open Nat (reduceAdd reduceSub reduceMul reduceLeDiff reduceLT reduceEqDiff)
open Int (reduceNeg)
def aTa(s:dK)(t:LTerm):Bool:=(kN s t.text).2.2&&(decide ((kN s t.text).1.args.length=t.kids.length)&&aIs t.kids.length (fun i=>bBq s (kI s (t.kids.getD i default)) ((kN s t.text).1.args.getD i [])))
mutual
def tE(s:dK):LTerm→Bool
 | .mk k n x so ks rs=>fitsPL s ks&&(if k=6 then existsA s so else if k=5 then aTa s (.mk k n x so ks rs)else true)
def fitsPL(s:dK):List LTerm→Bool
 | []=>true
 |k::l=>tE s k&&fitsPL s l
end
theorem aEe{s:dK}:∀l,fitsPL s l=l.all (tE s)
 | []=>rfl
 |k::l=>by rw[fitsPL,aEe l];rfl
theorem aKw(s:dK)(t:LTerm):tE s t=(t.kids.all (tE s)&&(if t.kind=6 then existsA s t.sort else if t.kind=5 then aTa s t else true)):=by
 cases t;rw[tE,aEe];rfl
theorem bDh(s:dK)(t:LTerm)(hs:Small s)(ht:OkT t)(ih:∀k∈t.kids,CT 96 [bQ s,elT k] (.b (tE s k))): CT 96 [bQ s,elT t] (.b (tE s t)):=by
 refine cI dE Tryz.func96 g0 ?_
 ·skip;have e:=aKw s t;have hk1:=ht.kids;have c1:=aWc s t.text;obtain⟨⟨q,fn,ok⟩,hq⟩:∃p,kN s t.text=p:=⟨_,rfl⟩;simp only[aTa,hq]at e;rw[hq]at c1;(refine zs0 ?_;repeat' first|exact trivial|refine zJ ?_ ?_|refine zH fun hc=>?_);refine lJ (fun(k:Nat)=>(.k::.k::.k::.k::.j::.k::.j::(rp 8 .k (.v (.i .i64 (k:Nat))::(rp 8 .j (rp 49 .k [])))))) (fun k=>[.box false (tmC t)]) (fun k=>k≤t.kids.length∧∀j,j<k→tE s (t.kids.getD j default)=true) (fun k=>t.kids.length-k) (0) _ ⟨bX _,fun j h=>by omega⟩ rfl (by simp[iS]) ?_;rintro k g j ⟨hk,ha⟩;have o:k<t.kids.length→CT 96 [bQ s,elT (t.kids.getD k default)] (.b (tE s (t.kids.getD k default))):=fun h=>ih _ (cS h);refine zg ?_;(repeat'(first|refine gT ?_ ?_|refine gF ?_ ?_|refine gC ?_ ?_|((first|(refine bJ ((o (by omega))) ?_ ?_;(focus(simp -implicitDefEqProofs (disch:=omega) only[rX,bQ,zdB,go_sem,simprocAttr];done)))|(refine bJ (aEm s t.sort) ?_ ?_;(focus(simp -implicitDefEqProofs (disch:=omega) only[rX,bQ,zdB,go_sem,simprocAttr];done)))|(refine bJ (c1) ?_ ?_;(focus(simp -implicitDefEqProofs (disch:=omega) only[rX,bQ,zdB,go_sem,simprocAttr];done))));simp -implicitDefEqProofs (disch:=omega) only[rX,bQ,go_sem,simprocAttr])|refine bE (by omega) ?_|(intro hr;have hc:=hr;(try simp only[zdz]at hc);simp -implicitDefEqProofs (disch:=omega) only[hr,rX,bQ,go_sem,simprocAttr];(try clear hr))));all_goals first
   |exact bR (by rw[e,aFm k (by omega) hc,aT]) rfl
   |exact⟨k+1,_,⟨by omega,fF ha hc⟩,by omega,rfl,by simp⟩
   |skip
  all_goals rw[F5 (fun j hj=>ha j (by omega)),aR]at e
  all_goals first
   |(exfalso;omega)
   |exact bR (by rw[e,if_pos (by assumption)]) rfl
   |exact bR (by rw[e,if_neg (by assumption),if_neg (by assumption)]) rfl
   |exact bR (by rw[e,if_neg (by assumption),if_pos (by omega),show ok=false from hc,aT]) rfl
   |exact bR (by rw[e,if_neg (by assumption),if_pos (by omega),zf (by omega:¬q.args.length=t.kids.length),aT,aS]) rfl
   |skip
  have hn:q.args.length=t.kids.length:=by omega
  have hok:ok=true:=by assumption
  rw[if_neg (by assumption),if_pos (by omega),zt hn,aR,hok,aR]at e;refine lJ (fun(k:Nat)=>(.k::.k::.k::.k::.j::(rp 5 .k (.j::.j::(rp 44 .k (.v (.i .i64 (k:Nat))::(rp 16 .j []))))))) (fun k=>(.box false (tmC t)::(g++[.box false (fR q)]))) (fun k=>k≤t.kids.length∧∀j,j<k→bBq s (kI s (t.kids.getD j default)) (q.args.getD j [])=true) (fun k=>t.kids.length-k) (0) [] ⟨bX _,fun j h=>by omega⟩ (by simp[avs,avb,avi,avo,fR,dW]) (by simp[iS]) ?_;rintro kk g2 j2 ⟨hkk,ha2⟩;refine zg ?_;(refine zt2 (aEn s (t.kids.getD kk default)) (cAm s (kI s (t.kids.getD kk default)) (q.args.getD kk []) hs) ?_;repeat' first|exact trivial|refine zJ ?_ ?_|refine zH fun hc=>?_);all_goals first
   |exact bR (by rw[e,uR kk (by omega) hc]) rfl
   |exact⟨kk+1,_,⟨by omega,fF ha2 hc⟩,by omega,rfl,by simp⟩
   |exact bR (by rw[e,O3 (fun j hj=>ha2 j (by omega))]) rfl
   |(exfalso;omega)
theorem bHp(s:dK)(hs:Small s):∀(t:LTerm),OkT t→CT 96 [bQ s,elT t] (.b (tE s t)):=
 fW fun t hk _ ht=>bDh s t hs ht (fun k hm=>hk k hm (ht.kid k hm))
def aUy(s:dK)(t:LTerm):Bool:=kY nodeB t&&(iH s&&tE s t)
theorem bUc(s:dK)(t:LTerm)(hm:Small s)(hs:OkS s)(ht:OkT t): CT 57 [.agg (dW s),elT t] (.b (aUy s t)):=by
 refine cI dE Tryz.func57 g0 ?_
 ·skip;have c1:=aLm t ht;have c2:=aOk s hm hs;rw[aUy];rcases lY (kY nodeB t)with h1|h1
  ·rcases lY (iH s)with h2|h2
   ·rw[h1]at c1;rw[h2]at c2;(refine zt4 c1 c2 (aAk s hm (iP h2)) (bHp s hm t ht) ?_;repeat' first|exact trivial|refine zJ ?_ ?_|refine zH fun hc=>?_);all_goals exact bR (by rw[h1,h2];rfl) rfl
   ·rw[h1]at c1;rw[h2]at c2;(refine zt2 c1 c2 ?_;repeat' first|exact trivial|refine zJ ?_ ?_|refine zH fun hc=>?_);all_goals exact bR (by rw[h1,h2];rfl) rfl
  ·rw[h1]at c1;(refine zt1 c1 ?_;repeat' first|exact trivial|refine zJ ?_ ?_|refine zH fun hc=>?_);all_goals exact bR (by rw[h1];rfl) rfl
theorem bUb(s:dK)(t:LTerm)(hm:Small s)(hs:OkS s)(ht:OkT t): CT 67 [.agg (dW s),elT t] (.b (iH s&&jW s t)):=by
 refine cI dE Tryz.func67 g0 ?_
 ·skip;have c2:=aOk s hm hs;rcases lY (iH s)with h2|h2
  ·rw[h2]at c2;(refine zt3 c2 (aAk s hm (iP h2)) (aWe s t hm ht) ?_;repeat' first|exact trivial|refine zJ ?_ ?_|refine zH fun hc=>?_);all_goals exact bR (by rw[h2];rfl) rfl
  ·rw[h2]at c2;(refine zt1 c2 ?_;repeat' first|exact trivial|refine zJ ?_ ?_|refine zH fun hc=>?_);all_goals exact bR (by rw[h2];rfl) rfl
def PtR(x y:AObj)(b:Bool)(h:List AObj):Prop:=∃g,h=x::y::.box false [.b b]::g
theorem bXv(x y:AObj):bOx 100 [.ptr 2 0] 3 (PtR x y) bAu bXk:=by
 refine⟨?_,?_,?_⟩
 ·rintro b h z ⟨g,rfl⟩;exact⟨g++z,rfl⟩
 ·rintro b h ⟨g,rfl⟩;simp
 ·rintro b ⟨t,d⟩ l h hP ho ⟨g,rfl⟩;have hb:=hP (t,d) (by simp);refine⟨hb,fun v hv=>hP v (by simp[hv]),?_⟩;refine(cFl t d b x y g ho (by have:=hb.2.2;dsimp only at this;omega)).mono ?_;rintro r h' ⟨rfl,z,rfl⟩;exact⟨rfl,⟨g++z,rfl⟩,aDw⟩
def bAt(s:dK)(t:LTerm):Bool:=kY nodeB t&&(tE s t&&(!A6 (aOd s) false (vis t 1)&&A6 bAu (decide ((sM t).2=[])) (vis t 1)))
theorem bHo(s:dK)(t:LTerm)(hs:Small s)(ht:OkT t): CT 46 [bQ s,elT t] (.b (bAt s t)):=by
 refine cI dE Tryz.func46 g0 ?_
 ·skip;have c1:=aLm t ht;have c2:=bHp s hs t ht;rcases lY (kY nodeB t)with hv|hv
  ·have c3:=bTz s t ht hv;have c4:=bTy t ht hv;rw[hv]at c1;rw[bAt,hv,aR];rcases lY (tE s t)with hf|hf
   ·rw[hf]at c2;rw[hf,aR];rcases lY (A6 (aOd s) false (vis t 1))with hn|hn
    ·rw[hn]at c3;(refine zt3 c1 c2 c3 ?_;repeat' first|exact trivial|refine zJ ?_ ?_|refine zH fun hc=>?_);all_goals exact bR (by rw[hn];rfl) rfl
    ·rw[hn]at c3;rw[hn,aB,aR];generalize sM t=sv at *
     refine zh @pZ ?_;(repeat'(first|refine gT ?_ ?_|refine gF ?_ ?_|refine gC ?_ ?_|((first|(refine bJ (c1) ?_ ?_;(focus(simp -implicitDefEqProofs (disch:=omega) only[pZ,bBs,zdB,go_sem,↓reduceIte,reduceAdd,reduceSub,reduceMul,reduceLeDiff,reduceLT,reduceEqDiff,reduceNeg,Nat.reduceBEq];done)))|(refine bJ (c2) ?_ ?_;(focus(simp -implicitDefEqProofs (disch:=omega) only[pZ,bBs,zdB,go_sem,↓reduceIte,reduceAdd,reduceSub,reduceMul,reduceLeDiff,reduceLT,reduceEqDiff,reduceNeg,Nat.reduceBEq];done)))|(refine bJ (c3) ?_ ?_;(focus(simp -implicitDefEqProofs (disch:=omega) only[pZ,bBs,zdB,go_sem,↓reduceIte,reduceAdd,reduceSub,reduceMul,reduceLeDiff,reduceLT,reduceEqDiff,reduceNeg,Nat.reduceBEq];done)))|(refine bJ (c4) ?_ ?_;(focus(simp -implicitDefEqProofs (disch:=omega) only[pZ,bBs,zdB,go_sem,↓reduceIte,reduceAdd,reduceSub,reduceMul,reduceLeDiff,reduceLT,reduceEqDiff,reduceNeg,Nat.reduceBEq];done))));simp -implicitDefEqProofs (disch:=omega) only[pZ,bBs,go_sem,↓reduceIte,reduceAdd,reduceSub,reduceMul,reduceLeDiff,reduceLT,reduceEqDiff,reduceNeg,Nat.reduceBEq])|refine bE (by omega) ?_|(intro hr;have hc:=hr;(try simp only[zdz]at hc);simp -implicitDefEqProofs (disch:=omega) only[hr,pZ,bBs,go_sem,↓reduceIte,reduceAdd,reduceSub,reduceMul,reduceLeDiff,reduceLT,reduceEqDiff,reduceNeg,Nat.reduceBEq];(try clear hr))));have cw:=fun(b:Bool)=>bIt (bXv (.box false (tmC t)) (.arr true 6 (tmC t))) (fun a=>⟨_,[],rfl⟩) t ht 1 b [] _ ⟨[],rfl⟩ (aPw (a:=false) hv);simp only[elT,aL,avt]at cw;refine mV (cw _) ?_;rintro r h' ⟨rfl,⟨g,rfl⟩,_⟩;refine zg ?_;exact bR rfl rfl
   ·rw[hf]at c2;(refine zt2 c1 c2 ?_;repeat' first|exact trivial|refine zJ ?_ ?_|refine zH fun hc=>?_);all_goals exact bR (by rw[hf];rfl) rfl
  ·rw[hv]at c1;(refine zt1 c1 ?_;repeat' first|exact trivial|refine zJ ?_ ?_|refine zH fun hc=>?_);all_goals exact bR (by rw[bAt,hv];rfl) rfl
def bPl(l:List LTerm)(t:LTerm):List LTerm:=(G4 t).foldl bEp l
def bLn(l:List LTerm):Bool:=l.all fun v => !decide (v.text=[36])
def bYs(i:Bool)(s:dK)(t:LTerm):Bool:=i&&(!Q1 s t&&(xQ t&&(bLn (bPl [] t)&&bPf (bPl [] t))))
theorem W6{t:LTerm}(h:gQ t false true true false false=true):t.n=0∧t.kids=[]∧t.rest=[]:=by
 simp only[gQ,aD,cB,decide_eq_true_eq,aI,false_or,true_or,and_true]at h;exact⟨h.1.1,h.1.2,h.2⟩
structure aBk(v:LTerm):Prop where
 n:v.n=0
 kids:v.kids=[]
 rest:v.rest=[]
 text:v.text ≠ []
theorem aTj{x:Str}(h:isName x=true):x ≠ []:=by
 rintro rfl;simp[isName]at h
theorem bBl{t:LTerm}(h:nodeB t=true)(h6:t.kind=6):aBk t:=by
 have hh:nodeB t=(if xE t.text=true then decide (t.sort=bXj)&&gQ t false true true false false else isName t.text&&isName t.sort&&gQ t false true true false false):=by simp only[nodeB,h6,Int.reduceEq,if_false,if_true]
 rw[hh]at h;split at h
 ·rename_i ho;simp only[aD]at h;obtain⟨a,b,c⟩:=W6 h.2;refine⟨a,b,c,fun e=>?_⟩;rw[e]at ho;simp[xE]at ho
 ·simp only[aD]at h;obtain⟨a,b,c⟩:=W6 h.2;exact⟨a,b,c,aTj h.1.1⟩
theorem bAe{t r:LTerm}(h:nodeB t=true)(hr:r∈t.rest):aBk r:=by
 have h1:=sN h hr;have z0:∀{a b c d},gQ t a b c d false=true→t.rest=[]:=by
  intro a b c d h;simp only[gQ,aD,cB,decide_eq_true_eq,aI,false_or]at h;exact h.2
 have r0:∀{s},nK t s=true→r.n=0:=by
  intro s h;simp only[nK,aD,cB,decide_eq_true_eq]at h;have hl:0<t.rest.length:=aFs hr;rcases h with h|h
  ·omega
  ·obtain⟨⟨⟨⟨h1,hk⟩,hn⟩,_⟩,hz⟩:=h;obtain⟨x,hx⟩:=aFt.1 h1;rw[hx]at hr hz;rw[aP]at hr;subst hr;exact(W6 hz).1
 refine⟨?_,h1.2.2.1,h1.2.2.2,aTj h1.2.1⟩;have hh:=h;unfold nodeB at hh;repeat' split at hh
 all_goals try simp only[aD]at hh
 all_goals first
  |exact absurd hr (by rw[z0 hh.2];simp)
  |exact r0 hh.1
  |exact r0 hh.1.1
  |cases hh
theorem bIv:∀t:LTerm,wfT nodeB t=true→∀d:Int,∀v∈vis t d,v.1.kind=6→aBk v.1:=
 fW (Q := fun t=>wfT nodeB t=true→∀d:Int,∀v∈vis t d,v.1.kind=6→aBk v.1) fun t hk hr hw d v hv h6=>by
  have hw':=eN.1 hw;rw[vB,oG,dA,cQ]at hv;rcases hv with rfl|hv|hv
  ·exact bBl hw'.1 h6
  ·have L:∀l:List LTerm,(∀k∈l,k∈t.kids)→v∈visL l (d+1)→aBk v.1:=by
    intro l;induction l with
    |nil=>intro _ h;cases h
    |cons x l ih=>
     intro hm h;rw[visL,cQ]at h;rcases h with h|h
     ·exact hk x (hm x (by simp)) (hw'.2 x (hm x (by simp))) (d+1) v h h6
     ·exact ih (fun k hk=>hm k (by simp[hk])) h
   exact L t.kids (fun _ h=>h) hv
  ·have L:∀l:List LTerm,(∀k∈l,k∈t.rest)→v∈visL l (d+1)→aBk v.1:=by
    intro l;induction l with
    |nil=>intro _ h;cases h
    |cons x l ih=>
     intro hm h;rw[visL,cQ]at h;rcases h with h|h
     ·have hx:=sN hw'.1 (hm x (by simp));rw[wI hx.2.2.1 hx.2.2.2,aP]at h;subst h;exact bAe hw'.1 (hm x (by simp))
     ·exact ih (fun k hk=>hm k (by simp[hk])) h
   exact L t.rest (fun _ h=>h) hv
theorem wJ{t x:LTerm}(hw:wfT nodeB t=true)(h:x∈G4 t):aBk x∧x.kind=6:=by
 have h2:=rN.1 h;obtain⟨v,hv,rfl⟩:=dX.1 h2.1;have h6:v.1.kind=6:=by have:=h2.2;simp only[isV,aD,decide_eq_true_eq]at this;exact this.1
 exact⟨bIv t hw 1 v hv h6,h6⟩
theorem aSn{a b:LTerm}(ha:aBk a∧a.kind=6)(hb:aBk b∧b.kind=6)(h:J6 a=J6 b):a=b:=by
 obtain⟨⟨a1,a2,a3,_⟩,a4⟩:=ha;obtain⟨⟨b1,b2,b3,_⟩,b4⟩:=hb;cases a;cases b;simp only[J6,LTerm.text,LTerm.sort,bL,LTerm.n,LTerm.kids,LTerm.rest,LTerm.kind]at *
 subst_vars;rw[h.1,h.2]
theorem bAs(s:dK)(t:LTerm):bAt s t=bYs (kY nodeB t&&tE s t) s t:=by
 rw[bAt,bYs];rcases lY (kY nodeB t)with hv|hv
 ·rcases lY (tE s t)with hf|hf
  ·rw[hv,hf]
   simp only[aR];have hw:wfT nodeB t=true:=by simp only[kY,aD]at hv;exact hv.1.1
   rw[aKu,aKa,dD,aUk s t hw 1,aUf t hw 1];have hp:=fun x hx=>wJ (x:=x) hw hx;have e1:decide ((sM t).2=[])=bPf (bPl [] t):=by
    rw[gA,decide_eq_true_eq,bPl,aTb (fun a ha b hb=>aSn (hp a ha) (hp b hb)),sM,aJl,G4];refine bJl fun x hx=>?_;obtain⟨v,hv,rfl⟩:=dX.1 hx;exact(hp v hv).1.text
   have e2:bLn (bPl [] t) = !dol t 1:=by
    have hm:=(aBd (G4 t) [] fL).2;rw[gA,bLn,bC,eG,dol,gV];constructor
    ·intro h v hv;intro q;simp only[aD,decide_eq_true_eq]at q;have hx:v.1∈G4 t:=rN.2 ⟨dX.2 ⟨v,hv,rfl⟩,by simp[isV,q.1,q.2]⟩;have:=h v.1 ((hm v.1).2 (.inr hx));simp[q.2]at this
    ·intro h x hx;have hx:=((hm x).1 hx).resolve_left (by simp);have h2:=rN.1 hx;obtain⟨v,hv,rfl⟩:=dX.1 h2.1;have:=h v hv;simp only[(hp v.1 hx).2,decide_true,aR,decide_eq_true_eq]at this;simp[this]
   rw[e1,e2];cases Q1 s t<;>cases xQ t<;>cases dol t 1<;>cases bPf (bPl [] t)<;>rfl
  ·rw[hf];simp
 ·rw[hv];simp
def D3(s:dK)(t:LTerm):Bool:=iH s&&bAt s t
theorem V3(s:dK)(t:LTerm)(hm:Small s)(hs:OkS s)(ht:OkT t): CT 20 [.agg (dW s),elT t] (.b (D3 s t)):=by
 refine gI (rx:=true) (th:=fun _=>none) dE Tryz.func20 g0 ?_
 ·simp -implicitDefEqProofs (disch:=omega) only[Tryz.f20,go_sem,List.replicate,simprocAttr];have c2:=aOk s hm hs;have c3:=bHo s t hm ht;rw[D3];rcases lY (iH s)with h2|h2
  ·rw[h2]at c2;(refine zt3 c2 (aAk s hm (iP h2)) c3 ?_;repeat' first|exact trivial|refine zJ ?_ ?_|refine zH fun hc=>?_);all_goals exact bR (by rw[h2];rfl) rfl
  ·rw[h2]at c2;(refine zt1 c2 ?_;repeat' first|exact trivial|refine zJ ?_ ?_|refine zH fun hc=>?_);all_goals exact bR (by rw[h2];rfl) rfl
theorem yW{s:dK}{t:LTerm}(h:D3 s t=true):kY nodeB t=true:=by
 rw[D3,bAt,aD,aD]at h;exact h.2.1
end Go.Proofs.YtdjcggcjlphdoaaGreatDoor

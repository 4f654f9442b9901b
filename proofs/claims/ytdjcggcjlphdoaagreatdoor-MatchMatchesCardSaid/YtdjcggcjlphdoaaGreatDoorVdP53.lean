/-
  Functions of the chapter, as plain functions of what they are given; no condition.
-/
import Derived.Test.YtdjcggcjlphdoaaGreatDoorVcP53
import Derived.Test.YtdjcggcjlphdoaaGreatDoorVdP52
set_option maxRecDepth 100000
set_option linter.unusedSimpArgs false
set_option linter.unusedVariables false
set_option maxHeartbeats 4000000
namespace Go.Proofs.YtdjcggcjlphdoaaGreatDoor
open Go Go.Vo
open Nat (reduceAdd reduceSub reduceMul reduceLeDiff reduceLT reduceEqDiff)
open Int (reduceNeg)
abbrev AF:=LTerm→LTerm→List LSub→Bool→MR
def vO(A:AF):Prop:=∀p t l,(A p t l true).2=true
def cAe(A:AF):Prop:=∀p t b,A p t [] b=([],b)
theorem aBt{l:List LSub}:(pH true l).2=true:=by rw[pH];split<;>rfl
section
variable {A:AF} {s:dF} {key value:LTerm}
theorem aQx(hA:vO A):∀{ps ts:List LTerm} {l:List LSub},(jH A ps ts l true).2=true
 | [],ts,l=>by rw[H5]
 |p::ps,[],l=>rfl
 |p::ps,t::ts,l=>by rw[jH,hA];exact aQx hA
theorem aCh(hA:cAe A){b:Bool}:∀{ps ts:List LTerm},jH A ps ts [] b=([],b)
 | [],ts=>H5
 |p::ps,[]=>rfl
 |p::ps,t::ts=>by rw[jH,hA];exact aCh hA
theorem H4:∀{ps ts:List LTerm} {l:List LSub} {b:Bool} (k:Nat),jH A ps ts l b=jH A (ps.drop k) (ts.drop k) (jH A (ps.take k) (ts.take k) l b).1 (jH A (ps.take k) (ts.take k) l b).2
 |ps,ts,l,b,0=>by simp
 | [],ts,l,b,k+1=>by simp
 |p::ps,[],l,b,k+1=>by
  simp only[List.take_nil,List.drop_nil,aL,aQ,jH];cases ps.drop k<;>rfl
 |p::ps,t::ts,l,b,k+1=>by rw[jH,H4 k];simp only[aL,aQ,jH]
theorem bFg(hA:vO A){w:jV}:∀k,(mC A s key value w k true).2=true
 |0=>rfl
 |k+1=>by
  rw[mC];show(A value _ _ _).2=true;rw[bFg hA k];exact hA _ _ _
theorem bFh(hA:vO A):∀ws,(lE A s key value ws true).2=true
 | []=>rfl
 |w::ws=>by
  rw[lE];show(lE A s key value ws _).2=true;rw[bFg hA];exact bFh hA ws
theorem bLk(hA:vO A){ws:List jV}:(nJ A s key value ws true).2=true:=by
 rw[nJ];split
 ·rfl
 ·exact bFh hA ws
theorem bEa(hA:vO A){p:LTerm}{r:List jV×Bool}(h:r.2=true):∀k,(lX A s p k r).2=true
 |0=>h
 |k+1=>by rw[lX,bEa hA h k];exact bLk hA
theorem bHo(hA:vO A){p t:LTerm}{l:List LSub}:(lK A s p t l true).2=true:=by
 rw[lK,bEa hA rfl];exact aBt
theorem aQf{p:LTerm}{b:Bool}:∀k,lX A s p k ([],b)=([],b)
 |0=>rfl
 |k+1=>by rw[lX,aQf k];rfl
theorem aXz{p t:LTerm}{b:Bool}:lK A s p t [] b=([],b):=by
 rw[lK,aT,aQf];rfl
end
theorem aPb{s:dF}:∀n,vO (dX s n)
 |0=>fun p t l=>rfl
 |n + 1=>fun p t l=>by
  have hA:=aPb (s:=s) n;rw[dX];split
  ·split
   ·exact aQx hA
   ·rfl
  split
  ·split
   ·split
    ·rw[aQx hA];exact aBt
    ·exact aQx hA
   ·rfl
  split
  ·split
   ·exact bHo hA
   ·rfl
  exact aBt
theorem aMj{s:dF}:∀n,cAe (dX s n)
 |0=>fun p t b=>rfl
 |n + 1=>fun p t b=>by
  have hA:=aMj (s:=s) n;rw[dX];split
  ·split
   ·exact aCh hA
   ·rfl
  split
  ·split
   ·split
    ·rw[aCh hA];rfl
    ·exact aCh hA
   ·rfl
  split
  ·split
   ·exact aXz
   ·rfl
  rfl
structure kP where
 u:LSub
 tk:List Bool
instance:Inhabited kP:=⟨⟨[],[]⟩⟩
def leftOf:List LTerm→List Bool→List LTerm
 |a::b::l,x::tk=>if x=true then leftOf l tk else a::b::leftOf l tk
 |_,_=>[]
def jE(ks:List LTerm)(w:kP):jV:=⟨w.u,leftOf ks w.tk⟩
def cntF:Nat→List Bool→Nat
 |0,_=>0
 |_,[]=>0
 |k+1,x::tk=>(if x=true then 0 else 1)+cntF k tk
theorem aKe:∀{m:Nat} {ks:List LTerm},ks.length=2*m→leftOf ks (List.replicate m false)=ks
 |0,ks,h=>by
  have:ks=[]:=List.eq_nil_of_length_eq_zero (by omega);subst this;rfl
 |m+1,a::b::ks,h=>by rw[gE,leftOf,if_neg (by simp),aKe (m:=m) (by simp at h;omega)]
 |m+1,[a],h=>by simp at h;omega
 |m+1,[],h=>by simp at h
theorem xT:∀{ks:List LTerm} {tk:List Bool},ks.length=2*tk.length→(leftOf ks tk).length=2*cntF tk.length tk
 |ks,[],h=>by
  have:ks=[]:=List.eq_nil_of_length_eq_zero (by simpa using h);subst this;rfl
 |a::b::ks,x::tk,h=>by
  have ih:=xT (ks:=ks) (tk:=tk) (by simp at h;omega);rw[leftOf,bB,cntF];split
  ·rw[ih];omega
  ·rw[bB,bB,ih];omega
 | [a],x::tk,h=>by simp at h;omega
 | [],x::tk,h=>by simp at h
theorem yH:∀{k:Nat} {tk:List Bool},k<tk.length→cntF (k+1) tk=cntF k tk+(if tk.getD k false=true then 0 else 1)
 |0,x::tk,_=>by simp[cntF]
 |k+1,x::tk,h=>by
  rw[cntF,yH (by simpa using h),cntF,eU];omega
theorem aVi:∀{k:Nat} {tk:List Bool},cntF k tk≤k
 |0,_=>by simp[cntF]
 |k+1,[]=>by simp[cntF]
 |k+1,x::tk=>by
  have:=aVi (k:=k) (tk:=tk);rw[cntF];split<;>omega
theorem left_at:∀{i:Nat} {ks:List LTerm} {tk:List Bool},ks.length=2*tk.length→i<tk.length→tk.getD i false=false →
 (leftOf ks tk).getD (2*cntF i tk) default=ks.getD (2*i) default∧(leftOf ks tk).getD (2*cntF i tk+1) default=ks.getD (2*i+1) default∧T6 (leftOf ks tk) (2*cntF i tk)=leftOf ks (tk.set i true)
 |0,a::b::ks,x::tk,hl,hi,hx=>by
  simp only[gG]at hx;subst hx;simp[leftOf,cntF,T6]
 |i + 1,a::b::ks,x::tk,hl,hi,hx=>by
  obtain⟨h1,h2,h3⟩:=left_at (i:=i) (ks:=ks) (tk:=tk) (by simp at hl;omega) (by simpa using hi) (by simpa using hx);cases x with
  |true=>
   simp only[leftOf,cntF,if_true,dU,nE];exact⟨by rw[h1];rfl,by rw[h2];rfl,h3⟩
  |false=>
   have e:2*(1+cntF i tk)=2*cntF i tk+1+1:=by omega
   have e2:2*(i+1)=2*i+1+1:=by omega
   simp only[leftOf,cntF,if_neg (show ¬false=true by simp),nE];rw[e,e2];refine⟨by simpa only[eU]using h1,by simpa only[eU]using h2,?_⟩;rw[T6]at h3 ⊢;rw[← h3,aL,aL,aQ,aQ];rfl
 |i,[a],x::tk,hl,_,_=>by simp at hl;omega
 |i,[],x::tk,hl,_,_=>by simp at hl
 |i,ks,[],_,hi,_=>by simp at hi
section
variable (A:AF) (s:dF) (key value:LTerm) (ks:List LTerm)
def P3(w:kP)(i:Nat)(b:Bool):List kP×Bool:=
 ((xQ A s key value (jE ks w) (cntF i w.tk) b).1.map fun v=>⟨v.u,w.tk.set i true⟩,(xQ A s key value (jE ks w) (cntF i w.tk) b).2)
def kT(w:kP):Nat→Bool→List kP×Bool
 |0,b=>([],b)
 |i+1,b=>if w.tk.getD i false=true then kT w i b else((kT w i b).1++(P3 A s key value ks w i (kT w i b).2).1,(P3 A s key value ks w i (kT w i b).2).2)
def jM:List kP→Bool→List kP×Bool
 | [],b=>([],b)
 |w::ws,b=>((kT A s key value ks w w.tk.length b).1++(jM ws (kT A s key value ks w w.tk.length b).2).1,(jM ws (kT A s key value ks w w.tk.length b).2).2)
end
section
variable {A:AF} {s:dF} {key value:LTerm} {ks:List LTerm}
theorem aSb{w:kP}{i:Nat}{b:Bool}(hl:ks.length=2*w.tk.length)(hi:i<w.tk.length)(hx:w.tk.getD i false=false) :
 (P3 A s key value ks w i b).1.map (jE ks)=(xQ A s key value (jE ks w) (cntF i w.tk) b).1:=by
 have h3:=(left_at hl hi hx).2.2;rw[P3,xQ];simp only[List.map_map];refine iY fun u hu=>?_;simp only[Function.comp,jE,← h3]
theorem J0{w:kP}{b:Bool}(hl:ks.length=2*w.tk.length):∀{i:Nat},i≤w.tk.length →
 ((kT A s key value ks w i b).1.map (jE ks),(kT A s key value ks w i b).2)=mC A s key value (jE ks w) (cntF i w.tk) b
 |0,_=>by
  have:cntF 0 w.tk=0:=by cases w.tk<;>rfl
  rw[this];rfl
 |i + 1,hi=>by
  have ih:=J0 (b:=b) hl (i:=i) (by omega);rw[yH (by omega),kT];by_cases hx:w.tk.getD i false=true
  ·rw[if_pos hx,if_pos hx];exact ih
  ·have hx':=cT.2 hx;rw[if_neg hx,if_neg hx,mC,← ih];dsimp only;rw[bO,aSb hl (by omega) hx'];rfl
theorem aDa:∀{ws:List kP} {b:Bool},(∀w∈ws,ks.length=2*w.tk.length) →
 ((jM A s key value ks ws b).1.map (jE ks),(jM A s key value ks ws b).2)=lE A s key value (ws.map (jE ks)) b
 | [],b,_=>rfl
 |w::ws,b,h=>by
  have hw:=h w (by simp);have e1:=J0 (A:=A) (s:=s) (key:=key) (value:=value) (b:=b) hw (bT _);have hlen:(jE ks w).left.length / 2=cntF w.tk.length w.tk:=by rw[jE,xT hw];omega
  have e2:=aDa (ws:=ws) (b:=(kT A s key value ks w w.tk.length b).2) (fun x hx=>h x (by simp[hx]));rw[jM,aK,lE,hlen,← e1];dsimp only;rw[← e2,bO]
theorem aGq(hA:vO A){w:kP}:∀i,(kT A s key value ks w i true).2=true
 |0=>rfl
 |i + 1=>by
  rw[kT];split
  ·exact aGq hA i
  ·show(xQ A s key value _ _ _).2=true;rw[aGq hA i];exact hA _ _ _
theorem aGr(hA:vO A):∀ws,(jM A s key value ks ws true).2=true
 | []=>rfl
 |w::ws=>by
  rw[jM];show(jM A s key value ks ws _).2=true;rw[aGq hA];exact aGr hA ws
end
def xV(s:dF)(p t:LTerm)(u:LSub):LSub×Bool:=
 if p.kind=6 then(if mP s (jU s t) p.sort=true then(if p.text=[95]then(u,true)else match mOf u p.text with
  |some o=>(u,decide (o=t))
  |none=>(Y1 u p.text t,true))else([],false))else(u,decide (p=t))
theorem aDq{s:dF}{p t:LTerm}{u:LSub}:gZ s p t u=if(xV s p t u).2=true then [(xV s p t u).1]else []:=by
 rw[gZ,xV];split
 ·rw[kG]
  split
  ·split
   ·rfl
   ·cases mOf u p.text with
    |none=>rfl
    |some o=>by_cases h:o=t<;>simp[h]
  ·rfl
 ·by_cases h:p=t<;>simp[h]
theorem bQl{h:List AObj}{b:Bool}:Vo.Fin h (.tup [.e0,.b b]) (.tup [avu [],.b b]):=.inr ⟨⟨rfl,rfl,trivial⟩,eM,fun i hi=>by cases hi⟩
theorem aKq{h:List AObj}{u:LSub}{n:Nat}{b:Bool}(hn:n=u.length):Vo.Fin h (.tup [.sl (u.flatMap prT) n,.b b]) (.tup [avu u,.b b]):=by subst hn;exact .inl ⟨rfl,by simp[pers,persL,jG]⟩
theorem bFm(s:dF)(u:LSub)(p t:LTerm)(hm:Small s)(ha:AscU u)(hu:OkU 1000000 u)(op:OkT p)(ot:OkT t): CT 168 [.agg [cD s],avu u,elT p,elT t] (.tup [avu (xV s p t u).1,.b (xV s p t u).2]):=by
 refine cW cI Tryz.func168 g0 ?_
 ·generalize hR:((.tup [avu (xV s p t u).1,.b (xV s p t u).2]):AV)=R;simp -implicitDefEqProofs (disch:=omega) only[Tryz.f168,go_sem,List.replicate,simprocAttr,avu,elT,aI];have c1:=aLe p t op ot;have c2:=aEs s t;have c3:=aOf s (jU s t) p.sort hm;have hul:=hu.1;have c4:=aUy u p.text ha (by omega);simp only[avu,cD]at c2 c3 c4;rw[xV]at hR;by_cases h6:p.kind=6
  ·rw[if_pos h6]at hR
   by_cases hat:mP s (jU s t) p.sort=true
   ·rw[if_pos hat]at hR
    rw[hat]at c3;by_cases hw:p.text=[95]
    ·rw[if_pos hw]at hR;simp -implicitDefEqProofs (disch:=omega) only[zt h6,Bool.not_true,cD,go_sem,simprocAttr];(repeat'(first|refine gT ?_ ?_|refine gF ?_ ?_|refine gC ?_ ?_|((first|(refine bM (c2) ?_ ?_;(focus(simp -implicitDefEqProofs (disch:=omega) only[zt h6,zt hw,cD,Bool.not_true,zdB,go_sem,simprocAttr];done)))|(refine bM (c3) ?_ ?_;(focus(simp -implicitDefEqProofs (disch:=omega) only[zt h6,zt hw,cD,Bool.not_true,zdB,go_sem,simprocAttr];done))));simp -implicitDefEqProofs (disch:=omega) only[zt h6,zt hw,cD,Bool.not_true,go_sem,simprocAttr])|refine aU (by omega) ?_|(intro hr;have hc:=hr;(try simp only[zdz]at hc);simp -implicitDefEqProofs (disch:=omega) only[hr,zt h6,zt hw,cD,Bool.not_true,go_sem,simprocAttr];(try clear hr))));subst hR;exact aKq rfl
    ·rw[if_neg hw]at hR;cases ho:mOf u p.text with
     |some o=>
      rw[ho]at hR c4;rw[sX,elT,aI]at c4;have c5:=aLe o t (aKc hu ho) ot;simp -implicitDefEqProofs (disch:=omega) only[zt h6,Bool.not_true,cD,go_sem,simprocAttr];(repeat'(first|refine gT ?_ ?_|refine gF ?_ ?_|refine gC ?_ ?_|((first|(refine bM (c2) ?_ ?_;(focus(simp -implicitDefEqProofs (disch:=omega) only[zt h6,zf hw,cD,Bool.not_true,zdB,go_sem,simprocAttr];done)))|(refine bM (c3) ?_ ?_;(focus(simp -implicitDefEqProofs (disch:=omega) only[zt h6,zf hw,cD,Bool.not_true,zdB,go_sem,simprocAttr];done)))|(refine bM (c4) ?_ ?_;(focus(simp -implicitDefEqProofs (disch:=omega) only[zt h6,zf hw,cD,Bool.not_true,zdB,go_sem,simprocAttr];done)))|(refine bM (c5) ?_ ?_;(focus(simp -implicitDefEqProofs (disch:=omega) only[zt h6,zf hw,cD,Bool.not_true,zdB,go_sem,simprocAttr];done))));simp -implicitDefEqProofs (disch:=omega) only[zt h6,zf hw,cD,Bool.not_true,go_sem,simprocAttr])|refine aU (by omega) ?_|(intro hr;have hc:=hr;(try simp only[zdz]at hc);simp -implicitDefEqProofs (disch:=omega) only[hr,zt h6,zf hw,cD,Bool.not_true,go_sem,simprocAttr];(try clear hr))));subst hR;exact aKq rfl
     |none=>
      rw[ho]at hR c4;rw[sX,elT,aI]at c4;have c5:=bFo u p.text t ha ho (by omega);simp only[avu]at c5;simp -implicitDefEqProofs (disch:=omega) only[zt h6,Bool.not_true,cD,go_sem,simprocAttr];(repeat'(first|refine gT ?_ ?_|refine gF ?_ ?_|refine gC ?_ ?_|((first|(refine bM (c2) ?_ ?_;(focus(simp -implicitDefEqProofs (disch:=omega) only[zt h6,zf hw,cD,Bool.not_true,zdB,go_sem,simprocAttr];done)))|(refine bM (c3) ?_ ?_;(focus(simp -implicitDefEqProofs (disch:=omega) only[zt h6,zf hw,cD,Bool.not_true,zdB,go_sem,simprocAttr];done)))|(refine bM (c4) ?_ ?_;(focus(simp -implicitDefEqProofs (disch:=omega) only[zt h6,zf hw,cD,Bool.not_true,zdB,go_sem,simprocAttr];done)))|(refine bM (c5) ?_ ?_;(focus(simp -implicitDefEqProofs (disch:=omega) only[zt h6,zf hw,cD,Bool.not_true,zdB,go_sem,simprocAttr];done))));simp -implicitDefEqProofs (disch:=omega) only[zt h6,zf hw,cD,Bool.not_true,go_sem,simprocAttr])|refine aU (by omega) ?_|(intro hr;have hc:=hr;(try simp only[zdz]at hc);simp -implicitDefEqProofs (disch:=omega) only[hr,zt h6,zf hw,cD,Bool.not_true,go_sem,simprocAttr];(try clear hr))));subst hR;exact aKq rfl
   ·rw[if_neg hat]at hR;rw[cT.2 hat]at c3;simp -implicitDefEqProofs (disch:=omega) only[zt h6,Bool.not_true,cD,go_sem,simprocAttr];(repeat'(first|refine gT ?_ ?_|refine gF ?_ ?_|refine gC ?_ ?_|((first|(refine bM (c2) ?_ ?_;(focus(simp -implicitDefEqProofs (disch:=omega) only[zt h6,cD,Bool.not_true,zdB,go_sem,simprocAttr];done)))|(refine bM (c3) ?_ ?_;(focus(simp -implicitDefEqProofs (disch:=omega) only[zt h6,cD,Bool.not_true,zdB,go_sem,simprocAttr];done))));simp -implicitDefEqProofs (disch:=omega) only[zt h6,cD,Bool.not_true,go_sem,simprocAttr])|refine aU (by omega) ?_|(intro hr;have hc:=hr;(try simp only[zdz]at hc);simp -implicitDefEqProofs (disch:=omega) only[hr,zt h6,cD,Bool.not_true,go_sem,simprocAttr];(try clear hr))));subst hR;exact bQl
  ·rw[if_neg h6]at hR;simp -implicitDefEqProofs (disch:=omega) only[zf h6,Bool.not_false,go_sem,simprocAttr];(repeat'(first|refine gT ?_ ?_|refine gF ?_ ?_|refine gC ?_ ?_|((refine bM (c1) ?_ ?_;(focus(simp -implicitDefEqProofs (disch:=omega) only[zf h6,Bool.not_false,zdB,go_sem,simprocAttr];done)));simp -implicitDefEqProofs (disch:=omega) only[zf h6,Bool.not_false,go_sem,simprocAttr])|refine aU (by omega) ?_|(intro hr;have hc:=hr;(try simp only[zdz]at hc);simp -implicitDefEqProofs (disch:=omega) only[hr,zf h6,Bool.not_false,go_sem,simprocAttr];(try clear hr))));subst hR;exact aKq rfl
end Go.Proofs.YtdjcggcjlphdoaaGreatDoor

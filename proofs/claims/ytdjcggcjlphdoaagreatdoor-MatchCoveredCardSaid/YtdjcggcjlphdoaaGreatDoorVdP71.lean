/-
  Functions of the chapter, as plain functions of what they are given; no condition.
-/
import Derived.Test.YtdjcggcjlphdoaaGreatDoorVcP71
set_option maxRecDepth 100000
set_option linter.unusedSimpArgs false
set_option linter.unusedVariables false
set_option maxHeartbeats 4000000
namespace Go.Proofs.YtdjcggcjlphdoaaGreatDoor
open Go Go.Vo
open Nat (reduceAdd reduceSub reduceMul reduceLeDiff reduceLT reduceEqDiff)
open Int (reduceNeg)
abbrev AF:=LTerm→LTerm→List LSub→Bool→MR
def pA(A:AF):Prop:=∀p t l,(A p t l true).2=true
def cBm(A:AF):Prop:=∀p t b,A p t [] b=([],b)
theorem G6{l:List LSub}:(sW true l).2=true:=by rw[sW];split<;>rfl
section
variable {A:AF} {s:dK} {key value:LTerm}
theorem aNi(hA:pA A):∀{ps ts:List LTerm} {l:List LSub},(jT A ps ts l true).2=true
 | [],ts,l=>by rw[yT]
 |p::ps,[],l=>rfl
 |p::ps,t::ts,l=>by rw[jT,hA];exact aNi hA
theorem aCm(hA:cBm A){b:Bool}:∀{ps ts:List LTerm},jT A ps ts [] b=([],b)
 | [],ts=>yT
 |p::ps,[]=>rfl
 |p::ps,t::ts=>by rw[jT,hA];exact aCm hA
theorem I1:∀{ps ts:List LTerm} {l:List LSub} {b:Bool} (k:Nat),jT A ps ts l b=jT A (ps.drop k) (ts.drop k) (jT A (ps.take k) (ts.take k) l b).1 (jT A (ps.take k) (ts.take k) l b).2
 |ps,ts,l,b,0=>by simp
 | [],ts,l,b,k+1=>by simp
 |p::ps,[],l,b,k+1=>by
  simp only[List.take_nil,List.drop_nil,aO,aV,jT];cases ps.drop k<;>rfl
 |p::ps,t::ts,l,b,k+1=>by rw[jT,I1 k];simp only[aO,aV,jT]
theorem bGy(hA:pA A){w:mS}:∀k,(oN A s key value w k true).2=true
 |0=>rfl
 |k+1=>by
  rw[oN];show(A value _ _ _).2=true;rw[bGy hA k];exact hA _ _ _
theorem aVk(hA:pA A):∀ws,(rA A s key value ws true).2=true
 | []=>rfl
 |w::ws=>by
  rw[rA];show(rA A s key value ws _).2=true;rw[bGy hA];exact aVk hA ws
theorem aVi(hA:pA A){ws:List mS}:(qF A s key value ws true).2=true:=by
 rw[qF];split
 ·rfl
 ·exact aVk hA ws
theorem bFh(hA:pA A){p:LTerm}{r:List mS×Bool}(h:r.2=true):∀k,(oY A s p k r).2=true
 |0=>h
 |k+1=>by rw[oY,bFh hA h k];exact aVi hA
theorem bJg(hA:pA A){p t:LTerm}{l:List LSub}:(lQ A s p t l true).2=true:=by
 rw[lQ,bFh hA rfl];exact G6
theorem aQq{p:LTerm}{b:Bool}:∀k,oY A s p k ([],b)=([],b)
 |0=>rfl
 |k+1=>by rw[oY,aQq k];rfl
theorem aZn{p t:LTerm}{b:Bool}:lQ A s p t [] b=([],b):=by
 rw[lQ,aZ,aQq];rfl
end
theorem aIr{s:dK}:∀n,pA (fM s n)
 |0=>fun p t l=>rfl
 |n + 1=>fun p t l=>by
  have hA:=aIr (s:=s) n;rw[fM];split
  ·split
   ·exact aNi hA
   ·rfl
  split
  ·split
   ·split
    ·rw[aNi hA];exact G6
    ·exact aNi hA
   ·rfl
  split
  ·split
   ·exact bJg hA
   ·rfl
  exact G6
theorem aMl{s:dK}:∀n,cBm (fM s n)
 |0=>fun p t b=>rfl
 |n + 1=>fun p t b=>by
  have hA:=aMl (s:=s) n;rw[fM];split
  ·split
   ·exact aCm hA
   ·rfl
  split
  ·split
   ·split
    ·rw[aCm hA];rfl
    ·exact aCm hA
   ·rfl
  split
  ·split
   ·exact aZn
   ·rfl
  rfl
structure kJ where
 u:LSub
 tk:List Bool
instance:Inhabited kJ:=⟨⟨[],[]⟩⟩
def leftOf:List LTerm→List Bool→List LTerm
 |a::b::l,x::tk=>if x=true then leftOf l tk else a::b::leftOf l tk
 |_,_=>[]
def jG(ks:List LTerm)(w:kJ):mS:=⟨w.u,leftOf ks w.tk⟩
def cntF:Nat→List Bool→Nat
 |0,_=>0
 |_,[]=>0
 |k+1,x::tk=>(if x=true then 0 else 1)+cntF k tk
theorem aKn:∀{m:Nat} {ks:List LTerm},ks.length=2*m→leftOf ks (List.replicate m false)=ks
 |0,ks,h=>by
  have:ks=[]:=List.eq_nil_of_length_eq_zero (by omega);subst this;rfl
 |m+1,a::b::ks,h=>by rw[fT,leftOf,if_neg (by simp),aKn (m:=m) (by simp at h;omega)]
 |m+1,[a],h=>by simp at h;omega
 |m+1,[],h=>by simp at h
theorem xM:∀{ks:List LTerm} {tk:List Bool},ks.length=2*tk.length→(leftOf ks tk).length=2*cntF tk.length tk
 |ks,[],h=>by
  have:ks=[]:=List.eq_nil_of_length_eq_zero (by simpa using h);subst this;rfl
 |a::b::ks,x::tk,h=>by
  have ih:=xM (ks:=ks) (tk:=tk) (by simp at h;omega);rw[leftOf,bF,cntF];split
  ·rw[ih];omega
  ·rw[bF,bF,ih];omega
 | [a],x::tk,h=>by simp at h;omega
 | [],x::tk,h=>by simp at h
theorem yB:∀{k:Nat} {tk:List Bool},k<tk.length→cntF (k+1) tk=cntF k tk+(if tk.getD k false=true then 0 else 1)
 |0,x::tk,_=>by simp[cntF]
 |k+1,x::tk,h=>by
  rw[cntF,yB (by simpa using h),cntF,dF];omega
theorem aWj:∀{k:Nat} {tk:List Bool},cntF k tk≤k
 |0,_=>by simp[cntF]
 |k+1,[]=>by simp[cntF]
 |k+1,x::tk=>by
  have:=aWj (k:=k) (tk:=tk);rw[cntF];split<;>omega
theorem left_at:∀{i:Nat} {ks:List LTerm} {tk:List Bool},ks.length=2*tk.length→i<tk.length→tk.getD i false=false →
 (leftOf ks tk).getD (2*cntF i tk) default=ks.getD (2*i) default∧(leftOf ks tk).getD (2*cntF i tk+1) default=ks.getD (2*i+1) default∧aKk (leftOf ks tk) (2*cntF i tk)=leftOf ks (tk.set i true)
 |0,a::b::ks,x::tk,hl,hi,hx=>by
  simp only[gO]at hx;subst hx;simp[leftOf,cntF,aKk]
 |i + 1,a::b::ks,x::tk,hl,hi,hx=>by
  obtain⟨h1,h2,h3⟩:=left_at (i:=i) (ks:=ks) (tk:=tk) (by simp at hl;omega) (by simpa using hi) (by simpa using hx);cases x with
  |true=>
   simp only[leftOf,cntF,if_true,eF,kX];exact⟨by rw[h1];rfl,by rw[h2];rfl,h3⟩
  |false=>
   have e:2*(1+cntF i tk)=2*cntF i tk+1+1:=by omega
   have e2:2*(i+1)=2*i+1+1:=by omega
   simp only[leftOf,cntF,if_neg (show ¬false=true by simp),kX];rw[e,e2];refine⟨by simpa only[dF]using h1,by simpa only[dF]using h2,?_⟩;rw[aKk]at h3 ⊢;rw[← h3,aO,aO,aV,aV];rfl
 |i,[a],x::tk,hl,_,_=>by simp at hl;omega
 |i,[],x::tk,hl,_,_=>by simp at hl
 |i,ks,[],_,hi,_=>by simp at hi
section
variable (A:AF) (s:dK) (key value:LTerm) (ks:List LTerm)
def P7(w:kJ)(i:Nat)(b:Bool):List kJ×Bool:=
 ((tC A s key value (jG ks w) (cntF i w.tk) b).1.map fun v=>⟨v.u,w.tk.set i true⟩,(tC A s key value (jG ks w) (cntF i w.tk) b).2)
def kP(w:kJ):Nat→Bool→List kJ×Bool
 |0,b=>([],b)
 |i+1,b=>if w.tk.getD i false=true then kP w i b else((kP w i b).1++(P7 A s key value ks w i (kP w i b).2).1,(P7 A s key value ks w i (kP w i b).2).2)
def jL:List kJ→Bool→List kJ×Bool
 | [],b=>([],b)
 |w::ws,b=>((kP A s key value ks w w.tk.length b).1++(jL ws (kP A s key value ks w w.tk.length b).2).1,(jL ws (kP A s key value ks w w.tk.length b).2).2)
end
section
variable {A:AF} {s:dK} {key value:LTerm} {ks:List LTerm}
theorem aSs{w:kJ}{i:Nat}{b:Bool}(hl:ks.length=2*w.tk.length)(hi:i<w.tk.length)(hx:w.tk.getD i false=false) :
 (P7 A s key value ks w i b).1.map (jG ks)=(tC A s key value (jG ks w) (cntF i w.tk) b).1:=by
 have h3:=(left_at hl hi hx).2.2;rw[P7,tC];simp only[List.map_map];refine jC fun u hu=>?_;simp only[Function.comp,jG,← h3]
theorem J7{w:kJ}{b:Bool}(hl:ks.length=2*w.tk.length):∀{i:Nat},i≤w.tk.length →
 ((kP A s key value ks w i b).1.map (jG ks),(kP A s key value ks w i b).2)=oN A s key value (jG ks w) (cntF i w.tk) b
 |0,_=>by
  have:cntF 0 w.tk=0:=by cases w.tk<;>rfl
  rw[this];rfl
 |i + 1,hi=>by
  have ih:=J7 (b:=b) hl (i:=i) (by omega);rw[yB (by omega),kP];by_cases hx:w.tk.getD i false=true
  ·rw[if_pos hx,if_pos hx];exact ih
  ·have hx':=dG.2 hx;rw[if_neg hx,if_neg hx,oN,← ih];dsimp only;rw[cL,aSs hl (by omega) hx'];rfl
theorem aDb:∀{ws:List kJ} {b:Bool},(∀w∈ws,ks.length=2*w.tk.length) →
 ((jL A s key value ks ws b).1.map (jG ks),(jL A s key value ks ws b).2)=rA A s key value (ws.map (jG ks)) b
 | [],b,_=>rfl
 |w::ws,b,h=>by
  have hw:=h w (by simp);have e1:=J7 (A:=A) (s:=s) (key:=key) (value:=value) (b:=b) hw (bV _);have hlen:(jG ks w).left.length / 2=cntF w.tk.length w.tk:=by rw[jG,xM hw];omega
  have e2:=aDb (ws:=ws) (b:=(kP A s key value ks w w.tk.length b).2) (fun x hx=>h x (by simp[hx]));rw[jL,aQ,rA,hlen,← e1];dsimp only;rw[← e2,cL]
theorem aGy(hA:pA A){w:kJ}:∀i,(kP A s key value ks w i true).2=true
 |0=>rfl
 |i + 1=>by
  rw[kP];split
  ·exact aGy hA i
  ·show(tC A s key value _ _ _).2=true;rw[aGy hA i];exact hA _ _ _
theorem aGz(hA:pA A):∀ws,(jL A s key value ks ws true).2=true
 | []=>rfl
 |w::ws=>by
  rw[jL];show(jL A s key value ks ws _).2=true;rw[aGy hA];exact aGz hA ws
end
end Go.Proofs.YtdjcggcjlphdoaaGreatDoor

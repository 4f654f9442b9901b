/-
  Functions of the chapter, as plain functions of what they are given; no condition.
-/
import Derived.Test.YtdjcggcjlphdoaaGreatDoorVcP12
set_option maxRecDepth 100000
set_option linter.unusedSimpArgs false
set_option linter.unusedVariables false
set_option maxHeartbeats 4000000
namespace Go.Proofs.YtdjcggcjlphdoaaGreatDoor
open Go Go.Vo
open Nat (reduceAdd reduceSub reduceMul reduceLeDiff reduceLT reduceEqDiff)
open Int (reduceNeg)
abbrev AF:=LTerm→LTerm→List LSub→Bool→MR
def pU(A:AF):Prop:=∀p t l,(A p t l true).2=true
def cGa(A:AF):Prop:=∀p t b,A p t [] b=([],b)
theorem J8{l:List LSub}:(uM true l).2=true:=by rw[uM];split<;>rfl
section
variable {A:AF} {s:dX} {key value:LTerm}
theorem aPq(hA:pU A):∀{ps ts:List LTerm} {l:List LSub},(kG A ps ts l true).2=true
 | [],ts,l=>by rw[A7]
 |p::ps,[],l=>rfl
 |p::ps,t::ts,l=>by rw[kG,hA];exact aPq hA
theorem aDm(hA:cGa A){b:Bool}:∀{ps ts:List LTerm},kG A ps ts [] b=([],b)
 | [],ts=>A7
 |p::ps,[]=>rfl
 |p::ps,t::ts=>by rw[kG,hA];exact aDm hA
theorem L4:∀{ps ts:List LTerm} {l:List LSub} {b:Bool} (k:Nat),kG A ps ts l b=kG A (ps.drop k) (ts.drop k) (kG A (ps.take k) (ts.take k) l b).1 (kG A (ps.take k) (ts.take k) l b).2
 |ps,ts,l,b,0=>by simp
 | [],ts,l,b,k+1=>by simp
 |p::ps,[],l,b,k+1=>by
  simp only[List.take_nil,List.drop_nil,aL,aT,kG];cases ps.drop k<;>rfl
 |p::ps,t::ts,l,b,k+1=>by rw[kG,L4 k];simp only[aL,aT,kG]
theorem bKb(hA:pU A){w:nJ}:∀k,(pF A s key value w k true).2=true
 |0=>rfl
 |k+1=>by
  rw[pF];show(A value _ _ _).2=true;rw[bKb hA k];exact hA _ _ _
theorem aXw(hA:pU A):∀ws,(rY A s key value ws true).2=true
 | []=>rfl
 |w::ws=>by
  rw[rY];show(rY A s key value ws _).2=true;rw[bKb hA];exact aXw hA ws
theorem aXu(hA:pU A){ws:List nJ}:(qZ A s key value ws true).2=true:=by
 rw[qZ];split
 ·rfl
 ·exact aXw hA ws
theorem bIp(hA:pU A){p:LTerm}{r:List nJ×Bool}(h:r.2=true):∀k,(pT A s p k r).2=true
 |0=>h
 |k+1=>by rw[pT,bIp hA h k];exact aXu hA
theorem bMc(hA:pU A){p t:LTerm}{l:List LSub}:(mF A s p t l true).2=true:=by
 rw[mF,bIp hA rfl];exact J8
theorem aTd{p:LTerm}{b:Bool}:∀k,pT A s p k ([],b)=([],b)
 |0=>rfl
 |k+1=>by rw[pT,aTd k];rfl
theorem bCb{p t:LTerm}{b:Bool}:mF A s p t [] b=([],b):=by
 rw[mF,aZ,aTd];rfl
end
theorem aKd{s:dX}:∀n,pU (fJ s n)
 |0=>fun p t l=>rfl
 |n + 1=>fun p t l=>by
  have hA:=aKd (s:=s) n;rw[fJ];split
  ·split
   ·exact aPq hA
   ·rfl
  split
  ·split
   ·split
    ·rw[aPq hA];exact J8
    ·exact aPq hA
   ·rfl
  split
  ·split
   ·exact bMc hA
   ·rfl
  exact J8
theorem aOr{s:dX}:∀n,cGa (fJ s n)
 |0=>fun p t b=>rfl
 |n + 1=>fun p t b=>by
  have hA:=aOr (s:=s) n;rw[fJ];split
  ·split
   ·exact aDm hA
   ·rfl
  split
  ·split
   ·split
    ·rw[aDm hA];rfl
    ·exact aDm hA
   ·rfl
  split
  ·split
   ·exact bCb
   ·rfl
  rfl
structure kU where
 u:LSub
 tk:List Bool
instance:Inhabited kU:=⟨⟨[],[]⟩⟩
def leftOf:List LTerm→List Bool→List LTerm
 |a::b::l,x::tk=>if x=true then leftOf l tk else a::b::leftOf l tk
 |_,_=>[]
def jQ(ks:List LTerm)(w:kU):nJ:=⟨w.u,leftOf ks w.tk⟩
def cntF:Nat→List Bool→Nat
 |0,_=>0
 |_,[]=>0
 |k+1,x::tk=>(if x=true then 0 else 1)+cntF k tk
theorem aMo:∀{m:Nat} {ks:List LTerm},ks.length=2*m→leftOf ks (List.replicate m false)=ks
 |0,ks,h=>by
  have:ks=[]:=List.eq_nil_of_length_eq_zero (by omega);subst this;rfl
 |m+1,a::b::ks,h=>by rw[gV,leftOf,if_neg (by simp),aMo (m:=m) (by simp at h;omega)]
 |m+1,[a],h=>by simp at h;omega
 |m+1,[],h=>by simp at h
theorem yT:∀{ks:List LTerm} {tk:List Bool},ks.length=2*tk.length→(leftOf ks tk).length=2*cntF tk.length tk
 |ks,[],h=>by
  have:ks=[]:=List.eq_nil_of_length_eq_zero (by simpa using h);subst this;rfl
 |a::b::ks,x::tk,h=>by
  have ih:=yT (ks:=ks) (tk:=tk) (by simp at h;omega);rw[leftOf,aQ,cntF];split
  ·rw[ih];omega
  ·rw[aQ,aQ,ih];omega
 | [a],x::tk,h=>by simp at h;omega
 | [],x::tk,h=>by simp at h
theorem zN:∀{k:Nat} {tk:List Bool},k<tk.length→cntF (k+1) tk=cntF k tk+(if tk.getD k false=true then 0 else 1)
 |0,x::tk,_=>by simp[cntF]
 |k+1,x::tk,h=>by
  rw[cntF,zN (by simpa using h),cntF,dE];omega
theorem aYz:∀{k:Nat} {tk:List Bool},cntF k tk≤k
 |0,_=>by simp[cntF]
 |k+1,[]=>by simp[cntF]
 |k+1,x::tk=>by
  have:=aYz (k:=k) (tk:=tk);rw[cntF];split<;>omega
theorem left_at:∀{i:Nat} {ks:List LTerm} {tk:List Bool},ks.length=2*tk.length→i<tk.length→tk.getD i false=false →
 (leftOf ks tk).getD (2*cntF i tk) default=ks.getD (2*i) default∧(leftOf ks tk).getD (2*cntF i tk+1) default=ks.getD (2*i+1) default∧aQf (leftOf ks tk) (2*cntF i tk)=leftOf ks (tk.set i true)
 |0,a::b::ks,x::tk,hl,hi,hx=>by
  simp only[eM]at hx;subst hx;simp[leftOf,cntF,aQf]
 |i + 1,a::b::ks,x::tk,hl,hi,hx=>by
  obtain⟨h1,h2,h3⟩:=left_at (i:=i) (ks:=ks) (tk:=tk) (by simp at hl;omega) (by simpa using hi) (by simpa using hx);cases x with
  |true=>
   simp only[leftOf,cntF,if_true,dM,iG];exact⟨by rw[h1];rfl,by rw[h2];rfl,h3⟩
  |false=>
   have e:2*(1+cntF i tk)=2*cntF i tk+1+1:=by omega
   have e2:2*(i+1)=2*i+1+1:=by omega
   simp only[leftOf,cntF,if_neg (show ¬false=true by simp),iG];rw[e,e2];refine⟨by simpa only[dE]using h1,by simpa only[dE]using h2,?_⟩;rw[aQf]at h3 ⊢;rw[← h3,aL,aL,aT,aT];rfl
 |i,[a],x::tk,hl,_,_=>by simp at hl;omega
 |i,[],x::tk,hl,_,_=>by simp at hl
 |i,ks,[],_,hi,_=>by simp at hi
section
variable (A:AF) (s:dX) (key value:LTerm) (ks:List LTerm)
def S9(w:kU)(i:Nat)(b:Bool):List kU×Bool:=
 ((uN A s key value (jQ ks w) (cntF i w.tk) b).1.map fun v=>⟨v.u,w.tk.set i true⟩,(uN A s key value (jQ ks w) (cntF i w.tk) b).2)
def kZ(w:kU):Nat→Bool→List kU×Bool
 |0,b=>([],b)
 |i+1,b=>if w.tk.getD i false=true then kZ w i b else((kZ w i b).1++(S9 A s key value ks w i (kZ w i b).2).1,(S9 A s key value ks w i (kZ w i b).2).2)
def jX:List kU→Bool→List kU×Bool
 | [],b=>([],b)
 |w::ws,b=>((kZ A s key value ks w w.tk.length b).1++(jX ws (kZ A s key value ks w w.tk.length b).2).1,(jX ws (kZ A s key value ks w w.tk.length b).2).2)
end
section
variable {A:AF} {s:dX} {key value:LTerm} {ks:List LTerm}
theorem aVb{w:kU}{i:Nat}{b:Bool}(hl:ks.length=2*w.tk.length)(hi:i<w.tk.length)(hx:w.tk.getD i false=false) :
 (S9 A s key value ks w i b).1.map (jQ ks)=(uN A s key value (jQ ks w) (cntF i w.tk) b).1:=by
 have h3:=(left_at hl hi hx).2.2;rw[S9,uN];simp only[wP];refine iP fun u hu=>?_;simp only[Function.comp,jQ,← h3]
theorem N7{w:kU}{b:Bool}(hl:ks.length=2*w.tk.length):∀{i:Nat},i≤w.tk.length →
 ((kZ A s key value ks w i b).1.map (jQ ks),(kZ A s key value ks w i b).2)=pF A s key value (jQ ks w) (cntF i w.tk) b
 |0,_=>by
  have:cntF 0 w.tk=0:=by cases w.tk<;>rfl
  rw[this];rfl
 |i + 1,hi=>by
  have ih:=N7 (b:=b) hl (i:=i) (by omega);rw[zN (by omega),kZ];by_cases hx:w.tk.getD i false=true
  ·rw[if_pos hx,if_pos hx];exact ih
  ·have hx':=dD.2 hx;rw[if_neg hx,if_neg hx,pF,← ih];dsimp only;rw[cG,aVb hl (by omega) hx'];rfl
theorem aEf:∀{ws:List kU} {b:Bool},(∀w∈ws,ks.length=2*w.tk.length) →
 ((jX A s key value ks ws b).1.map (jQ ks),(jX A s key value ks ws b).2)=rY A s key value (ws.map (jQ ks)) b
 | [],b,_=>rfl
 |w::ws,b,h=>by
  have hw:=h w (by simp);have e1:=N7 (A:=A) (s:=s) (key:=key) (value:=value) (b:=b) hw (bK _);have hlen:(jQ ks w).left.length / 2=cntF w.tk.length w.tk:=by rw[jQ,yT hw];omega
  have e2:=aEf (ws:=ws) (b:=(kZ A s key value ks w w.tk.length b).2) (fun x hx=>h x (by simp[hx]));rw[jX,aK,rY,hlen,← e1];dsimp only;rw[← e2,cG]
theorem aIi(hA:pU A){w:kU}:∀i,(kZ A s key value ks w i true).2=true
 |0=>rfl
 |i + 1=>by
  rw[kZ];split
  ·exact aIi hA i
  ·show(uN A s key value _ _ _).2=true;rw[aIi hA i];exact hA _ _ _
theorem aIj(hA:pU A):∀ws,(jX A s key value ks ws true).2=true
 | []=>rfl
 |w::ws=>by
  rw[jX];show(jX A s key value ks ws _).2=true;rw[aIi hA];exact aIj hA ws
end
end Go.Proofs.YtdjcggcjlphdoaaGreatDoor

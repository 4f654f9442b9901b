/-
  Functions of the chapter, as plain functions of what they are given; no condition.
-/
import Derived.Test.YtdjcggcjlphdoaaGreatDoorSoP73
set_option maxRecDepth 100000
set_option linter.unusedSimpArgs false
set_option linter.unusedVariables false
set_option maxHeartbeats 4000000
namespace Go.Proofs.YtdjcggcjlphdoaaGreatDoor
open Go Go.Vo
open Nat (reduceAdd reduceSub reduceMul reduceLeDiff reduceLT reduceEqDiff)
open Int (reduceNeg)
inductive Up (l:List (Str×Str)):Str→Str→Prop
 |refl (a:Str):Up l a a
 |step {a b c:Str}:Up l a b→(b,c)∈l→Up l a c
theorem Up.trans{l:List (Str×Str)}{a b c:Str}(h:Up l a b)(k:Up l b c):Up l a c:=by
 induction k with
 |refl=>exact h
 |step _ hm ih=>exact .step ih hm
theorem Up.head{l:List (Str×Str)}{a b:Str}(h:Up l a b):a=b∨∃m,(a,m)∈l∧Up l m b:=by
 induction h with
 |refl=>exact .inl rfl
 |step hu hm ih=>
  rename_i b c;rcases ih with rfl|⟨m,h1,h2⟩
  ·exact .inr ⟨c,hm,.refl _⟩
  ·exact .inr ⟨m,h1,.step h2 hm⟩
theorem pD{x:Str}:∀{l:List (Str×Str)} {L:List Str} {y:Str},y∈L→y∈jQ l x L
 | [],L,y,h=>h
 |b::l,L,y,h=>by
  show y∈jQ l x (nC x L b);refine pD ?_;rcases nB x L b with e|⟨_,_,e⟩<;>rw[e]<;>simp[h]
theorem H5{x:Str}:∀{l:List (Str×Str)} {L:List Str} {i:Nat},i<L.length→(jQ l x L).getD i []=L.getD i []
 | [],L,i,h=>rfl
 |b::l,L,i,h=>by
  show(jQ l x (nC x L b)).getD i []=_;have h2:=wT (x:=x) (b:=b) h;rw[H5 h2.2,h2.1]
theorem H4{x:Str}:∀{l:List (Str×Str)} {L:List Str},L.length≤(jQ l x L).length
 | [],L=>bV _
 |b::l,L=>by
  show _≤(jQ l x (nC x L b)).length;refine jI ?_ H4;rcases nB x L b with e|⟨_,_,e⟩<;>rw[e]<;>simp
theorem H6{x:Str}:∀{l:List (Str×Str)} {L:List Str} {c:Str},(x,c)∈l→c∈jQ l x L
 |b :: l,L,c,h=>by
  show c∈jQ l x (nC x L b);rcases dA.1 h with h|h
  ·subst h;refine pD ?_;unfold nC;by_cases hc:L.contains c=false
   ·rw[if_pos ⟨rfl,hc⟩];simp
   ·rw[if_neg (fun h=>hc h.2)];simpa using hc
  ·exact H6 h
theorem H3{x:Str}:∀{l:List (Str×Str)} {L:List Str} {y:Str},y∈jQ l x L→y∈L∨(x,y)∈l
 | [],L,y,h=>.inl h
 |b :: l,L,y,h=>by
  have h:y∈jQ l x (nC x L b):=h;rcases H3 h with h|h
  ·rcases nB x L b with e|⟨h1,_,e⟩
   ·rw[e]at h;exact .inl h
   ·rw[e]at h;rcases cQ.1 h with h|h
    ·exact .inl h
    ·simp only[aP]at h;subst h h1;exact .inr (by simp)
  ·exact .inr (bU _ h)
theorem aEy{l:List (Str×Str)}{a:Str}:∀(f i:Nat) (L:List Str),(∀y∈L,Up l a y)→∀y∈climbG l f i L,Up l a y
 |0,i,L,h=>h
 |f + 1,i,L,h=>by
  unfold climbG;split
  ·rename_i hi;refine aEy f (i+1) _ (fun y hy=>?_);rcases H3 hy with hy|hy
   ·exact h y hy
   ·exact .step (h _ (by simp[List.getD,hi])) hy
  ·exact h
theorem yC{l:List (Str×Str)}{a:Str}:∀(f i:Nat) (L:List Str),Climbs l a L→i≤L.length→l.length+1≤i+f→(∀j c,j<i→(L.getD j [],c)∈l→c∈L)→(∀y∈L,y∈climbG l f i L)∧∀x c,x∈climbG l f i L→(x,c)∈l→c∈climbG l f i L
 |0,i,L,hC,hi,hf,h=>by
  have:=hC.len;refine⟨fun y hy=>hy,fun x c hx hc=>?_⟩;have hx:x∈L:=hx;obtain⟨j,hj,rfl⟩:=dJ.1 hx;exact h j c (by omega) (by rw[aUl hj];exact hc)
 |f + 1,i,L,hC,hi,hf,h=>by
  unfold climbG;split
  ·rename_i hlt;have hl:=H4 (x:=L.getD i []) (l:=l) (L:=L);have ih:=yC (a:=a) f (i+1) (jQ l (L.getD i []) L) (pN l _ (fun b hb=>hb) hC) (by omega) (by omega) (fun j c hj hc=>by
    rw[H5 (by omega)]at hc;rcases Q9.1 hj with h1|rfl
    ·exact pD (h j c h1 hc)
    ·exact H6 hc)
   exact⟨fun y hy=>ih.1 y (pD hy),ih.2⟩
  ·rename_i hge;refine⟨fun y hy=>hy,fun x c hx hc=>?_⟩;obtain⟨j,hj,rfl⟩:=dJ.1 hx;exact h j c (by omega) (by rw[aUl hj];exact hc)
theorem aDl{l:List (Str×Str)}{a y:Str}:y∈climb l a↔Up l a y:=by
 constructor
 ·exact aEy _ _ _ (fun y hy=>by simp only[aP]at hy;subst hy;exact .refl _) y
 ·intro h;have hcl:=yC (l:=l) (a:=a) (l.length+1) 0 [a] ⟨by simp,by simp,by simp⟩ (by simp) (by omega) (fun j c hj=>by omega);induction h with
  |refl=>exact hcl.1 a (by simp)
  |step _ hm ih=>exact hcl.2 _ _ ih hm
structure Val(s:dK):Prop where
 low:∀b∈s.below,b.1≠anyS∧existsA s b.1=true∧b.2∈s.sorts∧¬Up s.below b.2 b.1
 fresh:∀x∈s.sorts,isName x=true∧x∉alwaysA
 values:∀x∈s.values,existsA s x=true
 nd:s.sorts.Nodup
 ops:∀o∈s.ops,isOp s o=true
 funs:∀o∈s.funs,isFun s o=true
theorem M0{s:dK}{x:Str}(h:x∈s.sorts):existsA s x=true:=by simp[existsA,keysOf,h]
theorem wK{s:dK}(h:iH s=true):Val s:=by
 simp only[iH,pT,qT,sI,aD,bC,decide_eq_true_eq]at h;obtain⟨⟨_,⟨hnd,hf⟩,_⟩,⟨⟨hb,hv⟩,ho⟩,hfu⟩:=h;refine⟨fun b hb'=>?_,fun x hx=>?_,hv,hnd,ho,hfu⟩
 ·have:=hb b hb';simp only[zF,aD,decide_eq_true_eq,eG,eY]at this;obtain⟨⟨⟨h1,h2⟩,h3⟩,h4⟩:=this;refine⟨h1,h2,h3,fun hu=>?_⟩;rw[aBh,if_pos (M0 h3)]at h4;have h5:=aDl.2 hu;rw[← eY,h4]at h5;cases h5
 ·have:=hf x hx;simp only[U3,aD,eG]at this;refine⟨this.1,fun hm=>?_⟩;rw[← eY,this.2]at hm;cases hm
theorem qO{s:dK}{x y:Str}(hx:existsA s x=true):iQ s x y=true↔y=anyS∨Up s.below x y:=by
 simp only[iQ,aBh,hx,if_true,cB,decide_eq_true_eq,eY,aDl]
theorem Val.up_any{s:dK}(v:Val s){y:Str}(h:Up s.below anyS y):y=anyS:=by
 rcases h.head with h|⟨m,h,_⟩
 ·exact h.symm
 ·exact absurd rfl (v.low _ h).1
theorem Val.up_ex{s:dK}(v:Val s){x y:Str}(h:Up s.below x y)(hx:existsA s x=true):existsA s y=true:=by
 cases h with
 |refl=>exact hx
 |step _ hm=>exact M0 (v.low _ hm).2.2.1
theorem bIf(s:dK):existsA s anyS=true:=by simp[existsA,keysOf,alwaysA,anyS]
theorem N9{s:dK}{x:Str}(hx:existsA s x=true):iQ s x x=true:=(qO hx).2 (.inr (.refl _))
theorem V9{s:dK}{x:Str}:iQ s x anyS=true:=by simp[iQ]
theorem aXg{s:dK}(v:Val s){x y:Str}(hx:existsA s x=true)(h:iQ s x y=true):existsA s y=true:=by
 rcases(qO hx).1 h with rfl|h
 ·exact bIf s
 ·exact v.up_ex h hx
theorem C5{s:dK}(v:Val s){x y z:Str}(hx:existsA s x=true)(h:iQ s x y=true)(k:iQ s y z=true):iQ s x z=true:=by
 have hy:=aXg v hx h;rw[qO hx]at h ⊢;rw[qO hy]at k;rcases k with k|k
 ·exact .inl k
 ·rcases h with rfl|h
  ·exact .inl (v.up_any k)
  ·exact .inr (h.trans k)
end Go.Proofs.YtdjcggcjlphdoaaGreatDoor

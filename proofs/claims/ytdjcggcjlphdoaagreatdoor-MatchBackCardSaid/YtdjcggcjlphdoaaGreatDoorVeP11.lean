/-
  Functions of the chapter, as plain functions of what they are given; no condition.
-/
import Derived.Test.YtdjcggcjlphdoaaGreatDoorVdP11
set_option maxRecDepth 100000
set_option linter.unusedSimpArgs false
set_option linter.unusedVariables false
set_option maxHeartbeats 4000000
namespace Go.Proofs.YtdjcggcjlphdoaaGreatDoor
open Go Go.Vo
open Nat (reduceAdd reduceSub reduceMul reduceLeDiff reduceLT reduceEqDiff)
open Int (reduceNeg)
abbrev FF:=LTerm→LTerm→LSub→List LSub
section
variable (F:FF) (s:dX)
def aQu:List LTerm→List LTerm→LSub→List LSub
 |p::ps,t::ts,u=>(F p t u).flatMap (aQu ps ts)
 |_,_,u=>[u]
def bQb(key value:LTerm)(w:nJ):List nJ:=
 (List.range (w.left.length / 2)).flatMap fun k=>((mG s key w k).flatMap (F value (w.left.getD (2*k+1) default))).map fun u=>⟨u,aQf w.left (2*k)⟩
def aXs(p:LTerm):Nat→nJ→List nJ
 |0,w=>[w]
 |k+1,w=>(aXs p k w).flatMap (bQb F s (p.kids.getD (2*k) default) (p.kids.getD (2*k+1) default))
end
def S6(s:dX):Nat→FF
 |0,_,_,_=>[]
 |n + 1,p,t,u=>
  if p.kind=5 then(if t.kind=5∧t.text=p.text∧t.kids.length=p.kids.length then aQu (S6 s n) p.kids t.kids u else [])
  else if p.kind=7 then(if t.kind=7∧p.kids.length≤t.kids.length∧(p.rest.length=0→t.kids.length≤p.kids.length)then
   (if 0<p.rest.length then(aQu (S6 s n) p.kids (t.kids.take p.kids.length) u).flatMap (iT s (p.rest.getD 0 default) (.mk 7 0 [] [] (t.kids.drop p.kids.length) []))
    else aQu (S6 s n) p.kids (t.kids.take p.kids.length) u)else [])
  else if p.kind=8 then(if t.kind=8 then(aXs (S6 s n) s p (p.kids.length / 2) ⟨u,t.kids⟩).flatMap (G2 s p)else [])
  else iT s p t u
def IsF(A:AF)(F:FF):Prop:=∀p t l,(A p t l false).2=false→(A p t l false).1=l.flatMap (F p t)
theorem aBd{α:Type}{l:List α}:l.flatMap (fun x=>[x])=l:=by
 induction l with
 |nil=>rfl
 |cons a l ih=>rw[List.flatMap_cons,ih];rfl
theorem aFm{α β:Type}{l:List α}:l.flatMap (fun _=>([]:List β))=[]:=by
 induction l with
 |nil=>rfl
 |cons a l ih=>rw[List.flatMap_cons,ih];rfl
theorem zI{α β γ:Type}{l:List α}{f:α→List β}{g:β→List γ}:(l.flatMap f).flatMap g=l.flatMap fun x=>(f x).flatMap g:=by
 induction l with
 |nil=>rfl
 |cons a l ih=>rw[List.flatMap_cons,List.flatMap_append,ih,List.flatMap_cons]
theorem aSp{l:List LSub}(h:(uM false l).2=false):(uM false l).1=l:=by
 rw[uM]at h ⊢;split at h
 ·cases h
 ·rename_i hl;rw[if_neg hl]
section
variable {A:AF} {F:FF} {s:dX}
theorem bCx(hA:pU A)(hF:IsF A F):∀{ps ts:List LTerm} {l:List LSub},(kG A ps ts l false).2=false→(kG A ps ts l false).1=l.flatMap (aQu F ps ts)
 | [],ts,l,_=>by
   have:aQu F [] ts=fun u=>[u]:=by funext u;cases ts<;>rfl
   rw[A7,this,aBd]
 |p::ps,[],l,_=>by
  have:aQu F (p::ps) []=fun u=>[u]:=by funext u;rfl
  rw[this,aBd];rfl
 |p :: ps,t::ts,l,h=>by
  rw[kG]at h ⊢;by_cases hf:(A p t l false).2=false
  ·rw[hf]at h ⊢;rw[bCx hA hF h,hF p t l hf,zI];rfl
  ·rw[mC]at hf;rw[hf,aPq hA]at h;cases h
theorem bKc(hA:pU A)(hF:IsF A F){key value:LTerm}{w:nJ}:∀k:Nat,(pF A s key value w k false).2=false →
 (pF A s key value w k false).1=(List.range k).flatMap fun k=>((mG s key w k).flatMap (F value (w.left.getD (2*k+1) default))).map fun u=>(⟨u,aQf w.left (2*k)⟩:nJ)
 |0,_=>rfl
 |k + 1,h=>by
  rw[pF]at h ⊢;by_cases hf:(pF A s key value w k false).2=false
  ·dsimp only at h ⊢;rw[hf]at h ⊢;rw[bKc hA hF k hf,sR,List.flatMap_append,List.flatMap_cons,List.flatMap_nil,List.append_nil,uN];rw[uN]at h;rw[hF _ _ _ h]
  ·rw[mC]at hf;dsimp only at h;rw[hf,uN,hA]at h;cases h
theorem bKd(hA:pU A)(hF:IsF A F){key value:LTerm}:∀{ws:List nJ},(rY A s key value ws false).2=false→(rY A s key value ws false).1=ws.flatMap (bQb F s key value)
 | [],_=>rfl
 |w :: ws,h=>by
  rw[rY]at h ⊢;by_cases hf:(pF A s key value w (w.left.length / 2) false).2=false
  ·dsimp only at h ⊢;rw[hf]at h ⊢;rw[bKc hA hF _ hf,bKd hA hF h,List.flatMap_cons,bQb]
  ·rw[mC]at hf;dsimp only at h;rw[hf,aXw hA]at h;cases h
theorem bQd(hA:pU A)(hF:IsF A F){key value:LTerm}{ws:List nJ}(h:(qZ A s key value ws false).2=false):(qZ A s key value ws false).1=ws.flatMap (bQb F s key value):=by
 rw[qZ]at h ⊢;split at h
 ·cases h
 ·rename_i hl;rw[if_neg hl];exact bKd hA hF h
theorem bIq(hA:pU A)(hF:IsF A F){p:LTerm}{ws:List nJ}:∀k:Nat,(pT A s p k (ws,false)).2=false→(pT A s p k (ws,false)).1=ws.flatMap (aXs F s p k)
 |0,_=>by
  have:aXs F s p 0=fun w=>[w]:=by funext w;rfl
  rw[this,aBd];rfl
 |k + 1,h=>by
  rw[pT]at h ⊢;by_cases hf:(pT A s p k (ws,false)).2=false
  ·rw[hf]at h ⊢;rw[bQd hA hF h,bIq hA hF k hf,zI];rfl
  ·rw[mC]at hf;rw[hf,aXu hA]at h;cases h
theorem bMd(hA:pU A)(hF:IsF A F){p t:LTerm}{l:List LSub}(h:(mF A s p t l false).2=false):(mF A s p t l false).1=l.flatMap fun u=>(aXs F s p (p.kids.length / 2) ⟨u,t.kids⟩).flatMap (G2 s p):=by
 rw[mF]at h ⊢;by_cases hf:(pT A s p (p.kids.length / 2) (l.map (nJ.mk · t.kids),false)).2=false
 ·rw[hf]at h ⊢;rw[aSp h,bIq hA hF _ hf,zI,List.flatMap_map]
 ·rw[mC]at hf;rw[hf,J8]at h;cases h
end
theorem cAv{s:dX}:∀n,IsF (fJ s n) (S6 s n)
 |0=>fun p t l _=>by
  have:S6 s 0 p t=fun _=>[]:=by funext u;rfl
  rw[this,aFm];rfl
 |n + 1 => fun p t l h=>by
  have hA:=aKd (s:=s) n;have hF:=cAv (s:=s) n;have nil:∀{f:LSub→List LSub},(∀u,f u=[])→([]:List LSub)=l.flatMap f:=fun{f} h=>by
   have:f=fun _=>[]:=funext h;rw[this,aFm]
  have eqf:∀{f g:LSub→List LSub},(∀u,f u=g u)→l.flatMap f=l.flatMap g:=fun{f g} h=>by rw[show f=g from funext h]
  rw[fJ]at h ⊢;by_cases h5:p.kind=5
  ·rw[if_pos h5]at h ⊢;by_cases hc:t.kind=5∧t.text=p.text∧t.kids.length=p.kids.length
   ·rw[if_pos hc]at h ⊢;rw[bCx hA hF h];exact eqf fun u=>by rw[S6,if_pos h5,if_pos hc]
   ·rw[if_neg hc];exact nil fun u=>by rw[S6,if_pos h5,if_neg hc]
  rw[if_neg h5]at h ⊢;by_cases h7:p.kind=7
  ·rw[if_pos h7]at h ⊢
   by_cases hc:t.kind=7∧p.kids.length≤t.kids.length∧(p.rest.length=0→t.kids.length≤p.kids.length)
   ·rw[if_pos hc]at h ⊢
    by_cases hr:0<p.rest.length
    ·rw[if_pos hr]at h ⊢;by_cases hf:(kG (fJ s n) p.kids (t.kids.take p.kids.length) l false).2=false
     ·rw[hf,G3]at h ⊢;rw[aSp h,bCx hA hF hf,zI];exact eqf fun u=>by rw[S6,if_neg h5,if_pos h7,if_pos hc,if_pos hr]
     ·rw[mC]at hf;rw[hf,G3,J8]at h;cases h
    ·rw[if_neg hr]at h ⊢;rw[bCx hA hF h];exact eqf fun u=>by rw[S6,if_neg h5,if_pos h7,if_pos hc,if_neg hr]
   ·rw[if_neg hc];exact nil fun u=>by rw[S6,if_neg h5,if_pos h7,if_neg hc]
  rw[if_neg h7]at h ⊢;by_cases h8:p.kind=8
  ·rw[if_pos h8]at h ⊢;by_cases hc:t.kind=8
   ·rw[if_pos hc]at h ⊢;rw[bMd hA hF h];exact eqf fun u=>by rw[S6,if_neg h5,if_neg h7,if_pos h8,if_pos hc]
   ·rw[if_neg hc];exact nil fun u=>by rw[S6,if_neg h5,if_neg h7,if_pos h8,if_neg hc]
  rw[if_neg h8]at h ⊢;rw[G3]at h ⊢;rw[aSp h];exact eqf fun u=>by rw[S6,if_neg h5,if_neg h7,if_neg h8]
end Go.Proofs.YtdjcggcjlphdoaaGreatDoor

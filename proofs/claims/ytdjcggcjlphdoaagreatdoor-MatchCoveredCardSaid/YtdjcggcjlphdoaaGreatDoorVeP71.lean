/-
  Functions of the chapter, as plain functions of what they are given; no condition.
-/
import Derived.Test.YtdjcggcjlphdoaaGreatDoorVdP71
set_option maxRecDepth 100000
set_option linter.unusedSimpArgs false
set_option linter.unusedVariables false
set_option maxHeartbeats 4000000
namespace Go.Proofs.YtdjcggcjlphdoaaGreatDoor
open Go Go.Vo
open Nat (reduceAdd reduceSub reduceMul reduceLeDiff reduceLT reduceEqDiff)
open Int (reduceNeg)
abbrev FF:=LTerm→LTerm→LSub→List LSub
section
variable (F:FF) (s:dK)
def aPo:List LTerm→List LTerm→LSub→List LSub
 |p::ps,t::ts,u=>(F p t u).flatMap (aPo ps ts)
 |_,_,u=>[u]
def bMx(key value:LTerm)(w:mS):List mS:=
 (List.range (w.left.length / 2)).flatMap fun k=>((lE s key w k).flatMap (F value (w.left.getD (2*k+1) default))).map fun u=>⟨u,aKk w.left (2*k)⟩
def aVg(p:LTerm):Nat→mS→List mS
 |0,w=>[w]
 |k+1,w=>(aVg p k w).flatMap (bMx F s (p.kids.getD (2*k) default) (p.kids.getD (2*k+1) default))
end
def U9(s:dK):Nat→FF
 |0,_,_,_=>[]
 |n + 1,p,t,u=>
  if p.kind=5 then(if t.kind=5∧t.text=p.text∧t.kids.length=p.kids.length then aPo (U9 s n) p.kids t.kids u else [])
  else if p.kind=7 then(if t.kind=7∧p.kids.length≤t.kids.length∧(p.rest.length=0→t.kids.length≤p.kids.length)then
   (if 0<p.rest.length then(aPo (U9 s n) p.kids (t.kids.take p.kids.length) u).flatMap (iJ s (p.rest.getD 0 default) (.mk 7 0 [] [] (t.kids.drop p.kids.length) []))
    else aPo (U9 s n) p.kids (t.kids.take p.kids.length) u)else [])
  else if p.kind=8 then(if t.kind=8 then(aVg (U9 s n) s p (p.kids.length / 2) ⟨u,t.kids⟩).flatMap (B7 s p)else [])
  else iJ s p t u
def IsF(A:AF)(F:FF):Prop:=∀p t l,(A p t l false).2=false→(A p t l false).1=l.flatMap (F p t)
theorem Z9{α:Type}{l:List α}:l.flatMap (fun x=>[x])=l:=by
 induction l with
 |nil=>rfl
 |cons a l ih=>rw[List.flatMap_cons,ih];rfl
theorem aEc{α β:Type}{l:List α}:l.flatMap (fun _=>([]:List β))=[]:=by
 induction l with
 |nil=>rfl
 |cons a l ih=>rw[List.flatMap_cons,ih];rfl
theorem xX{α β γ:Type}{l:List α}{f:α→List β}{g:β→List γ}:(l.flatMap f).flatMap g=l.flatMap fun x=>(f x).flatMap g:=by
 induction l with
 |nil=>rfl
 |cons a l ih=>rw[List.flatMap_cons,List.flatMap_append,ih,List.flatMap_cons]
theorem aQa{l:List LSub}(h:(sW false l).2=false):(sW false l).1=l:=by
 rw[sW]at h ⊢;split at h
 ·cases h
 ·rename_i hl;rw[if_neg hl]
section
variable {A:AF} {F:FF} {s:dK}
theorem bAd(hA:pA A)(hF:IsF A F):∀{ps ts:List LTerm} {l:List LSub},(jT A ps ts l false).2=false→(jT A ps ts l false).1=l.flatMap (aPo F ps ts)
 | [],ts,l,_=>by
   have:aPo F [] ts=fun u=>[u]:=by funext u;cases ts<;>rfl
   rw[yT,this,Z9]
 |p::ps,[],l,_=>by
  have:aPo F (p::ps) []=fun u=>[u]:=by funext u;rfl
  rw[this,Z9];rfl
 |p :: ps,t::ts,l,h=>by
  rw[jT]at h ⊢;by_cases hf:(A p t l false).2=false
  ·rw[hf]at h ⊢;rw[bAd hA hF h,hF p t l hf,xX];rfl
  ·rw[oD]at hf;rw[hf,aNi hA]at h;cases h
theorem bGz(hA:pA A)(hF:IsF A F){key value:LTerm}{w:mS}:∀k:Nat,(oN A s key value w k false).2=false →
 (oN A s key value w k false).1=(List.range k).flatMap fun k=>((lE s key w k).flatMap (F value (w.left.getD (2*k+1) default))).map fun u=>(⟨u,aKk w.left (2*k)⟩:mS)
 |0,_=>rfl
 |k + 1,h=>by
  rw[oN]at h ⊢;by_cases hf:(oN A s key value w k false).2=false
  ·dsimp only at h ⊢;rw[hf]at h ⊢;rw[bGz hA hF k hf,List.range_succ,List.flatMap_append,List.flatMap_cons,List.flatMap_nil,List.append_nil,tC];rw[tC]at h;rw[hF _ _ _ h]
  ·rw[oD]at hf;dsimp only at h;rw[hf,tC,hA]at h;cases h
theorem bHa(hA:pA A)(hF:IsF A F){key value:LTerm}:∀{ws:List mS},(rA A s key value ws false).2=false→(rA A s key value ws false).1=ws.flatMap (bMx F s key value)
 | [],_=>rfl
 |w :: ws,h=>by
  rw[rA]at h ⊢;by_cases hf:(oN A s key value w (w.left.length / 2) false).2=false
  ·dsimp only at h ⊢;rw[hf]at h ⊢;rw[bGz hA hF _ hf,bHa hA hF h,List.flatMap_cons,bMx]
  ·rw[oD]at hf;dsimp only at h;rw[hf,aVk hA]at h;cases h
theorem bNb(hA:pA A)(hF:IsF A F){key value:LTerm}{ws:List mS}(h:(qF A s key value ws false).2=false):(qF A s key value ws false).1=ws.flatMap (bMx F s key value):=by
 rw[qF]at h ⊢;split at h
 ·cases h
 ·rename_i hl;rw[if_neg hl];exact bHa hA hF h
theorem bFi(hA:pA A)(hF:IsF A F){p:LTerm}{ws:List mS}:∀k:Nat,(oY A s p k (ws,false)).2=false→(oY A s p k (ws,false)).1=ws.flatMap (aVg F s p k)
 |0,_=>by
  have:aVg F s p 0=fun w=>[w]:=by funext w;rfl
  rw[this,Z9];rfl
 |k + 1,h=>by
  rw[oY]at h ⊢;by_cases hf:(oY A s p k (ws,false)).2=false
  ·rw[hf]at h ⊢;rw[bNb hA hF h,bFi hA hF k hf,xX];rfl
  ·rw[oD]at hf;rw[hf,aVi hA]at h;cases h
theorem bJh(hA:pA A)(hF:IsF A F){p t:LTerm}{l:List LSub}(h:(lQ A s p t l false).2=false):(lQ A s p t l false).1=l.flatMap fun u=>(aVg F s p (p.kids.length / 2) ⟨u,t.kids⟩).flatMap (B7 s p):=by
 rw[lQ]at h ⊢;by_cases hf:(oY A s p (p.kids.length / 2) (l.map (mS.mk · t.kids),false)).2=false
 ·rw[hf]at h ⊢;rw[aQa h,bFi hA hF _ hf,xX,List.flatMap_map]
 ·rw[oD]at hf;rw[hf,G6]at h;cases h
end
theorem bOt{s:dK}:∀n,IsF (fM s n) (U9 s n)
 |0=>fun p t l _=>by
  have:U9 s 0 p t=fun _=>[]:=by funext u;rfl
  rw[this,aEc];rfl
 |n + 1 => fun p t l h=>by
  have hA:=aIr (s:=s) n;have hF:=bOt (s:=s) n;have nil:∀{f:LSub→List LSub},(∀u,f u=[])→([]:List LSub)=l.flatMap f:=fun{f} h=>by
   have:f=fun _=>[]:=funext h;rw[this,aEc]
  have eqf:∀{f g:LSub→List LSub},(∀u,f u=g u)→l.flatMap f=l.flatMap g:=fun{f g} h=>by rw[show f=g from funext h]
  rw[fM]at h ⊢;by_cases h5:p.kind=5
  ·rw[if_pos h5]at h ⊢;by_cases hc:t.kind=5∧t.text=p.text∧t.kids.length=p.kids.length
   ·rw[if_pos hc]at h ⊢;rw[bAd hA hF h];exact eqf fun u=>by rw[U9,if_pos h5,if_pos hc]
   ·rw[if_neg hc];exact nil fun u=>by rw[U9,if_pos h5,if_neg hc]
  rw[if_neg h5]at h ⊢;by_cases h7:p.kind=7
  ·rw[if_pos h7]at h ⊢
   by_cases hc:t.kind=7∧p.kids.length≤t.kids.length∧(p.rest.length=0→t.kids.length≤p.kids.length)
   ·rw[if_pos hc]at h ⊢
    by_cases hr:0<p.rest.length
    ·rw[if_pos hr]at h ⊢;by_cases hf:(jT (fM s n) p.kids (t.kids.take p.kids.length) l false).2=false
     ·rw[hf,D6]at h ⊢;rw[aQa h,bAd hA hF hf,xX];exact eqf fun u=>by rw[U9,if_neg h5,if_pos h7,if_pos hc,if_pos hr]
     ·rw[oD]at hf;rw[hf,D6,G6]at h;cases h
    ·rw[if_neg hr]at h ⊢;rw[bAd hA hF h];exact eqf fun u=>by rw[U9,if_neg h5,if_pos h7,if_pos hc,if_neg hr]
   ·rw[if_neg hc];exact nil fun u=>by rw[U9,if_neg h5,if_pos h7,if_neg hc]
  rw[if_neg h7]at h ⊢;by_cases h8:p.kind=8
  ·rw[if_pos h8]at h ⊢;by_cases hc:t.kind=8
   ·rw[if_pos hc]at h ⊢;rw[bJh hA hF h];exact eqf fun u=>by rw[U9,if_neg h5,if_neg h7,if_pos h8,if_pos hc]
   ·rw[if_neg hc];exact nil fun u=>by rw[U9,if_neg h5,if_neg h7,if_pos h8,if_neg hc]
  rw[if_neg h8]at h ⊢;rw[D6]at h ⊢;rw[aQa h];exact eqf fun u=>by rw[U9,if_neg h5,if_neg h7,if_neg h8]
end Go.Proofs.YtdjcggcjlphdoaaGreatDoor

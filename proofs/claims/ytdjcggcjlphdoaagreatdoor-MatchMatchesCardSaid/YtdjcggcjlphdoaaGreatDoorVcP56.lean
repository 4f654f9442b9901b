/-
  Functions of the chapter, as plain functions of what they are given; no condition.
-/
import Derived.Test.YtdjcggcjlphdoaaGreatDoorVcP55
set_option maxRecDepth 100000
set_option linter.unusedSimpArgs false
set_option linter.unusedVariables false
set_option maxHeartbeats 4000000
namespace Go.Proofs.YtdjcggcjlphdoaaGreatDoor
open Go Go.Vo
open Nat (reduceAdd reduceSub reduceMul reduceLeDiff reduceLT reduceEqDiff)
open Int (reduceNeg)
theorem cCi{s:dF}(hm:Small s)(hs:OkS s)(hv:fM s=true):∀(n:Nat) (p:LTerm),OkN p→nodesT p≤n→bGv s n p
 |0,p,hp,h=>by rw[gA]at h;omega
 |n+1,p,hp,h=>fun t l b m ht hpt hnt hu hl hmm=>
  jI g0 (cAd s n b p t l m hm hs hv (fun q hq=>cCi hm hs hv n q (hp.kid hq) (by have:=(lU hq).1;have:=gA p;omega)) hp ht hpt hnt hu hl hmm) (gS _) (by rw[fJ,wH];rfl) (bT _)
theorem Z4{h:List AObj}{o:Int}:Vo.Fin h (.tup [.e0,.i .i64 o]) (.tup [avw [],.i .i64 o]):=.inr ⟨⟨rfl,rfl,trivial⟩,eM,fun i hi=>by cases hi⟩
theorem bQj{h:List AObj}{l:List LSub}{n:Nat}{o:Int}(hn:l.length=n):Vo.Fin h (.tup [.sl (l.map avu) n,.i .i64 o]) (.tup [avw l,.i .i64 o]):=.inl ⟨by rw[avw,hn],by simp[pers,persL,iW]⟩
theorem bFc{h:List AObj}{u:LSub}{o:Int}:Vo.Fin h (.tup [.sl (u.flatMap prT) u.length,.i .i64 o]) (.tup [avu u,.i .i64 o]):=.inl ⟨rfl,by simp[pers,persL,jG]⟩
theorem Z3{h:List AObj}{o:Int}:Vo.Fin h (.tup [.e0,.i .i64 o]) (.tup [avu [],.i .i64 o]):=.inr ⟨⟨rfl,rfl,trivial⟩,eM,fun i hi=>by cases hi⟩
end Go.Proofs.YtdjcggcjlphdoaaGreatDoor

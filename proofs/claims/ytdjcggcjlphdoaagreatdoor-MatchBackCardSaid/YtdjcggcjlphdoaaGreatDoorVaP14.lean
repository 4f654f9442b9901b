/-
  Functions of the chapter, as plain functions of what they are given; no condition.
-/
import Derived.Test.YtdjcggcjlphdoaaGreatDoorVaP13
import Derived.Test.YtdjcggcjlphdoaaGreatDoorVoP19
import Derived.Test.YtdjcggcjlphdoaaGreatDoorVaP11
import Derived.Test.YtdjcggcjlphdoaaGreatDoorSoP13
set_option maxRecDepth 100000
set_option linter.unusedSimpArgs false
set_option linter.unusedVariables false
set_option maxHeartbeats 4000000
namespace Go.Proofs.YtdjcggcjlphdoaaGreatDoor
open Go Go.Vo
open Nat (reduceAdd reduceSub reduceMul reduceLeDiff reduceLT reduceEqDiff)
open Int (reduceNeg)
theorem bJy{pre g:List AObj}{sz n:Nat}{out:AV}{cells:List AV}(ho:jI sz pre.length g out cells n)(hp:persL cells=true):Fin (pre++g) out (.sl cells n):=by
 rcases ho with⟨rfl,rfl,rfl⟩|⟨i,rfl,hi,hl⟩
 ·exact .inr ⟨rfl,by simp[dJ],by simp[dJ]⟩
 ·refine .inr ⟨?_,by simp[dJ],by simp[dJ]⟩;show AV.sl cells n=gZ dep (pre++g) (.hs (i+pre.length) 0 n false);have hg:(pre++g)[i+pre.length]? = some (.arr false sz cells):=by
   rw[aR (by omega)];simpa using hi
  have hd:(cells.drop 0).take (n*sz)=cells:=by rw[bG,bE (by omega)]
  simp only[gE,pers,rQ,hg,hd,hp,if_true,aE,if_false];rw[if_pos (by omega)]
@[simp] theorem bSj:nodesL []=0:=rfl
@[simp] theorem bVu:highL []=0:=rfl
theorem pE{l:List LTerm}{k:Nat}(h:k<l.length):nodesL (l.take (k+1))=nodesL (l.take k)+nodesT (l.getD k default):=by
 have:∀(a b:List LTerm),nodesL (a++b)=nodesL a+nodesL b:=by
  intro a b;induction a with
  |nil=>simp[nodesL]
  |cons x a ih=>rw[aH,nodesL,nodesL,ih];omega
 rw[fO (d:=default) h,this,nodesL,nodesL];omega
theorem kJ:∀{l:List LTerm} {k:Nat},nodesL (l.take k)≤nodesL l
 | [],k=>by simp
 |x::l,0=>by simp[nodesL]
 |x::l,k+1=>by rw[aL,nodesL,nodesL];have:=kJ (l:=l) (k:=k);omega
theorem nC{l:List LTerm}{k:LTerm}(h:k∈l):nodesT k≤nodesL l∧highT k≤highL l:=by
 induction l with
 |nil=>cases h
 |cons x l ih=>
  rw[nodesL,highL];rcases cH.1 h with rfl|h
  ·omega
  ·have:=ih h;omega
def cJo(l:List (List cBd)):Nat:=l.flatten.length
@[simp] theorem cBk:cJo []=0:=rfl
end Go.Proofs.YtdjcggcjlphdoaaGreatDoor

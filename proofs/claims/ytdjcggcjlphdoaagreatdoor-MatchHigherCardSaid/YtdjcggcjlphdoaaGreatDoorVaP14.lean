/-
  Functions of the chapter, as plain functions of what they are given; no condition.
-/
import Derived.Test.YtdjcggcjlphdoaaGreatDoorVaP13
import Derived.Test.YtdjcggcjlphdoaaGreatDoorVoP19
import Derived.Test.YtdjcggcjlphdoaaGreatDoorVaP11
import Derived.Test.YtdjcggcjlphdoaaGreatDoorSoP13
set_option maxRecDepth 100000
set_option linter.unusedSimpArgs false
set_option linter.unusedVariables false
set_option maxHeartbeats 4000000
namespace Go.Proofs.YtdjcggcjlphdoaaGreatDoor
open Go Go.Vo
open Nat (reduceAdd reduceSub reduceMul reduceLeDiff reduceLT reduceEqDiff)
open Int (reduceNeg)

theorem aOo {pre g:List AObj} {sz n:Nat} {out:AV} {cells:List AV} (ho:gW sz pre.length g out cells n) (hp:persL cells=true):Fin (pre++g) out (.sl cells n):=by
 rcases ho with ⟨rfl,rfl,rfl⟩ | ⟨i,rfl,hi,hl⟩
 · exact .inr ⟨rfl,by simp [cV],by simp [cV]⟩
 · refine .inr ⟨?_,by simp [cV],by simp [cV]⟩
   show AV.sl cells n=gG dep (pre++g) (.hs (i+pre.length) 0 n false)
   have hg:(pre++g)[i+pre.length]? = some (.arr false sz cells):=by
     rw [aR (by omega)]; simpa using hi
   have hd:(cells.drop 0).take (n * sz)=cells:=by rw [bC,bD (by omega)]
   simp only [fQ,pers,qH,hg,hd,hp,if_true,aG,if_false]
   rw [if_pos (by omega)]




@[simp] theorem bFr:nodesL []=0:=rfl
@[simp] theorem bIk:highL []=0:=rfl
theorem mZ {l:List LTerm} {k:Nat} (h:k < l.length):nodesL (l.take (k+1))=nodesL (l.take k)+nodesT (l.getD k default):=by
 have:∀ (a b:List LTerm),nodesL (a++b)=nodesL a+nodesL b:=by
   intro a b
   induction a with
   | nil=>simp [nodesL]
   | cons x a ih=>rw [aI,nodesL,nodesL,ih]; omega
 rw [eN (d:=default) h,this,nodesL,nodesL]; omega
theorem iL:∀ {l:List LTerm} {k:Nat},nodesL (l.take k)≤nodesL l
 | [],k=>by simp
 | x::l,0=>by simp [nodesL]
 | x::l,k+1=>by rw [aL,nodesL,nodesL]; have:=iL (l:=l) (k:=k); omega
theorem iX {l:List LTerm} {k:LTerm} (h:k ∈ l):nodesT k≤nodesL l∧highT k≤highL l:=by
 induction l with
 | nil=>cases h
 | cons x l ih=>
   rw [nodesL,highL]
   rcases dE.1 h with rfl | h
   · omega
   · have:=ih h; omega




def bUh (l:List (List bMv)):Nat:=l.flatten.length
@[simp] theorem bNc:bUh []=0:=rfl
end Go.Proofs.YtdjcggcjlphdoaaGreatDoor

/-
  What functions of the chapter return, as plain functions of what they are given; no condition beyond those that each theorem names.
-/
import Derived.Test.YtifefbhllfdmlaaGreatDoorVaP122
import Derived.Test.YtifefbhllfdmlaaGreatDoorVaP123
set_option maxRecDepth 100000
set_option linter.unusedSimpArgs false
set_option linter.unusedVariables false
set_option maxHeartbeats 4000000
namespace Go.Proofs.YtifefbhllfdmlaaGreatDoor
open Go Go.Vo
open Nat (reduceAdd reduceSub reduceMul reduceLeDiff reduceLT reduceEqDiff)
open Int (reduceNeg)

def lS:List Int→Str
 | []=>[]
 | i::l=>Lib.itoa i++46::lS l
def wA (x:LTest):Str:=if x.op=1 then 32::(Lib.itoa x.term.kind++32::gW x.term) else []
def keyS (a:LAsk):Str:=lS a.path++32::(Lib.itoa a.test.op++32::(a.test.text++32::(Lib.itoa a.test.n++wA a.test)))
structure GoodA (a:LAsk):Prop where
 text:a.test.text.all tokc=true
 one:a.test.op=1→(1≤a.test.term.kind∧a.test.term.kind≤4)∧nodeB a.test.term=true
 zero:a.test.op ≠ 1→a.test.term=zT
theorem aIo:∀ {x y u v:Str},(∀ c ∈ x,c ≠ 46)→(∀ c ∈ y,c ≠ 46)→x++46::u=y++46::v→x=y∧u=v
 | [],[],u,v,_,_,h=>⟨rfl,(eU h).2⟩
 | [],c::y,u,v,_,hy,h=>absurd (eU h).1.symm (hy c (by simp))
 | c::x,[],u,v,hx,_,h=>absurd (eU h).1 (hx c (by simp))
 | c::x,d::y,u,v,hx,hy,h=>by
   obtain ⟨h1,h2⟩:=eU h
   obtain ⟨h3,h4⟩:=aIo (x:=x) (y:=y) (fun e he=>hx e (by simp [he])) (fun e he=>hy e (by simp [he])) h2
   exact ⟨by rw [h1,h3],h4⟩
theorem aLe {n:Int}:∀ c ∈ Lib.itoa n,c ≠ 46:=fun c hc=>by
 have:=S1 hc
 rintro rfl
 revert this; decide
theorem oI {n:Int}:(Lib.itoa n).all tokc=true:=aV.2 fun c hc=>aXi (S1 hc)
theorem aBy:∀ {p q:List Int},lS p=lS q→p=q
 | [],[],_=>rfl
 | [],j::q,h=>by
   have:=congrArg List.length h
   simp [lS] at this
 | i::p,[],h=>by
   have:=congrArg List.length h
   simp [lS] at this
 | i::p,j::q,h=>by
   obtain ⟨h1,h2⟩:=aIo aLe aLe h
   rw [tG h1,aBy h2]
theorem H5:∀ p:List Int,(lS p).all tokc=true
 | []=>rfl
 | i::p=>by rw [lS,jZ,oI,hY,H5 p]; rfl
theorem tN {u:Str}:Ends (32::u):=aMc (by decide)
theorem D0 (x:LTest):Ends (wA x):=by
 rw [wA]
 split
 · exact tN
 · intro c v e; cases e
theorem N6 {a b:LTerm} (ha:nodeB a=true) (hb:nodeB b=true) (hk:a.kind=b.kind) (h1:1≤a.kind) (h4:a.kind≤4) (h:gW a=gW b):a=b:=by
 rw [nW,nW] at h
 rw [nodeB] at ha hb
 rw [LTerm.ext_iff]
 rcases (by omega:a.kind=1∨a.kind=2∨a.kind=3∨a.kind=4) with e | e | e | e
 · have e2:b.kind=1:=by omega
   simp only [e,e2,if_true,gS,aB,cL,decide_eq_true_eq,aH,false_or,true_or] at h ha hb
   have:=tG h
   simp_all
 · have e2:b.kind=2:=by omega
   simp only [e,e2,(by decide:¬ (2:Int)=1),if_false,if_true,gS,aB,cL,decide_eq_true_eq,aH,false_or,true_or] at h ha hb
   have hn:a.n=b.n:=by
     rcases ha.1 with x | x <;> rcases hb.1 with y | y <;> rw [x,y] at h ⊢
     · exact absurd h (by decide)
     · exact absurd h (by decide)
   simp_all
 · have e2:b.kind=3:=by omega
   simp only [e,e2,(by decide:¬ (3:Int)=1),(by decide:¬ (3:Int)=2),if_false,if_true,gS,aB,cL,decide_eq_true_eq,aH,false_or,true_or] at h ha hb
   have:=List.append_cancel_right (eU h).2
   simp_all
 · have e2:b.kind=4:=by omega
   simp only [e,e2,(by decide:¬ (4:Int)=1),(by decide:¬ (4:Int)=2),(by decide:¬ (4:Int)=3),if_false,if_true,gS,aB,cL,decide_eq_true_eq,aH,false_or,true_or] at h ha hb
   have:=(eU h).2
   simp_all
theorem aKz {a b:LAsk} (ha:GoodA a) (hb:GoodA b) (h:keyS a=keyS b):a=b:=by
 rw [keyS,keyS] at h
 obtain ⟨h1,h⟩:=nF (H5 _) (H5 _) tN tN h
 obtain ⟨h2,h⟩:=nF oI oI tN tN (eU h).2
 obtain ⟨h3,h⟩:=nF ha.text hb.text tN tN (eU h).2
 obtain ⟨h4,h⟩:=nF oI oI (D0 _) (D0 _) (eU h).2
 have e1:=aBy h1
 have e2:=tG h2
 have e4:=tG h4
 have e5:a.test.term=b.test.term:=by
   rw [wA,wA,← e2] at h
   by_cases q:a.test.op=1
   · rw [if_pos q,if_pos q] at h
     obtain ⟨h5,h⟩:=nF oI oI tN tN (eU h).2
     obtain ⟨⟨k1,k2⟩,k3⟩:=ha.one q
     exact N6 k3 (hb.one (by omega)).2 (tG h5) k1 k2 (eU h).2
   · rw [ha.zero q,hb.zero (by omega)]
 obtain ⟨p,te⟩:=a
 obtain ⟨p2,te2⟩:=b
 obtain ⟨o1,t1,x1,n1⟩:=te
 obtain ⟨o2,t2,x2,n2⟩:=te2
 simp only at e1 e2 h3 e4 e5
 rw [e1,e2,h3,e4,e5]
end Go.Proofs.YtifefbhllfdmlaaGreatDoor

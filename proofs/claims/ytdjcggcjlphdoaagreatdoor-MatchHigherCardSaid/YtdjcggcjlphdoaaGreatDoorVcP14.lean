/-
  Functions of the chapter, as plain functions of what they are given; no condition.
-/
import Derived.Test.YtdjcggcjlphdoaaGreatDoorVcP13
set_option maxRecDepth 100000
set_option linter.unusedSimpArgs false
set_option linter.unusedVariables false
set_option maxHeartbeats 4000000
namespace Go.Proofs.YtdjcggcjlphdoaaGreatDoor
open Go Go.Vo
open Nat (reduceAdd reduceSub reduceMul reduceLeDiff reduceLT reduceEqDiff)
open Int (reduceNeg)


section
variable {A:LTerm→LTerm→List LSub→Bool→MR} {s:eD} {key value:LTerm}
end
def F6 (key:LTerm) (u:LSub):Option LTerm:=if key.kind=6 then mOf u key.text else some key
theorem aHl {s:eD} {key:LTerm} {w:mC} {k:Nat} (h:F6 key w.u=none):lV s key w k=mP s key (w.left.getD (2 * k) default) w.u:=by
 rw [lV,show (if key.kind=6 then mOf w.u key.text else some key)=none from h]
theorem aHk {s:eD} {key a:LTerm} {w:mC} {k:Nat} (h:F6 key w.u=some a):lV s key w k=if a=w.left.getD (2 * k) default then [w.u] else []:=by
 rw [lV,show (if key.kind=6 then mOf w.u key.text else some key)=some a from h]
theorem bGc {P:Program} {G:Md} {c:AV} {a b:jX} {R:List AV→List AObj→Prop} {Q:Exit→List AV→List AObj→Prop} {env:List AV} {h:List AObj} (ps:List aXi) (hp:List AObj)
   (first:G3 P G c a b (vP (fun e' h'=>h'=hp∧gX ps env e') Q) env h) (rest:∀ j:Nat→AV,R (uK j 0 ps env) hp):G3 P G c a b (vP R Q) env h:=by
 have mono:∀ x e h',vP (fun e' h'=>h'=hp∧gX ps env e') Q x e h'→vP R Q x e h':=fun x e h' k=>by
   cases x
   case normal=>
     obtain ⟨rfl,hf⟩:=k
     have he:uK (fun n=>e.getD n .u) 0 ps env=e:=aNh _ env e 0 _ (fun m v hv=>by simp [List.getD,hv]) hf
     have r:=rest (fun n=>e.getD n .u)
     rw [he] at r
     exact r
   all_goals exact k
 unfold G3 qL at *
 cases c <;> first | exact ⟨fun e=>lR mono (first.1 e),fun e=>lR mono (first.2 e)⟩ | exact first
theorem eN {α:Type} {l:List α} {k:Nat} {d:α} (h:k < l.length):l.take (k+1)=l.take k++[l.getD k d]:=by
 rw [List.take_add_one,bW h,eM,bW h]; rfl
theorem aUg {s:eD} {p:LTerm} {w:mC}:(zX s p w).length≤1:=by
 rw [zX]
 split
 · exact yF
 · split <;> simp
end Go.Proofs.YtdjcggcjlphdoaaGreatDoor

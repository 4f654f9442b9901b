/-
  What functions of the chapter return, as plain functions of what they are given; no condition beyond those that each theorem names.
-/
import Derived.Test.YtpilgabbgflbhaaGreatDoorSoP3
import Derived.Sort.Walk0
set_option maxRecDepth 100000
set_option linter.unusedSimpArgs false
set_option linter.unusedVariables false
set_option maxHeartbeats 4000000
namespace Go.Proofs.YtpilgabbgflbhaaGreatDoor
open Go Go.Vo
open Nat (reduceAdd reduceSub reduceMul reduceLeDiff reduceLT reduceEqDiff)
open Int (reduceNeg)

theorem find_at {α : Type} {l : List α} {p : α → Bool} {k : Nat} {d : α} (hk : k < l.length) (h : p (l.getD k d) = true) (hb : ∀ j, j < k → (!p (l.getD j d)) = true) : l.find? p = some (l.getD k d) := by
 rw [List.find?_eq_some_iff_getElem]
 refine ⟨h, k, hk, by simp [List.getD, hk], fun j hj => ?_⟩
 have := hb j hj
 simpa [List.getD, show j < l.length by omega] using this
theorem find_no {α : Type} {l : List α} {p : α → Bool} {d : α} (hb : ∀ j, j < l.length → (!p (l.getD j d)) = true) : l.find? p = none := by
 rw [List.find?_eq_none]
 intro x hx
 obtain ⟨j, hj, rfl⟩ := List.mem_iff_getElem.1 hx
 have := hb j hj
 simpa [List.getD, hj] using this
theorem fin_zeroB {h : List AObj} {b : Bool} : Fin h (.tup [.agg [.s [], .e0, .s [], .e0, .i .i64 0, .i .i64 0, .e0], .b b]) (.tup [elO default, .b b]) :=
 .inr ⟨⟨⟨rfl, rfl, rfl, rfl, rfl, rfl, rfl, trivial⟩, rfl, trivial⟩, by simp [elO, opCells, finIds, finIdsL, avs, avb, avi], by simp [elO, opCells, finIds, finIdsL, avs, avb, avi]⟩
def namedR (r : Option LOp) : AV := match r with
 | some o => .tup [elO o, .b true]
 | none => .tup [elO default, .b false]
theorem ctr120 (l : List LOp) (x : Str) (hl : l.length ≤ 140737488355328): CT 133 [avo l, .s x] (namedR (l.find? fun o => decide (o.name = x))) := by
 refine sem_introA mixed Tryz.func133 g0 ?_
 · simp -implicitDefEqProofs (disch := omega) only [Tryz.f133, go_sem, List.replicate, simprocAttr, avo]
   refine x_loopG (fun (k : Nat) => [.k, .k, .k, .k, .k, .j, .k, .j, .k, .k, .v (.i .i64 k), .j, .j, .j, .j, .j, .j, .j, .j, .j, .k]) (fun k => [.box false [.s [], .e0, .s [], .e0, .i .i64 0, .i .i64 0, .e0]]) (fun k => k ≤ l.length ∧ ∀ j, j < k → (!decide ((l.getD j default).name = x)) = true) (fun k => l.length - k) (0) _ ⟨Nat.zero_le _, fun j h => by omega⟩ rfl (by simp [Fits]) ?_
   rintro k g j ⟨hk, ha⟩
   simp -implicitDefEqProofs (disch := omega) only [go_sem, simprocAttr]
   (repeat' (first | refine gT ?_ ?_ | refine gF ?_ ?_ | refine gC ?_ ?_ | refine And.intro (by omega) ?_ | (intro hr; have hc := hr; (try simp only [zda, zdb, zdc, zdd] at hc); simp -implicitDefEqProofs (disch := omega) only [hr, go_sem, simprocAttr]; (try clear hr))))
   · have e : (l.find? fun o => decide (o.name = x)) = some (l.getD k default) := find_at (by omega) (zt hc) ha
     rw [e]
     exact fin_eq rfl (by simp only [namedR, elO, pers, persL, persL_ops, opCells, avs, avb, avi, persL_s, persL_i, persL_pair, Bool.and_self])
   · exact ⟨k + 1, _, ⟨by omega, below_succ ha (by rw [zf hc]; rfl)⟩, by omega, rfl, by simp⟩
   · have e : (l.find? fun o => decide (o.name = x)) = none := find_no (d := default) (fun j hj => ha j (by omega))
     rw [e]
     exact fin_zeroB
end Go.Proofs.YtpilgabbgflbhaaGreatDoor

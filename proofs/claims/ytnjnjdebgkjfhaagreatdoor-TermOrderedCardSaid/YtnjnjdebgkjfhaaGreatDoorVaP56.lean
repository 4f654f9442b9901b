/-
  What functions of the chapter return, as plain functions of what they are given; no condition beyond those that each theorem names.
-/
import Derived.Test.YtnjnjdebgkjfhaaGreatDoorVaP55
import Derived.Test.YtnjnjdebgkjfhaaGreatDoorTeP57
import Derived.Test.YtnjnjdebgkjfhaaGreatDoorTeP54
import Derived.Test.YtnjnjdebgkjfhaaGreatDoorVoP58
set_option maxRecDepth 100000
set_option linter.unusedSimpArgs false
set_option linter.unusedVariables false
set_option maxHeartbeats 4000000
namespace Go.Proofs.YtnjnjdebgkjfhaaGreatDoor
open Go Go.Vo
open Nat (reduceAdd reduceSub reduceMul reduceLeDiff reduceLT reduceEqDiff)
open Int (reduceNeg)

mutual
def okB : LTerm → Bool
 | .mk k n x y l r => (decide (x.length ≤ 140737488355328) && decide (y.length ≤ 140737488355328) && decide (-9223372036854775808 ≤ n) && decide (n ≤ 9223372036854775807) && decide (l.length ≤ 1466015503701) && decide (r.length ≤ 1466015503701)) && (okBL l && okBL r)
def okBL : List LTerm → Bool
 | [] => true
 | t :: l => okB t && okBL l
end
theorem okBL_mem : ∀ {l : List LTerm}, okBL l = true → ∀ t ∈ l, okB t = true
 | t :: l, h, u, hu => by
   rw [okBL, Bool.and_eq_true] at h
   rcases List.mem_cons.1 hu with rfl | hu
   · exact h.1
   · exact okBL_mem h.2 u hu
theorem okT_of : ∀ t : LTerm, okB t = true → OkT t :=
 term_ind (Q := fun t => okB t = true → OkT t) fun t hk hr h => by
   obtain ⟨k, n, x, y, l, r⟩ := t
   rw [okB] at h
   simp only [Bool.and_eq_true, decide_eq_true_eq] at h
   obtain ⟨⟨⟨⟨⟨⟨h1, h2⟩, h3⟩, h4⟩, h5⟩, h6⟩, h7, h8⟩ := h
   exact .mk h1 h2 h3 h4 h5 h6 (fun u hu => hk u hu (okBL_mem h7 u hu)) (fun u hu => hr u hu (okBL_mem h8 u hu))
abbrev wExp : Str := [69, 120, 112]
abbrev wPlus : Str := [112, 108, 117, 115]
abbrev sumS : LSig := ⟨[wExp], [([73, 110, 116], wExp)], [⟨wPlus, [wExp, wExp], wExp, [], 0, 0, []⟩], [], [[73, 110, 116]]⟩
abbrev appT (x : Str) (l : List LTerm) : LTerm := .mk 5 0 x [] l []
abbrev aX : LTerm := .mk 6 0 [88] [73, 110, 116] [] []
abbrev aR : LTerm := .mk 6 0 [76] [76, 105, 115, 116] [] []
abbrev aL : LTerm := .mk 7 0 [] [] [tInt (-1)] [aR]
abbrev aS : LTerm := appT wPlus [aX, aL]
abbrev a12 : LTerm := appT wPlus [tInt 1, tInt 2]
abbrev aW : LTerm := appT wPlus [tInt 4, aL]
abbrev aN : LTerm := appT [110, 111, 112, 101] []
theorem sum_hm : Small sumS := ⟨by decide, by decide, by decide, by decide, by decide⟩
theorem sum_o : OkO ⟨wPlus, [wExp, wExp], wExp, [], 0, 0, []⟩ := ⟨by decide, by decide, by decide, by decide, by decide, by decide, by decide, by decide, by decide, by decide⟩
theorem sum_hs : OkS sumS := ⟨by decide, by decide, by decide, by decide, by decide, (fun x hx => by
 rw [List.mem_singleton] at hx; subst hx; exact sum_o), by decide, (fun x hx => by cases hx), by decide, by decide, by decide, by decide⟩
def knownT : List (FuncId × List AV × AV) := [
 (36, [elT aS], sortAV ([112, 108, 117, 115, 40, 88, 58, 73, 110, 116, 44, 32, 91, 45, 49, 32, 124, 32, 76, 93, 41], 0)),
 (16, [elT (tInt 1)], .b true),
 (16, [elT (tInt 2)], .b true),
 (16, [elT (tInt 4)], .b true),
 (16, [elT aW], .b true),
 (16, [elT aS], .b true),
 (131, [.sl [avt [], avt []] 2], avt []),
 (131, [.sl [avt [tInt (-1)], avt [aR]] 2], avt [tInt (-1), aR]),
 (131, [.sl [avt [aX, aL], avt []] 2], avt [aX, aL]),
 (22, [.agg (sigCells sumS), elT a12], sortAV (wExp, 0)),
 (22, [.agg (sigCells sumS), elT aN], sortAV ([], 13)),
 (24, [.agg (sigCells sumS), elT (tInt 3)], valueAV (true, 0)),
 (18, [.agg (sigCells sumS), elT aS], .b false),
 (20, [.agg (sigCells sumS), elT a12], .b true)]
theorem okv {t : LTerm} (h : okB t = true) (h2 : validT nodeB t = true) : CT 16 [elT t] (.b true) := h2 ▸ ctr242 t (okT_of t h)
theorem knownT_ok : LibOk Tryz.prog G0 (tabL knownT) := tabL_ok fun e he => by
 simp only [knownT, List.mem_cons, List.not_mem_nil, or_false] at he
 rcases he with rfl | rfl | rfl | rfl | rfl | rfl | rfl | rfl | rfl | rfl | rfl | rfl | rfl | rfl
 · exact (show textV aS = ([112, 108, 117, 115, 40, 88, 58, 73, 110, 116, 44, 32, 91, 45, 49, 32, 124, 32, 76, 93, 41], 0) by decide +kernel) ▸ ctr344 aS (okT_of _ (by decide +kernel))
 · exact okv (by decide +kernel) (by decide +kernel)
 · exact okv (by decide +kernel) (by decide +kernel)
 · exact okv (by decide +kernel) (by decide +kernel)
 · exact okv (by decide +kernel) (by decide +kernel)
 · exact okv (by decide +kernel) (by decide +kernel)
 · exact ctr268 [[], []] (by decide) (by decide +kernel)
 · exact ctr268 [[tInt (-1)], [aR]] (by decide) (by decide +kernel)
 · exact ctr268 [[aX, aL], []] (by decide) (by decide +kernel)
 · exact (show sortV sumS a12 = (wExp, 0) by decide +kernel) ▸ ctr332 sumS a12 sum_hm sum_hs (okT_of _ (by decide +kernel))
 · exact (show sortV sumS aN = ([], 13) by decide +kernel) ▸ ctr332 sumS aN sum_hm sum_hs (okT_of _ (by decide +kernel))
 · exact (show valueV sumS (tInt 3) = (true, 0) by decide +kernel) ▸ ctr334 sumS (tInt 3) sum_hm sum_hs (okT_of _ (by decide +kernel))
 · exact (show fitsV sumS aS = false by decide +kernel) ▸ ctr329 sumS aS sum_hm sum_hs (okT_of _ (by decide +kernel))
 · exact (show (validB sumS && plainV sumS a12) = true by decide +kernel) ▸ ctr331 sumS a12 sum_hm sum_hs (okT_of _ (by decide +kernel))
def howT : FuncId → How := fun f => {heap := [69, 70, 132, 68, 133, 193, 214, 134].contains f}
theorem runsT_ok : [68, 141, 145, 143, 45, 144, 76, 83, 70, 69, 50, 191, 132, 82, 81, 49, 80, 78, 75, 28, 190, 189, 126, 85, 84, 71, 66, 64, 43, 41, 39, 34, 32, 30, 26, 224, 220, 214, 194, 193, 15, 147, 146, 142, 134, 133, 125, 124, 123].all (fun f => fOkB Tryz.prog (howT f).rx (howT f).th f) = true := by kernel_rfl
theorem ctr328 : CT 15 [] (.b true) := run_ctr mixed g0 knownT_ok howT (oks_of runsT_ok) 100 (by kernel_rfl)

end Go.Proofs.YtnjnjdebgkjfhaaGreatDoor

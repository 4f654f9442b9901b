/-
  What functions of the chapter return, as plain functions of what they are given; no condition beyond those that each theorem names.
-/
import Derived.Test.YtpilgabbgflbhaaGreatDoorTeP6
import Derived.Test.YtpilgabbgflbhaaGreatDoorVoP6
set_option maxRecDepth 100000
set_option linter.unusedSimpArgs false
set_option linter.unusedVariables false
set_option maxHeartbeats 4000000
namespace Go.Proofs.YtpilgabbgflbhaaGreatDoor
open Go Go.Vo
open Nat (reduceAdd reduceSub reduceMul reduceLeDiff reduceLT reduceEqDiff)
open Int (reduceNeg)

def known : List (FuncId × List AV × AV) := [
 (12, [.agg (sigCells eS), .s ndiv, avt [tInt (-7), tInt 2]], resV (tInt (-4), 0)),
 (12, [.agg (sigCells eS), .s nmod, avt [tInt (-7), tInt 2]], resV (tInt 1, 0)),
 (12, [.agg (sigCells eS), .s nput, avt [mA, tId [98], tInt 2]], resV (.mk 8 0 [] [] [tId [97], tInt 1, tId [98], tInt 2] [], 0)),
 (12, [.agg (sigCells eS), .s ndiv, avt [tInt 1, tInt 0]], resV (tZ, 21)),
 (12, [.agg (sigCells eS), .s nget, avt [mA, tId [122]]], resV (tZ, 4)),
 (12, [.agg (sigCells eS), .s nadd, avt [tInt 1]], resV (tZ, 15)),
 (12, [.agg (sigCells eS), .s nadd, avt [tInt 1, mA]], resV (tZ, 16)),
 (15, [.s npick], .tup [avs [boolS, anyS, anyS], .i .i64 0]),
 (17, [.s nkeys], .tup [.s listS, .i .i64 0]),
 (15, [.s [112, 108, 117, 115]], .tup [avs [], .i .i64 4]),
 (21, [.s nisvalue], .b true),
 (19, [], .own 1 (builtIns.map .s) builtIns.length),
 (20, [], .own 1 (builtIns.map .s) builtIns.length)]
theorem known_ok : LibOk Tryz.prog G0 (tabL known) := tabL_ok fun e he => by
 simp only [known, List.mem_cons, List.not_mem_nil, or_false] at he
 rcases he with rfl | rfl | rfl | rfl | rfl | rfl | rfl | rfl | rfl | rfl | rfl | rfl | rfl
 all_goals dsimp only
 all_goals first | exact q1 | exact q2 | exact q3 | exact q4 | exact q5 | exact q6 | exact q7 | exact q8 | exact q9 | exact q10 | exact q11 | exact ctr216 | exact ctr217
def how : FuncId → How := fun f => {}
theorem runs_ok : [11, 24, 32].all (fun f => fOkB Tryz.prog (how f).rx f) = true := by kernel_rfl
theorem ctr208 : CT 11 [] (.b true) := run_ctr mixed g0 known_ok how (oks_of runs_ok) 60 (by kernel_rfl)

end Go.Proofs.YtpilgabbgflbhaaGreatDoor

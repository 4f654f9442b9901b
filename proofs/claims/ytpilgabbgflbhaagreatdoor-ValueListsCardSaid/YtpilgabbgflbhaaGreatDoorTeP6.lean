/-
  What functions of the chapter return, as plain functions of what they are given; no condition beyond those that each theorem names.
-/
import Derived.Test.YtpilgabbgflbhaaGreatDoorTeP5
import Derived.Test.YtpilgabbgflbhaaGreatDoorVoP6
set_option maxRecDepth 100000
set_option linter.unusedSimpArgs false
set_option linter.unusedVariables false
set_option maxHeartbeats 4000000
namespace Go.Proofs.YtpilgabbgflbhaaGreatDoor
open Go Go.Vo
open Nat (reduceAdd reduceSub reduceMul reduceLeDiff reduceLT reduceEqDiff)
open Int (reduceNeg)

def known : List (FuncId × List AV × AV) := [
 (12, [.agg (sigCells eS), .s ndiv, avt [tInt (-7), tInt 2]], resV (tInt (-4), 0)),
 (12, [.agg (sigCells eS), .s nmod, avt [tInt (-7), tInt 2]], resV (tInt 1, 0)),
 (12, [.agg (sigCells eS), .s nput, avt [mA, tId [98], tInt 2]], resV (.mk 8 0 [] [] [tId [97], tInt 1, tId [98], tInt 2] [], 0)),
 (12, [.agg (sigCells eS), .s ndiv, avt [tInt 1, tInt 0]], resV (tZ, 21)),
 (12, [.agg (sigCells eS), .s nget, avt [mA, tId [122]]], resV (tZ, 4)),
 (12, [.agg (sigCells eS), .s nadd, avt [tInt 1]], resV (tZ, 15)),
 (12, [.agg (sigCells eS), .s nadd, avt [tInt 1, mA]], resV (tZ, 16)),
 (15, [.s npick], .tup [avs [boolS, anyS, anyS], .i .i64 0]),
 (17, [.s nkeys], .tup [.s listS, .i .i64 0]),
 (15, [.s [112, 108, 117, 115]], .tup [avs [], .i .i64 4]),
 (21, [.s nisvalue], .b true),
 (19, [], .own 1 (builtIns.map .s) builtIns.length),
 (20, [], .own 1 (builtIns.map .s) builtIns.length)]
theorem known_ok : LibOk Tryz.prog G0 (tabL known) := tabL_ok fun e he => by
 simp only [known, List.mem_cons, List.not_mem_nil, or_false] at he
 rcases he with rfl | rfl | rfl | rfl | rfl | rfl | rfl | rfl | rfl | rfl | rfl | rfl | rfl
 all_goals dsimp only
 all_goals first | exact q1 | exact q2 | exact q3 | exact q4 | exact q5 | exact q6 | exact q7 | exact q8 | exact q9 | exact q10 | exact q11 | exact ctr216 | exact ctr217
def how : FuncId → How := fun f => {}
theorem runs_ok : [11, 24, 32].all (fun f => fOkB Tryz.prog (how f).rx f) = true := by kernel_rfl
theorem ctr208 : CT 11 [] (.b true) := run_ctr mixed g0 known_ok how (oks_of runs_ok) 60 (by kernel_rfl)

theorem out_rd1 {a : AObj} {g : List AObj} {out : AV} {l : List LTerm} {n : Nat} (h : OutIs 6 1 g out (l.flatMap termCells) n) (hn : n = l.length) : Rd6 (a :: g) out l := by
 subst hn
 rcases h with ⟨rfl, hn, h0⟩ | ⟨i, rfl, hi, hl⟩
 · exact .inl ⟨rfl, List.length_eq_zero_iff.1 (by omega)⟩
 · refine .inr (.inr ⟨i + 1, 0, _, _, _, rfl, (by simpa using hi), by omega, ?_⟩)
   rw [List.drop_zero, List.take_of_length_le (by omega)]
theorem after_1 {a : AObj} {g : List AObj} {out r : AV} {l : List LTerm} {n : Nat} {x : Str} (h : OutIs 6 1 g out (l.flatMap termCells) n) (hn : n = l.length) : ∃ g', hAfter r (a :: g) [.agg [.e0, .e0, .e0, .e0, .e0], .s x, out] = a :: g' := by
 rcases bool_em (Vo.flat r) with hf | hf
 · rw [hA_y hf]; exact ⟨_, rfl⟩
 rw [hA_n hf]
 have e : reach dep (a :: g) out = idsOf out := reach_rd (k := 8) (out_rd1 h hn)
 have e2 : [AV.agg [.e0, .e0, .e0, .e0, .e0], .s x, out].flatMap (reach dep (a :: g)) = idsOf out := by
   rw [List.flatMap_cons, List.flatMap_cons, List.flatMap_cons, e]
   simp [reach, dep, pers, persL]
 rw [e2]
 rcases h with ⟨rfl, _, _⟩ | ⟨i, rfl, _, _⟩
 · exact ⟨_, rfl⟩
 · exact ⟨g.modify i AObj.fz, by simp [idsOf, Vo.freeze]⟩
def trV (p : Res) : AV := .tup [.b (decide (p.1.n = 1)), .b (decide (p.2 = 0) && decide (p.1.kind = 2))]
theorem ctr222 (s : LSig) (x : Str) (l : List LTerm) (p : Res) (c : CT 12 [.agg (sigCells s), .s x, avt l] (resV p)): CT 25 [.agg (sigCells s), .s x, avt l] (trV p) := by
 refine sem_introA mixed Tryz.func25 g0 ?_
 · simp -implicitDefEqProofs (disch := omega) only [Tryz.f25, go_sem, List.replicate, ↓reduceIte, reduceAdd, reduceSub, reduceMul, reduceLeDiff, reduceLT, reduceEqDiff, reduceNeg, Nat.reduceBEq, avt]
   (repeat' (first | refine gT ?_ ?_ | refine gF ?_ ?_ | refine gC ?_ ?_ | ((refine c_ctrE (c) ?_ ?_; (focus (simp -implicitDefEqProofs (disch := omega) only [avs, avb, avi, avo, sigCells, opCells, pairCells, elT, avt, termCells_eq, go_sem, ↓reduceIte, reduceAdd, reduceSub, reduceMul, reduceLeDiff, reduceLT, reduceEqDiff, reduceNeg, Nat.reduceBEq]; done))); simp -implicitDefEqProofs (disch := omega) only [go_sem, ↓reduceIte, reduceAdd, reduceSub, reduceMul, reduceLeDiff, reduceLT, reduceEqDiff, reduceNeg, Nat.reduceBEq]) | refine And.intro (by omega) ?_ | (intro hr; have hc := hr; (try simp only [zda, zdb, zdc, zdd] at hc); simp -implicitDefEqProofs (disch := omega) only [hr, go_sem, ↓reduceIte, reduceAdd, reduceSub, reduceMul, reduceLeDiff, reduceLT, reduceEqDiff, reduceNeg, Nat.reduceBEq]; (try clear hr))))
   all_goals refine fin_eq ?_ rfl
   all_goals simp_all [trV]
theorem ctr220 (x : Str) (l : List Int) (p : Res) (hl : l.length ≤ 1000) (c : CT 12 [.agg (sigCells eS), .s x, avt (l.map fun n => tInt n)] (resV p)): CT 23 [.s x, avi l] (resV p) := by
 refine sem_introA mixed Tryz.func23 g0 ?_
 · generalize hR : ((resV p) : AV) = R
   simp -implicitDefEqProofs (disch := omega) only [Tryz.f23, go_sem, List.replicate, ↓reduceIte, reduceAdd, reduceSub, reduceMul, reduceLeDiff, reduceLT, reduceEqDiff, reduceNeg, Nat.reduceBEq, avi]
   refine x_loopJ (fun (s : Nat × AV × List AObj) => [.k, .k, .k, .k, .k, .k, .v (s.2.1), .k, .j, .k, .k, .v (.i .i64 (s.1 : Nat)), .j, .j, .j, .j, .j, .j, .j, .j, .j, .k, .k, .k, .k, .k, .k]) (fun s => .box false [.i .i64 0, .i .i64 0, .s [], .s [], .e0, .e0] :: s.2.2) (fun s => s.1 ≤ l.length ∧ OutIs 6 1 s.2.2 s.2.1 (((l.take s.1).map fun n => tInt n).flatMap termCells) s.1) (fun s => l.length - s.1) ((0, .e0, [])) ⟨Nat.zero_le _, outIs_e0⟩ rfl (by simp [Fits]) ?_
   rintro ⟨k, out, g⟩ j ⟨hk, ho⟩
   dsimp only at hk ho
   simp -implicitDefEqProofs (disch := omega) only [go_sem, ↓reduceIte, reduceAdd, reduceSub, reduceMul, reduceLeDiff, reduceLT, reduceEqDiff, reduceNeg, Nat.reduceBEq]
   (repeat' (first | refine gT ?_ ?_ | refine gF ?_ ?_ | refine gC ?_ ?_ | ((refine c_ctrE (ctr221 (l.getD k 0)) ?_ ?_; (focus (simp -implicitDefEqProofs (disch := omega) only [rep1t, avs, avb, avi, avo, sigCells, opCells, pairCells, elT, avt, termCells_eq, go_sem, ↓reduceIte, reduceAdd, reduceSub, reduceMul, reduceLeDiff, reduceLT, reduceEqDiff, reduceNeg, Nat.reduceBEq]; done))); simp -implicitDefEqProofs (disch := omega) only [rep1t, go_sem, ↓reduceIte, reduceAdd, reduceSub, reduceMul, reduceLeDiff, reduceLT, reduceEqDiff, reduceNeg, Nat.reduceBEq]) | refine And.intro (by omega) ?_ | (intro hr; have hc := hr; (try simp only [zda, zdb, zdc, zdd] at hc); simp -implicitDefEqProofs (disch := omega) only [hr, rep1t, go_sem, ↓reduceIte, reduceAdd, reduceSub, reduceMul, reduceLeDiff, reduceLT, reduceEqDiff, reduceNeg, Nat.reduceBEq]; (try clear hr))))
   · refine app_intro' (pre := [_]) (news := [.i .i64 (tInt (l.getD k 0)).kind, .i .i64 (tInt (l.getD k 0)).n, .s (tInt (l.getD k 0)).text, .s (tInt (l.getD k 0)).sort, .sl ((tInt (l.getD k 0)).kids.flatMap termCells) (tInt (l.getD k 0)).kids.length, .sl ((tInt (l.getD k 0)).rest.flatMap termCells) (tInt (l.getD k 0)).rest.length]) (m := 1) ho rfl rfl el27 zo32 sz32 by32 rfl (by decide) (by simp -implicitDefEqProofs (disch := omega) only [go_sem, ↓reduceIte, reduceAdd, reduceSub, reduceMul, reduceLeDiff, reduceLT, reduceEqDiff, reduceNeg, Nat.reduceBEq]) (by simp -implicitDefEqProofs (disch := omega) only [go_sem, ↓reduceIte, reduceAdd, reduceSub, reduceMul, reduceLeDiff, reduceLT, reduceEqDiff, reduceNeg, Nat.reduceBEq]) ⟨by omega, by omega⟩ ?_
     intro out' g' ho' _
     simp -implicitDefEqProofs (disch := omega) only [go_sem, ↓reduceIte, reduceAdd, reduceSub, reduceMul, reduceLeDiff, reduceLT, reduceEqDiff, reduceNeg, Nat.reduceBEq]
     refine ⟨(k + 1, out', g'), ⟨by dsimp only; omega, ?_⟩, by dsimp only; omega, rfl, by simp⟩
     dsimp only
     rw [take_getD (d := 0) (by omega), List.map_append, List.flatMap_append]
     simp only [List.map_cons, List.map_nil, List.flatMap_cons, List.flatMap_nil, List.append_nil, termCells_eq]
     exact ho'
   · have h1 : k = l.length := by omega
     subst h1
     rw [List.take_length] at ho
     have r := out_rd1 (a := .box false [.i .i64 0, .i .i64 0, .s [], .s [], .e0, .e0]) ho (by simp)
     refine c_ctrE c ?_ ?_
     · simp only [List.map_cons, List.map_nil, ← rd6_snap r]; rfl
     · obtain ⟨g', hg'⟩ := after_1 (a := .box false [.i .i64 0, .i .i64 0, .s [], .s [], .e0, .e0]) (r := resV p) (x := x) ho (by simp)
       rw [hg']
       simp -implicitDefEqProofs (disch := omega) only [go_sem, ↓reduceIte, reduceAdd, reduceSub, reduceMul, reduceLeDiff, reduceLT, reduceEqDiff, reduceNeg, Nat.reduceBEq]
       subst hR
       exact fin_resP rfl
end Go.Proofs.YtpilgabbgflbhaaGreatDoor

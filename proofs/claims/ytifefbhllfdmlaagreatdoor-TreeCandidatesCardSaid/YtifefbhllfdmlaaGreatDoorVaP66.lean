/-
  What functions of the chapter return, as plain functions of what they are given; no condition beyond those that each theorem names.
-/
import Derived.Test.YtifefbhllfdmlaaGreatDoorVaP65
import Derived.Test.YtifefbhllfdmlaaGreatDoorSoP63
import Derived.Test.YtifefbhllfdmlaaGreatDoorSoP62
import Derived.Test.YtifefbhllfdmlaaGreatDoorVoP70
import Derived.Test.YtifefbhllfdmlaaGreatDoorTeP63
import Derived.Test.YtifefbhllfdmlaaGreatDoorTeP64
import Derived.Test.YtifefbhllfdmlaaGreatDoorVaP64
import Derived.Test.YtifefbhllfdmlaaGreatDoorVoP69
import Derived.Test.YtifefbhllfdmlaaGreatDoorVaP63
set_option maxRecDepth 100000
set_option linter.unusedSimpArgs false
set_option linter.unusedVariables false
set_option maxHeartbeats 4000000
namespace Go.Proofs.YtifefbhllfdmlaaGreatDoor
open Go Go.Vo Go.Shelf Go.RowKit
open Nat (reduceAdd reduceSub reduceMul reduceLeDiff reduceLT reduceEqDiff)
open Int (reduceNeg)

abbrev TW : TypeId := 235
abbrev TB : TypeId := 5
set_option maxHeartbeats 1000000 in
theorem bNq (b : Nat) (p v : Value) (w : World) (hb : w.heap[b]? = some (.cells #[p, v] TW (0, 0))) (hp : p = .pointer none ∨ p = selfP b) :
   Calls Tryz.prog 266 #[selfP b] w fun e w' => e = .returned (.tuple #[]) ∧ w'.heap[b]? = some (.cells #[selfP b, v] TW (0, 0)) ∧ w.grownBy w' (some b) ∧ w'.heap.size = w.heap.size ∧ Shp w w' := by
 have h0 : w.cell? ⟨b, 0, none⟩ = some p := by rw [Lib.cell_of_heap hb]; rfl
 have hsz : (Tryz.prog.info? 233).map (·.size) = some 2 := by kernel_rfl
 obtain ⟨j, hj, hjs⟩ := bE.1 hsz
 have mixed := mixed
 have t72 := Tryz.underlying233; have a72 := Tryz.isAgg233; have z72 := Tryz.sizeOf233; have v72 := Tryz.zeroValue233; have u72 := run_underlying t72
 have t70 := Tryz.underlying230; have a70 := Tryz.isAgg230; have z70 := Tryz.sizeOf230; have v70 := Tryz.zeroValue230; have u70 := run_underlying t70
 have t4 := Tryz.underlying4; have a4 := Tryz.isAgg4; have z4 := Tryz.sizeOf4; have v4 := Tryz.zeroValue4; have u4 := run_underlying t4
 have t164 := Tryz.underlying300; have a164 := Tryz.isAgg300; have z164 := Tryz.sizeOf300; have v164 := Tryz.zeroValue300; have u164 := run_underlying t164
 unfold selfP at *
 rcases hp with rfl | rfl
 · have hsh : w.shape? b = some (TW, 2) := by simp [World.shape?, hb]
   have hfz : w.frozen? ⟨b, 0, none⟩ = false := Lib.frozen_of_heap hb 0
   have hl : liesAt Tryz.prog Tryz.prog.depth TW (2 / Tryz.prog.cellsOf TW) 0 233 1 = true := by kernel_rfl
   have main : Calls Tryz.prog 266 #[.pointer (some ⟨b, 0, none⟩)] w fun e w' => e = .returned (.tuple #[]) ∧ w' = w.setCell ⟨b, 0, none⟩ (.pointer (some ⟨b, 0, none⟩)) := by
     go_enter Tryz.func266, Tryz.ntmps266
     go_wp2
     rw [Lib.run_to_unsafe w ⟨b, 0, none⟩ t70 t164 hj (by rw [hjs]; decide) hsh (Nat.zero_lt_succ 1)]
     simp only [Result.andThen]
     rw [Oper.upon_value]
     go_wp2
     rw [run_callFunc_extern Tryz.func276 (by kernel_rfl) (by kernel_rfl) (by kernel_rfl) (e := Extern.AbiNoEscape.same) (by kernel_rfl)]
     rw [Lib.run_noEscape]
     simp only [Result.andThen]
     rw [Oper.upon_value]
     go_wp2
     rw [Lib.run_from_unsafe w ⟨b, 0, none⟩ t164 t70 hj hsh hl]
     simp only [Result.andThen]
     rw [Oper.upon_value]
     go_wp2
     go_end0
     exact ⟨rfl, rfl⟩
   refine main.mono ?_
   rintro e w' ⟨rfl, rfl⟩
   refine ⟨rfl, ?_, ⟨rfl, rfl, rfl, by simp [World.setCell], fun k hk hne => ?_⟩, by simp [World.setCell], xH _ _ _⟩
   · simp [World.setCell, iM, hb]
   · exact Below.heap_setCell _ _ _ _ (fun e => hne (by simp [e]))
 · have main : Calls Tryz.prog 266 #[.pointer (some ⟨b, 0, none⟩)] w fun e w' => e = .returned (.tuple #[]) ∧ w' = w := by
     go_enter Tryz.func266, Tryz.ntmps266
     go_wp2
     rw [Lib.run_neq_ptr_same w _ t70 hj]
     go_wp2
     go_end0
     exact ⟨rfl, rfl⟩
   refine main.mono ?_
   rintro e w' ⟨rfl, rfl⟩
   exact ⟨rfl, hb, ⟨rfl, rfl, rfl, aZ _, fun _ _ _ => rfl⟩, rfl, Shp.refl _⟩
def bOg : Ren := ⟨fun | 166 => 245 | 240 => 266 | 169 => 220 | n => n, fun | 72 => 233 | 70 => 230 | 37 => 231 | 127 => 264 | 164 => 300 | 75 => 259 | n => n, fun n => n⟩
theorem bQd : bOe Tryz.prog bOg TW := {
 mixed := mixed
 f166 := Tryz.func245.trans (congrArg some (by kernel_rfl))
 e240 := enters_of Tryz.func266 (by kernel_rfl) rfl
 copy := bNq
 t3 := Tryz.underlying3
 a3 := Tryz.isAgg3
 z3 := Tryz.sizeOf3
 v3 := Tryz.zeroValue3
 t4 := Tryz.underlying4
 a4 := Tryz.isAgg4
 z4 := Tryz.sizeOf4
 v4 := Tryz.zeroValue4
 t9 := Tryz.underlying9
 a9 := Tryz.isAgg9
 z9 := Tryz.sizeOf9
 v9 := Tryz.zeroValue9
 t37 := Tryz.underlying231
 a37 := Tryz.isAgg231
 z37 := Tryz.sizeOf231
 v37 := Tryz.zeroValue231
 t70 := Tryz.underlying230
 a70 := Tryz.isAgg230
 z70 := Tryz.sizeOf230
 v70 := Tryz.zeroValue230
 t72 := Tryz.underlying233
 a72 := Tryz.isAgg233
 z72 := Tryz.sizeOf233
 v72 := Tryz.zeroValue233 }
theorem bJl : Builder.Extra Tryz.prog bOg := {
 sizeBuilder := by kernel_rfl
 liesBuilder := by kernel_rfl
 t5 := Tryz.underlying5
 a5 := Tryz.isAgg5
 z5 := Tryz.sizeOf5
 v5 := Tryz.zeroValue5
 infoByte := by kernel_rfl
 cellsByte := by kernel_rfl
 sizeByte := by kernel_rfl
 neB5 := by decide }
abbrev WrP (f : FuncId) (A : List AV) (r : AV) (acc acc' : Str) : Prop := Wr Tryz.prog G0 TW TB f A r acc acc'
theorem wrS {acc s : Str} (h : acc.length + s.length ≤ 140737488355328) : WrP 245 [.ptr 0 0, .s s] (.tup [.i .i64 s.length, .p .nilIface]) acc (acc ++ s) := fun v =>
 (U8 bQd bJl (by decide) (by kernel_rfl) h).mono fun r h' ⟨h1, v', h2⟩ => ⟨h1, v', [], h2⟩
theorem bQw {acc : Str} {v : Value} : ACalls Tryz.prog G0 220 [.ptr 0 0] [pM TW v, rV TB v acc] (fun r h' => r = .s acc ∧ h' = [.dead, .dead]) :=
 J7 (T := TW) (ρ := Tryz.lays169_ren) Tryz.lays169 Tryz.Builder_Extra_169 (by decide) (by kernel_rfl)
end Go.Proofs.YtifefbhllfdmlaaGreatDoor
namespace Go.Proofs.YtifefbhllfdmlaaGreatDoor
open Go Go.Vo
open Nat (reduceAdd reduceSub reduceMul reduceLeDiff reduceLT reduceEqDiff)
open Int (reduceNeg)

abbrev WrK (l' : Str) : AV → List AObj → Prop := fun r h' => r = .tup [] ∧ ∃ v' tl, h' = pM TW v' :: rV TB v' l' :: tl
theorem bCt {v : Value} {l l' : Str} {tl : List AObj} (e : l = l') : WrK l' (.tup []) (pM TW v :: rV TB v l :: tl) := ⟨rfl, v, tl, by rw [e]⟩
abbrev WrT (t : LTerm) : Prop := ∀ acc : Str, acc.length + (kT t).length ≤ 140737488355328 → WrP 219 [.ptr 0 0, elT t] (.tup []) acc (acc ++ kT t)
theorem aXa (t : LTerm) (acc : Str) (v : Value) (ht : OkT t) (hk : t.kind = 1) (hn : lV t.n = true) (hf : acc.length + (kT t).length ≤ 140737488355328): ACalls Tryz.prog G0 219 [.ptr 0 0, elT t] [pM TW v, rV TB v acc] (WrK (acc ++ kT t)) := by
 refine dH (rx := false) (th := fun _ => some ⟨none, [], false, false, true, [], []⟩) mixed Tryz.func219 ?_
 · simp -implicitDefEqProofs (disch := omega) only [Tryz.f219, go_sem, List.replicate, ↓reduceIte, reduceAdd, reduceSub, reduceMul, reduceLeDiff, reduceLT, reduceEqDiff, reduceNeg, Nat.reduceBEq]
   have e := aOi t
   have hl := congrArg List.length e
   rw [if_pos hk] at e hl
   have hi : -2147483647 ≤ t.n ∧ t.n ≤ 2147483647 := by simpa only [lV, aB, decide_eq_true_eq] using hn
   have w1 := wrS (acc := acc) (s := Lib.itoa t.n) (by omega)
   refine zh (zt hk) ?_
   (repeat' (first | refine gT ?_ ?_ | refine gF ?_ ?_ | refine gC ?_ ?_ | ((refine aW (T4 t.n (by omega) (by omega)) ?_ ?_; (focus (simp -implicitDefEqProofs (disch := omega) only [zt hk, zdB, go_sem, ↓reduceIte, reduceAdd, reduceSub, reduceMul, reduceLeDiff, reduceLT, reduceEqDiff, reduceNeg, Nat.reduceBEq]; done))); simp -implicitDefEqProofs (disch := omega) only [zt hk, go_sem, ↓reduceIte, reduceAdd, reduceSub, reduceMul, reduceLeDiff, reduceLT, reduceEqDiff, reduceNeg, Nat.reduceBEq]) | (refine bJg 0 1 g0 (w1) rfl (by decide) rfl rfl (by first | rfl | (simp only [renL, ren, elT, bA, avt, renL_pers _ _ lQ, bMy]; done)) ?_; intro v9 g9; simp -implicitDefEqProofs (disch := omega) only [zt hk, go_sem, ↓reduceIte, reduceAdd, reduceSub, reduceMul, reduceLeDiff, reduceLT, reduceEqDiff, reduceNeg, Nat.reduceBEq]) | refine aV (by omega) ?_ | (intro hr; have hc := hr; (try simp only [zdz] at hc); simp -implicitDefEqProofs (disch := omega) only [hr, zt hk, go_sem, ↓reduceIte, reduceAdd, reduceSub, reduceMul, reduceLeDiff, reduceLT, reduceEqDiff, reduceNeg, Nat.reduceBEq]; (try clear hr))))
   all_goals exact bCt (by rw [e])
theorem bCs (t : LTerm) (ht : OkT t) (hk : t.kind = 1) (hn : lV t.n = true) : WrT t := fun acc hf v => aXa t acc v ht hk hn hf
theorem bMx {N : Nat} : emb [1, 2] N 0 = 1 := rfl
theorem bAy (t : LTerm) (ht : OkT t) (hk : t.kind = 1) (hn : lV t.n = true) (hl : (kT t).length ≤ 140737488355328) : CT 179 [elT t] (.s (kT t)) := by
 have hz0 : (Tryz.prog.info? TW).map (fun i => i.zero.map (·.cells)) = some (some #[.pointer Option.none, P8]) := by kernel_rfl
 obtain ⟨i, hi, hz1⟩ := bE.1 hz0
 obtain ⟨z, hz, hc⟩ := bE.1 hz1
 refine aUj Tryz.func179 rfl (by kernel_rfl) g0 ?_
 refine aWp ?_
 refine rI (rx := false) (th := fun _ => none) mixed _ (ac := ?_) (by kernel_rfl) ?_ _ _ _ ?_
 rotate_left
 · simp only [strip, sN, aIk, RX.off, ckF, ckX, zOf, exd, vOf, bZ, nJ, dX, jH, rQ, eZ, oY, cS, dF, hZ, anyPre, Region.binds, Bool.not_true, Bool.not_false, aP, if_true, if_false, iI, gM, Bool.true_and, Bool.false_and, bN, aU, eM, fE, List.append_nil]
   rfl
 · simp -implicitDefEqProofs (disch := omega) only [Tryz.f179, go_sem, List.replicate, ↓reduceIte, reduceAdd, reduceSub, reduceMul, reduceLeDiff, reduceLT, reduceEqDiff, reduceNeg, Nat.reduceBEq]
   refine aWp (bJn TB rfl rfl hi hz hc ?_)
   refine rI (rx := false) (th := fun _ => none) mixed _ (ac := ?_) (by kernel_rfl) ?_ _ _ _ ?_
   rotate_left
   · simp only [strip, sN, aIk, RX.off, ckF, ckX, zOf, exd, vOf, bZ, nJ, dX, jH, rQ, eZ, oY, cS, dF, hZ, anyPre, Region.binds, Bool.not_true, Bool.not_false, aP, if_true, if_false, iI, gM, Bool.true_and, Bool.false_and, bN, aU, eM, fE, List.append_nil]
     rfl
   · refine zg ?_
     refine bJg 1 2 g0 (bCs t ht hk hn [] (by simpa using hl)) rfl (by decide) rfl rfl (by simp only [renL, ren, elT, bA, avt, renL_pers _ _ lQ, bMx]) ?_
     intro v9 g9
     refine zg ?_
     refine bJf 1 2 g0 bQw (by decide) rfl rfl rfl ?_
     refine zg ?_
     exact aE rfl rfl
end Go.Proofs.YtifefbhllfdmlaaGreatDoor
namespace Go.Proofs.YtifefbhllfdmlaaGreatDoor
open Go Go.Vo
open Nat (reduceAdd reduceSub reduceMul reduceLeDiff reduceLT reduceEqDiff)
open Int (reduceNeg)

def bKg : Str := [69, 120, 112]
def bKy : Str := [73, 110, 116]
def aHi : Str := [112, 108, 117, 115]
def aHj : Str := [109, 105, 110, 117, 115]
def sgS : cC := ⟨[bKg], [(bKy, bKg)], [⟨aHi, [aEa, aEa], bKg, [], 0, 0, []⟩, ⟨aHj, [aEa, aEa], bKg, [], 0, 0, []⟩], [], []⟩
def aHt (n : Int) : LTerm := .mk 1 n [] [] [] []
def bCh (x so : Str) : LTerm := .mk 6 0 x so [] []
def bDd (x : Str) (l : List LTerm) : LTerm := .mk 5 0 x [] l []
def xp1 : LTerm := bDd aHi [bCh [88] bKy, aHt 1]
def xp2 : LTerm := bDd aHi [bCh [88] aEa, bCh [89] aEa]
def xp3 : LTerm := bDd aHj [bCh [88] aEa, bCh [89] aEa]
def xt : LTerm := bDd aHi [aHt 2, aHt 1]
def xa : gD := ⟨[1], ⟨1, aHt 1, [], 0⟩⟩
def xa0 : gD := ⟨[], ⟨2, zT, aHi, 2⟩⟩
def xa1 : gD := ⟨[0], ⟨6, zT, bKy, 0⟩⟩
def xa3 : gD := ⟨[], ⟨2, zT, aHj, 2⟩⟩
def aUx : List (FuncId × List AV × AV) := [
 (13, [.agg (aN sgS), elT xp1], zE (nM sgS xp1)),
 (48, [.agg (aN sgS)], cN sgS),
 (47, [.agg (aN sgS)], .b true),
 (42, [.agg (aN sgS), elT xp1], .b true),
 (42, [.agg (aN sgS), elT xp2], .b true),
 (42, [.agg (aN sgS), elT xp3], .b true),
 (43, [elT xp1], ava (cM xp1 [])),
 (43, [elT xp2], ava (cM xp2 [])),
 (43, [elT xp3], ava (cM xp3 [])),
 (58, [.agg (aN sgS), elT xt], .b true),
 (50, [cN sgS, elT xt], .b true),
 (178, [.i .i64 0], .s [48]),
 (178, [.i .i64 1], .s [49]),
 (178, [.i .i64 2], .s [50]),
 (178, [.i .i64 6], .s [54]),
 (15, [.agg (aN sgS), .agg (aS xa), elT xt], yY (true, 0)),
 (49, [cN sgS, .agg (aS xa)], .b true),
 (49, [cN sgS, .agg (aS xa0)], .b true),
 (49, [cN sgS, .agg (aS xa1)], .b true),
 (49, [cN sgS, .agg (aS xa3)], .b true),
 (181, [.sl [ava [], ava ((cM xp1 []).drop 1)] 2], ava ((cM xp1 []).drop 1)),
 (181, [.sl [ava [], ava ((cM xp1 []).drop 2)] 2], ava ((cM xp1 []).drop 2)),
 (181, [.sl [ava [], ava []] 2], ava []),
 (179, [elT (aHt 1)], .s (kT (aHt 1)))]
theorem okt {k n : Int} {x so : Str} {ks : List LTerm} (hx : x.length ≤ 100) (hs : so.length ≤ 100) (hn : 0 ≤ n ∧ n ≤ 100) (hk : ks.length ≤ 100) (h : ∀ t ∈ ks, OkT t) : OkT (.mk k n x so ks []) := .mk (by simp only [LTerm.text]; omega) (by simp only [LTerm.sort]; omega) (by simp only [LTerm.n]; omega) (by simp only [LTerm.n]; omega) (by simp only [LTerm.kids]; omega) (by simp [LTerm.rest]) (by simpa [LTerm.kids] using h) (by simp [LTerm.rest])
theorem aJw {n : Int} (h : 0 ≤ n ∧ n ≤ 100) : OkT (aHt n) := okt (by decide) (by decide) h (by decide) (by simp)
theorem aJu {x so : Str} (hx : x.length ≤ 100) (hs : so.length ≤ 100) : OkT (bCh x so) := okt hx hs (by decide) (by decide) (by simp)
theorem aBw {x : Str} {a b : LTerm} (hx : x.length ≤ 100) (ha : OkT a) (hb : OkT b) : OkT (bDd x [a, b]) := okt hx (by decide) (by decide) (by simp) (by
 intro t ht
 rcases bV.1 ht with rfl | ht
 · exact ha
 · rw [bC] at ht; exact ht ▸ hb)
theorem ok1 : OkT xp1 := aBw (by decide) (aJu (by decide) (by decide)) (aJw (by decide))
theorem ok2 : OkT xp2 := aBw (by decide) (aJu (by decide) (by decide)) (aJu (by decide) (by decide))
theorem ok3 : OkT xp3 := aBw (by decide) (aJu (by decide) (by decide)) (aJu (by decide) (by decide))
theorem okx : OkT xt := aBw (by decide) (aJw (by decide)) (aJw (by decide))
theorem F0 : Small sgS := ⟨by decide, by decide, by decide, by decide, by decide⟩
theorem bEo : cU sgS = true := by kernel_rfl
theorem okK (p : List Int) (te : LTest) (h : OkT te.term) (hx : te.text.length ≤ 100) (hp : p.length ≤ 100) : OkK ⟨p, te⟩ := ⟨⟨h, dT hx (by decide)⟩, dT hp (by decide)⟩
theorem oka : OkK xa := okK _ _ (aJw (by decide)) (by decide) (by decide)
theorem bRg : OkK xa0 := okK _ _ V9 (by decide) (by decide)
theorem bRf : OkK xa1 := okK _ _ V9 (by decide) (by decide)
theorem bRe : OkK xa3 := okK _ _ V9 (by decide) (by decide)
theorem Y5 : OkS sgS := by
 have ho : ∀ x ∈ sgS.ops, OkO x := by
   intro x hx
   simp only [sgS, bV, List.not_mem_nil, or_false] at hx
   rcases hx with rfl | rfl <;> exact ⟨by decide, by decide, by decide, by decide, by decide, by decide, by decide, by decide, by decide, by decide⟩
 exact ⟨by decide, by decide, by decide, by decide, by decide, ho, by decide, by simp [sgS], by decide, by decide, by decide, by decide⟩
theorem ka1 : CT 13 [.agg (aN sgS), elT xp1] (zE (nM sgS xp1)) := aVr sgS xp1 F0 Y5 ok1
theorem ka2 : CT 48 [.agg (aN sgS)] (cN sgS) := aGi sgS F0 (iQ bEo)
theorem ka3 : CT 47 [.agg (aN sgS)] (.b true) := bEo ▸ aMd sgS F0 Y5
theorem ka4 : CT 42 [.agg (aN sgS), elT xp1] (.b true) := (by kernel_rfl : wM sgS xp1 = true) ▸ T3 sgS xp1 F0 Y5 ok1
theorem ka5 : CT 42 [.agg (aN sgS), elT xp2] (.b true) := (by kernel_rfl : wM sgS xp2 = true) ▸ T3 sgS xp2 F0 Y5 ok2
theorem ka6 : CT 42 [.agg (aN sgS), elT xp3] (.b true) := (by kernel_rfl : wM sgS xp3 = true) ▸ T3 sgS xp3 F0 Y5 ok3
theorem ka7 : CT 43 [elT xp1] (ava (cM xp1 [])) := T2 xp1 ok1 (by decide) (by decide)
theorem ka8 : CT 43 [elT xp2] (ava (cM xp2 [])) := T2 xp2 ok2 (by decide) (by decide)
theorem ka9 : CT 43 [elT xp3] (ava (cM xp3 [])) := T2 xp3 ok3 (by decide) (by decide)
theorem bRx : CT 58 [.agg (aN sgS), elT xt] (.b true) := (by kernel_rfl : (cU sgS && kK sgS xt) = true) ▸ aVu sgS xt F0 Y5 okx
theorem bRw : CT 50 [cN sgS, elT xt] (.b true) := (by kernel_rfl : kK sgS xt = true) ▸ aMb sgS xt F0 okx
theorem bRv : CT 178 [.i .i64 0] (.s [48]) := (by kernel_rfl : Lib.itoa 0 = [48]) ▸ T4 0 (by decide) (by decide)
theorem bRu : CT 178 [.i .i64 1] (.s [49]) := (by kernel_rfl : Lib.itoa 1 = [49]) ▸ T4 1 (by decide) (by decide)
theorem bRt : CT 178 [.i .i64 2] (.s [50]) := (by kernel_rfl : Lib.itoa 2 = [50]) ▸ T4 2 (by decide) (by decide)
theorem bRs : CT 178 [.i .i64 6] (.s [54]) := (by kernel_rfl : Lib.itoa 6 = [54]) ▸ T4 6 (by decide) (by decide)
theorem bRr : CT 179 [elT (aHt 1)] (.s (kT (aHt 1))) := bAy (aHt 1) (aJw (by decide)) rfl (by decide) (dT (Nat.le_of_eq (by kernel_rfl : (kT (aHt 1)).length = 1)) (by decide))
theorem bRq : CT 15 [.agg (aN sgS), .agg (aS xa), elT xt] (yY (true, 0)) := (by kernel_rfl : yH sgS xa xt = (true, 0)) ▸ aVq sgS xa xt F0 Y5 oka okx
theorem bRp : CT 49 [cN sgS, .agg (aS xa)] (.b true) := (by kernel_rfl : pX sgS xa = true) ▸ T1 sgS xa oka
theorem bRo : CT 49 [cN sgS, .agg (aS xa0)] (.b true) := (by kernel_rfl : pX sgS xa0 = true) ▸ T1 sgS xa0 bRg
theorem bRn : CT 49 [cN sgS, .agg (aS xa1)] (.b true) := (by kernel_rfl : pX sgS xa1 = true) ▸ T1 sgS xa1 bRf
theorem bRm : CT 49 [cN sgS, .agg (aS xa3)] (.b true) := (by kernel_rfl : pX sgS xa3 = true) ▸ T1 sgS xa3 bRe
theorem bRl : CT 181 [.sl [ava [], ava ((cM xp1 []).drop 1)] 2] (ava ((cM xp1 []).drop 1)) := aLt [[], (cM xp1 []).drop 1] (by decide) (by decide)
theorem bRk : CT 181 [.sl [ava [], ava ((cM xp1 []).drop 2)] 2] (ava ((cM xp1 []).drop 2)) := aLt [[], (cM xp1 []).drop 2] (by decide) (by decide)
theorem bRj : CT 181 [.sl [ava [], ava []] 2] (ava []) := aLt [[], []] (by decide) (by decide)
theorem aKi : aNw Tryz.prog G0 (bLe aUx) := aXo fun e he => by
 simp only [aUx, bV, List.not_mem_nil, or_false] at he
 rcases he with rfl | rfl | rfl | rfl | rfl | rfl | rfl | rfl | rfl | rfl | rfl | rfl | rfl | rfl | rfl | rfl | rfl | rfl | rfl | rfl | rfl | rfl | rfl | rfl
 all_goals dsimp only
 all_goals first | exact ka1 | exact ka2 | exact ka3 | exact ka4 | exact ka5 | exact ka6 | exact ka7 | exact ka8 | exact ka9 | exact bRx | exact bRw | exact bRv | exact bRu | exact bRt | exact bRs | exact bRr | exact bRq | exact bRp | exact bRo | exact bRn | exact bRm | exact bRl | exact bRk | exact bRj
def bMa : FuncId → How := fun f => if f = 69 then ⟨true, true, fun i => if i = 25 then some ⟨none, [11], true, false, false, [], [101, 109]⟩ else none⟩ else if f = 68 then ⟨false, true, fun i => if i = 15 then some ⟨some 2, [], true, false, false, [], []⟩ else none⟩ else if f = 65 then ⟨true, true, fun i => if i = 6 then some ⟨none, [2], false, false, false, [69, 70, 71], [84, 94]⟩ else none⟩ else if f = 115 then ⟨true, false, fun _ => none⟩ else {}
theorem aPg : [12, 18, 20, 22, 24, 26, 38, 39, 40, 41, 44, 51, 57, 59, 60, 63, 65, 68, 69, 154, 78, 84, 101, 112, 113, 114, 115, 118, 119, 120, 121, 158, 159, 200, 139, 176, 177, 180].all (fun f => bCm Tryz.prog (bMa f).rx (bMa f).th f) = true := by kernel_rfl
theorem aVs : CT 12 [] (.b true) := aXx mixed g0 aKi bMa (bEd aPg) 300 (by kernel_rfl)
end Go.Proofs.YtifefbhllfdmlaaGreatDoor
namespace Go.Proofs.YtifefbhllfdmlaaGreatDoor
open Go Go.Vo
open Nat (reduceAdd reduceSub reduceMul reduceLeDiff reduceLT reduceEqDiff)
open Int (reduceNeg)

theorem aVt (s : cC) (l : List LTerm) (hs : OkS s) (hl : l.length ≤ 1466015503701) (ho : ∀ t ∈ l, OkT t): CT 10 [.agg (aN s), avt l] (.b (few s && aOe 1500 l)) := by
 refine bM mixed Tryz.func10 g0 ?_
 · simp -implicitDefEqProofs (disch := omega) only [Tryz.f10, go_sem, List.replicate, ↓reduceIte, reduceAdd, reduceSub, reduceMul, reduceLeDiff, reduceLT, reduceEqDiff, reduceNeg, Nat.reduceBEq, avt]
   have c1 := bNp s hs
   have c2 := aWg 1500 l hl ho (by decide) (by decide)
   simp only [avt] at c2
   generalize few s = A at *
   generalize aOe 1500 l = B at *
   (refine zt2 c1 c2 ?_; repeat' first | exact trivial | refine zJ ?_ ?_ | refine zH fun hc => ?_)
   all_goals exact aE (by simp_all) rfl
def bCn (a : gD) : Nat := 1 + a.path.length + a.test.text.length / 40
def nF : List gD → Nat
 | [] => 0
 | a :: l => bCn a + nF l
@[simp] theorem bJp : nF [] = 0 := rfl
theorem E2 : ∀ {l : List gD} {k : Nat}, k < l.length → nF (l.take (k + 1)) = nF (l.take k) + bCn (l.getD k default)
 | a :: l, 0, _ => by simp [nF]
 | a :: l, k + 1, h => by
   rw [dU, nF, E2 (k := k) (by simpa using h), dU, nF]; simp; omega
 | [], _, h => by simp at h
theorem aDs : ∀ {l : List gD} {k : Nat}, nF (l.take k) ≤ nF l
 | [], k => by simp
 | a :: l, 0 => by simp [nF]
 | a :: l, k + 1 => by rw [dU, nF, nF]; have := aDs (l := l) (k := k); omega
def aTi (l : List gD) : Bool := (l.all fun a => aOe 100 [a.test.term]) && decide (nF l ≤ 6000)
theorem bGs (l : List gD) (hl : l.length ≤ 1000000000000) (hb : nF l ≤ 4611686018427387904) (ho : ∀ a ∈ l, OkX a.test): CT 11 [ava l] (.b (aTi l)) := by
 refine bM mixed Tryz.func11 g0 ?_
 · simp -implicitDefEqProofs (disch := omega) only [Tryz.f11, go_sem, List.replicate, ↓reduceIte, reduceAdd, reduceSub, reduceMul, reduceLeDiff, reduceLT, reduceEqDiff, reduceNeg, Nat.reduceBEq, ava]
   (refine zs0 ?_; repeat' first | exact trivial | refine zJ ?_ ?_ | refine zH fun hc => ?_)
   refine eJ (fun (k : Nat) => [.k, .k, .j, .v (.i .i64 (nF (l.take k) : Nat)), .k, .j, .k, .k, .v (.i .i64 (k : Nat)), .j, .j, .j, .j, .j, .j, .j, .j, .j, .j, .j, .j, .j, .j, .j, .j, .j, .j, .j, .j, .j, .j, .k, .k]) (fun k => []) (fun k => k ≤ l.length ∧ ∀ j, j < k → aOe 100 [(l.getD j default).test.term] = true) (fun k => l.length - k) (0) [] ⟨aG _, fun j h => by omega⟩ (by simp [avs, avb, avi, avo, bI, aN]) (by simp [eN]) ?_
   rintro k g j ⟨hk, hn⟩
   have q1 : k < l.length → nF (l.take (k + 1)) ≤ nF l := fun _ => aDs
   have q2 : k < l.length → nF (l.take (k + 1)) = nF (l.take k) + bCn (l.getD k default) := fun h => E2 h
   have c : k < l.length → CT 37 [.i .i64 100, avt [(l.getD k default).test.term]] (.b (aOe 100 [(l.getD k default).test.term])) := fun h => aWg 100 _ (by simp) (by simpa using (ho _ (bB h)).term) (by decide) (by decide)
   simp only [avt, cV, jW, List.append_nil, aQ, bD, bX, bA] at c
   have h40 : ((40 : Int) = 0) = False := eq_false (by decide)
   have hwr : k < l.length → IntKind.i64.wrap (((l.getD k default).test.text.length : Int).tdiv 40) = (((l.getD k default).test.text.length / 40 : Nat) : Int) := fun h => by
     have h1 := (ho _ (bB (d := default) h)).text
     rw [Int.tdiv_eq_ediv_of_nonneg (by omega)]
     rw [wrap64 (by omega) (by omega)]
     omega
   by_cases hlt : k < l.length
   · have w := hwr hlt
     have q3 := q1 hlt
     have q4 := q2 hlt
     unfold bCn at q4
     have hki : (k : Int) < ((l.length : Nat) : Int) := by omega
     simp -implicitDefEqProofs (disch := omega) only [aS, avt, zt hki, h40, w, dS, go_sem, ↓reduceIte, reduceAdd, reduceSub, reduceMul, reduceLeDiff, reduceLT, reduceEqDiff, reduceNeg, Nat.reduceBEq]
     (repeat' (first | refine gT ?_ ?_ | refine gF ?_ ?_ | refine gC ?_ ?_ | ((refine aW ((c hlt)) ?_ ?_; (focus (simp -implicitDefEqProofs (disch := omega) only [aS, avt, zt hki, h40, w, dS, zdB, go_sem, ↓reduceIte, reduceAdd, reduceSub, reduceMul, reduceLeDiff, reduceLT, reduceEqDiff, reduceNeg, Nat.reduceBEq]; done))); simp -implicitDefEqProofs (disch := omega) only [aS, avt, zt hki, h40, w, dS, go_sem, ↓reduceIte, reduceAdd, reduceSub, reduceMul, reduceLeDiff, reduceLT, reduceEqDiff, reduceNeg, Nat.reduceBEq]) | refine aV (by omega) ?_ | (intro hr; have hc := hr; (try simp only [zdz] at hc); simp -implicitDefEqProofs (disch := omega) only [hr, aS, avt, zt hki, h40, w, dS, go_sem, ↓reduceIte, reduceAdd, reduceSub, reduceMul, reduceLeDiff, reduceLT, reduceEqDiff, reduceNeg, Nat.reduceBEq]; (try clear hr))))
     · exact aE (by
         have : (l.all fun a => aOe 100 [a.test.term]) = false := by
           rw [jD]
           exact ⟨_, bB (d := default) hlt, by rw [hc]; simp⟩
         rw [aTi, this, Bool.false_and]) rfl
     · refine ⟨k + 1, _, ⟨by omega, aY hn hc⟩, by omega, rfl, ?_, by simp⟩
       rw [q4]
       congr 1
   · have hki : ¬ (k : Int) < ((l.length : Nat) : Int) := by omega
     have hkt : l.take k = l := aJ (by omega)
     have ha : (l.all fun a => aOe 100 [a.test.term]) = true := by
       rw [aL]
       intro x hx
       obtain ⟨j, hj, rfl⟩ := bL.1 hx
       have := hn j (by omega)
       simpa [List.getD, hj] using this
     refine zh (zA2 (zf hki) hkt) ?_
     (refine zx0 (zA2 (zf hki) hkt) ?_; repeat' first | exact trivial | refine zJ ?_ ?_ | refine zH fun hc => ?_)
     exact aE (by rw [aTi, ha, Bool.true_and]; exact congrArg AV.b (decide_eq_decide.2 (by constructor <;> intro h <;> omega))) rfl
end Go.Proofs.YtifefbhllfdmlaaGreatDoor
namespace Go.Proofs.YtifefbhllfdmlaaGreatDoor
open Go Go.Vo
open Nat (reduceAdd reduceSub reduceMul reduceLeDiff reduceLT reduceEqDiff)
open Int (reduceNeg)

def aBs (s : cC) (t : LTerm) : Bool := decide ((argsR2 s t.text).1.length = t.kids.length) && A8 t.kids.length (fun i => pC s (ofR s (t.kids.getD i default)).1 ((argsR2 s t.text).1.getD i []) || pC s ((argsR2 s t.text).1.getD i []) (ofR s (t.kids.getD i default)).1)
mutual
def rS (s : cC) : LTerm → Bool
 | .mk k n x so ks rs => (ofR s (.mk k n x so ks rs)).2 && (fitsRL s ks && (if k = 5 then aBs s (.mk k n x so ks rs) else true))
def fitsRL (s : cC) : List LTerm → Bool
 | [] => true
 | k :: l => rS s k && fitsRL s l
end
theorem R9 {s : cC} : ∀ l, fitsRL s l = l.all (rS s)
 | [] => rfl
 | k :: l => by rw [fitsRL, R9 l]; rfl
theorem H5 (s : cC) (t : LTerm) : rS s t = ((ofR s t).2 && (t.kids.all (rS s) && (if t.kind = 5 then aBs s t else true))) := by
 cases t; rw [rS, R9]; rfl
theorem aSd (s : cC) (t : LTerm) (hm : Small s) (hs : OkS s) (ht : OkT t) (ih : ∀ k ∈ t.kids, CT 190 [.agg (aN s), elT k] (.b (rS s k))): CT 190 [.agg (aN s), elT t] (.b (rS s t)) := by
 refine aF mixed Tryz.func190 g0 ?_
 · skip
   have e := H5 s t
   have hk1 := ht.kids
   have c0 := aDi s t hs
   have c1 := aWf s t.text hs
   obtain ⟨⟨l, so, ok⟩, hq⟩ : ∃ p, argsR2 s t.text = p := ⟨_, rfl⟩
   obtain ⟨⟨sx, ok0⟩, ho⟩ : ∃ p, ofR s t = p := ⟨_, rfl⟩
   simp only [aBs, hq, ho] at e
   rw [hq] at c1
   rw [ho] at c0
   cases ok0 with
   | false =>
     (refine zt1 c0 ?_; repeat' first | exact trivial | refine zJ ?_ ?_ | refine zH fun hc => ?_)
     all_goals exact aE (by rw [e, Bool.false_and]) rfl
   | true =>
   rw [Bool.true_and] at e
   (refine zt1 c0 ?_; repeat' first | exact trivial | refine zJ ?_ ?_ | refine zH fun hc => ?_)
   refine eJ (fun (k : Nat) => [.k, .k, .k, .k, .j, .k, .k, .k, .j, .k, .k, .k, .k, .k, .k, .k, .k, .k, .k, .k, .k, .k, .k, .k, .k, .k, .k, .v (.i .i64 (k : Nat)), .j, .j, .j, .j, .j, .j, .j, .j, .k, .k, .k, .k, .k, .k, .k, .k, .k, .k, .k, .k, .k, .k, .k, .k, .k, .k, .k, .k, .k, .k, .k, .k, .k, .k, .k, .k, .k, .k, .k, .k, .k, .k, .k, .k, .k, .k, .k, .k]) (fun k => [.box false (aN s), .box false [.i .i64 (t).kind, .i .i64 (t).n, .s (t).text, .s (t).sort, .sl ((t).kids.flatMap aC) (t).kids.length, .sl ((t).rest.flatMap aC) (t).rest.length]]) (fun k => k ≤ t.kids.length ∧ ∀ j, j < k → rS s (t.kids.getD j default) = true) (fun k => t.kids.length - k) (0) [] ⟨aG _, fun j h => by omega⟩ (by simp [avs, avb, avi, avo, bI, aN]) (by simp [eN]) ?_
   rintro k g j ⟨hk, ha⟩
   have o : k < t.kids.length → CT 190 [.agg (aN s), elT (t.kids.getD k default)] (.b (rS s (t.kids.getD k default))) := fun h => ih _ (bB h)
   refine zg ?_
   (refine zt2 o c1 ?_; repeat' first | exact trivial | refine zJ ?_ ?_ | refine zH fun hc => ?_)
   all_goals first
     | exact aE (by rw [e, uB k (by omega) hc, Bool.false_and]) rfl
     | exact ⟨k + 1, _, ⟨by omega, aY ha hc⟩, by omega, rfl, by simp⟩
     | skip
   all_goals rw [lG (fun j hj => ha j (by omega)), Bool.true_and] at e
   all_goals first
     | (exfalso; omega)
     | exact aE (by rw [e, if_neg (by assumption)]) rfl
     | exact aE (by rw [e, if_pos (by omega), zf (by omega : ¬ l.length = t.kids.length), Bool.false_and]) rfl
     | skip
   have hn : l.length = t.kids.length := by omega
   rw [if_pos (by omega), zt hn, Bool.true_and] at e
   refine eJ (fun (k : Nat) => [.k, .k, .k, .k, .j, .k, .k, .k, .k, .k, .k, .k, .j, .j, .j, .j, .k, .k, .k, .k, .k, .k, .k, .k, .k, .k, .k, .k, .k, .k, .k, .k, .k, .k, .k, .k, .k, .k, .k, .k, .k, .k, .k, .k, .k, .k, .k, .k, .k, .k, .k, .k, .k, .k, .k, .k, .v (.i .i64 (k : Nat)), .j, .j, .j, .j, .j, .j, .j, .j, .j, .j, .j, .j, .j, .j, .j, .j, .j, .j, .j]) (fun k => (.box false (aN s) :: .box false [.i .i64 (t).kind, .i .i64 (t).n, .s (t).text, .s (t).sort, .sl ((t).kids.flatMap aC) (t).kids.length, .sl ((t).rest.flatMap aC) (t).rest.length] :: g)) (fun k => k ≤ t.kids.length ∧ ∀ j, j < k → (pC s (ofR s (t.kids.getD j default)).1 (l.getD j []) || pC s (l.getD j []) (ofR s (t.kids.getD j default)).1) = true) (fun k => t.kids.length - k) (0) [] ⟨aG _, fun j h => by omega⟩ (by simp [avs, avb, avi, avo, bI, aN]) (by simp [eN]) ?_
   rintro kk g2 j2 ⟨hkk, ha2⟩
   refine zg ?_
   (refine zt2 (aDi s (t.kids.getD kk default) hs) (bNc s (ofR s (t.kids.getD kk default)).1 (l.getD kk []) hm) ?_; repeat' first | exact trivial | refine zJ ?_ ?_ | refine zH fun hc => ?_)
   all_goals first
     | exact aE (by rw [e, fX kk (by omega) hc]) rfl
     | exact ⟨kk + 1, _, ⟨by omega, aY ha2 hc⟩, by omega, rfl, by simp⟩
     | exact aE (by rw [e, jM (fun j hj => ha2 j (by omega))]) rfl
     | (exfalso; omega)
theorem bGv (s : cC) (hm : Small s) (hs : OkS s) : ∀ (t : LTerm), OkT t → CT 190 [.agg (aN s), elT t] (.b (rS s t)) :=
 dD fun t hk _ ht => aSd s t hm hs ht (fun k hmm => hk k hmm (ht.kid k hmm))
theorem bGx (s : cC) (t : LTerm) (hm : Small s) (hs : OkS s) (ht : OkT t): CT 132 [.agg (aN s), elT t] (.b (eS cB t && rS s t)) := by
 refine aF mixed Tryz.func132 g0 ?_
 · skip
   (refine zt2 (aDf t ht) (bGv s hm hs t ht) ?_; repeat' first | exact trivial | refine zJ ?_ ?_ | refine zH fun hc => ?_)
   all_goals exact aE rfl rfl
end Go.Proofs.YtifefbhllfdmlaaGreatDoor
namespace Go.Proofs.YtifefbhllfdmlaaGreatDoor
open Go Go.Vo
open Nat (reduceAdd reduceSub reduceMul reduceLeDiff reduceLT reduceEqDiff)
open Int (reduceNeg)
theorem aBz {t : LTerm} (h : cB t = true) : 1 ≤ t.kind ∧ t.kind ≤ 8 := by
 unfold cB at h
 by_cases h1 : t.kind = 1; · omega
 by_cases h2 : t.kind = 2; · omega
 by_cases h3 : t.kind = 3; · omega
 by_cases h4 : t.kind = 4; · omega
 by_cases h5 : t.kind = 5; · omega
 by_cases h6 : t.kind = 6; · omega
 by_cases h7 : t.kind = 7; · omega
 by_cases h8 : t.kind = 8; · omega
 rw [if_neg h1, if_neg h2, if_neg h3, if_neg h4, if_neg h5, if_neg h6, if_neg h7, if_neg h8] at h
 cases h

theorem aEk {s : cC} (h : cU s = true) : ∀ o ∈ s.funs, G7 s o = true := by
 simp only [cU, lN, mK, nK, aB, aL, decide_eq_true_eq] at h
 exact h.2.2
theorem aGp : gL.all (fun x => decide (aGy x = (yW x).1) && decide (uI x = (yW x).2) && fJ.contains (uI x) && (aGy x).all fJ.contains) = true := by decide +kernel
structure aUd (s : cC) (x : Str) : Prop where
 ok : (called s x).2.2 = (argsR2 s x).2.2
 args : (called s x).2.2 = true → (called s x).1.args = (argsR2 s x).1
 sort : (called s x).2.2 = true → (called s x).1.sort = (argsR2 s x).2.1
 exS : (called s x).2.2 = true → existsA s (called s x).1.sort = true
 exA : (called s x).2.2 = true → ∀ y ∈ (called s x).1.args, existsA s y = true
 no : (called s x).2.2 = false → (called s x).1.sort = []
theorem U2 {s : cC} {x : Str} (hv : cU s = true) : aUd s x := by
 cases h1 : zZ s x with
 | some o =>
   have ho := M6 hv o (aBu h1)
   have hs := aJr ho
   simp only [aKn, opHead, aB, aL] at ho
   have ha := ho.1.1.1.1.1.1.2
   constructor <;> simp only [called, argsR2, h1] <;> intros <;> first | rfl | exact hs | exact ha _ ‹_› | trivial | contradiction
 | none =>
   cases h2 : uP s x with
   | some o =>
     have ho := aEk hv o (zO h2)
     simp only [G7, aB, aL] at ho
     have ha := ho.1.1.2
     have hs := ho.1.2
     constructor <;> simp only [called, argsR2, h1, h2] <;> intros <;> first | rfl | exact hs | exact ha _ ‹_› | trivial | contradiction
   | none =>
     rcases eQ (gL.contains x) with h3 | h3
     · have hb := aL.1 aGp x (eK.1 h3)
       simp only [aB, decide_eq_true_eq, aL] at hb
       obtain ⟨⟨⟨b1, b2⟩, b3⟩, b4⟩ := hb
       have hs : existsA s (uI x) = true := lD (eK.1 b3)
       have ha : ∀ y ∈ aGy x, existsA s y = true := fun y hy => lD (eK.1 (b4 y hy))
       constructor <;> simp only [called, argsR2, h1, h2, qH, h3, if_true] <;> intros <;> first | rfl | exact b1 | exact b2 | exact hs | exact ha _ ‹_› | trivial | contradiction
     · constructor <;> simp only [called, argsR2, h1, h2, qH, h3, aP, if_false] <;> intros <;> first | rfl | trivial | contradiction
theorem aZa {s : cC} {t : LTerm} (hv : cU s = true) (hn : cB t = true) : ((ofR s t).2 = true → jS s t = (ofR s t).1 ∧ existsA s (jS s t) = true) ∧ ((ofR s t).2 = false → jS s t = []) := by
 have hk := aBz hn
 have hc := U2 (x := t.text) hv
 by_cases h5 : t.kind = 5
 · simp only [jS, ofR, h5, Int.reduceEq, if_true, if_false]
   rw [← hc.ok]
   exact ⟨fun h => ⟨hc.sort h, hc.exS h⟩, hc.no⟩
 by_cases h6 : t.kind = 6
 · simp only [jS, ofR, h6, Int.reduceEq, if_true, if_false, exists_eq]
   exact ⟨fun h => by rw [if_pos h]; exact ⟨rfl, h⟩, fun h => by rw [if_neg (by rw [h]; simp)]⟩
 have e : ∀ (a : Str), a ∈ fJ → (True → True ∧ existsA s a = true) ∧ (true = false → a = []) := fun a ha => ⟨fun _ => ⟨trivial, lD ha⟩, fun h => by cases h⟩
 by_cases h1 : t.kind = 1
 · simp only [jS, ofR, h1, Int.reduceEq, if_true, if_false]; exact e jL (by decide)
 by_cases h2 : t.kind = 2
 · simp only [jS, ofR, h2, Int.reduceEq, if_true, if_false]; exact e jT (by decide)
 by_cases h3 : t.kind = 3
 · simp only [jS, ofR, h3, Int.reduceEq, if_true, if_false]; exact e uG (by decide)
 by_cases h4 : t.kind = 4
 · simp only [jS, ofR, h4, Int.reduceEq, if_true, if_false]; exact e idS (by decide)
 by_cases h7 : t.kind = 7
 · simp only [jS, ofR, h7, Int.reduceEq, if_true, if_false]; exact e pW (by decide)
 have h8 : t.kind = 8 := by omega
 simp only [jS, ofR, h8, Int.reduceEq, if_true, if_false]; exact e yE (by decide)
theorem bAg {s : cC} (hv : cU s = true) : ∀ t : LTerm, wfT cB t = true → rS s t = nC s t :=
 dD (Q := fun t => wfT cB t = true → rS s t = nC s t) fun t hk _ hw => by
   have hw' := pB.1 hw
   have ek : t.kids.all (rS s) = t.kids.all (nC s) := all_congr fun x hx => hk x hx (hw'.2 x hx)
   rw [H5, aCq, ek]
   rcases eQ (t.kids.all (nC s)) with ha | ha
   · rw [ha, Bool.true_and, Bool.true_and]
     have hc := U2 (x := t.text) hv
     by_cases h6 : t.kind = 6
     · rw [if_pos h6, if_neg (by omega), Bool.and_true]
       simp only [ofR, h6, Int.reduceEq, if_true, if_false, exists_eq]
     rw [if_neg h6]
     by_cases h5 : t.kind = 5
     · rw [if_pos h5, if_pos h5, aBt, aBs]
       have e2 : (ofR s t).2 = (called s t.text).2.2 := by simp only [ofR, h5, Int.reduceEq, if_true, if_false]; exact hc.ok.symm
       rw [e2]
       rcases eQ (called s t.text).2.2 with ho | ho
       · rw [ho, Bool.true_and, Bool.true_and, ← hc.args ho]
         by_cases hn : (called s t.text).1.args.length = t.kids.length
         · rw [zt hn, Bool.true_and, Bool.true_and]
           refine uY fun j hj => ?_
           have hm : t.kids.getD j default ∈ t.kids := bB hj
           have hf : rS s (t.kids.getD j default) = true := by rw [hk _ hm (hw'.2 _ hm)]; exact aL.1 ha _ hm
           have hof : (ofR s (t.kids.getD j default)).2 = true := by rw [H5, aB] at hf; exact hf.1
           have q := (aZa hv (pB.1 (hw'.2 _ hm)).1).1 hof
           have hx : existsA s ((called s t.text).1.args.getD j []) = true := hc.exA ho _ (by
             have : j < (called s t.text).1.args.length := by omega
             simp only [List.getD, bG this, jU]
             exact rZ this)
           rw [← q.1, wL q.2, wL hx, aFr]
         · rw [zf hn, Bool.false_and, Bool.false_and]
       · rw [ho, Bool.false_and, Bool.false_and]
     · rw [if_neg h5, if_neg h5, Bool.and_true]
       have hkk := aBz hw'.1
       simp only [ofR]
       repeat' split
       all_goals first | rfl | omega
   · rw [ha, Bool.false_and, Bool.false_and, Bool.and_false]
end Go.Proofs.YtifefbhllfdmlaaGreatDoor
namespace Go.Proofs.YtifefbhllfdmlaaGreatDoor
open Go Go.Vo
open Nat (reduceAdd reduceSub reduceMul reduceLeDiff reduceLT reduceEqDiff)
open Int (reduceNeg)

theorem aOm : ∀ (t : LTerm), OkT t → ∀ p : List Int, p.length + highT t ≤ 1000 → ∀ a ∈ cM t p, OkA a :=
 dD (Q := fun t => OkT t → ∀ p : List Int, p.length + highT t ≤ 1000 → ∀ a ∈ cM t p, OkA a) fun t hk _ ht p hp => by
   have e := tI t
   have L : ∀ (l : List LTerm) (i : Nat), (∀ k ∈ l, k ∈ t.kids) → p.length + 1 + highL l ≤ 1000 → ∀ a ∈ testsL l p i, OkA a := by
     intro l
     induction l with
     | nil => intro i _ _ a ha; simp [testsL] at ha
     | cons x l ih =>
       intro i hm hh a ha
       rw [highL] at hh
       rw [testsL, bJ] at ha
       rcases ha with ha | ha
       · exact hk x (hm x (by simp)) (ht.kid x (hm x (by simp))) (p ++ [(i : Int)]) (by simp only [aH, aQ, bD]; omega) a ha
       · exact ih (i + 1) (fun k hk => hm k (by simp [hk])) (by omega) a ha
   have z : ∀ (te : LTest), OkT te.term → OkA ⟨p, te⟩ := fun te h => ⟨h, by show p.length ≤ 1000000; omega⟩
   intro a ha
   rw [gU] at ha
   split at ha
   · rcases bV.1 ha with rfl | ha
     · exact z _ V9
     · exact L t.kids 0 (fun k hk => hk) (by omega) a ha
   · split at ha
     · rcases bV.1 ha with rfl | ha
       · exact z _ V9
       · exact L t.kids 0 (fun k hk => hk) (by omega) a ha
     · split at ha
       · rw [bC] at ha; subst ha; exact z _ V9
       · split at ha
         · split at ha
           · cases ha
           · rw [bC] at ha; subst ha; exact z _ V9
         · rw [bC] at ha; subst ha; exact z _ ht
theorem F3 (a : LTest) : sR a a = true := by simp [sR]
theorem O0 (a : gD) : lO a a = true := by simp [lO, F3]
theorem sS : ∀ l : List gD, jJ l l = true
 | [] => rfl
 | a :: l => by rw [jJ, O0, sS l]; rfl
theorem qL {t : LTerm} (h : eS cB t = true) : highT t ≤ 1000 ∧ nodesT t ≤ 2000 := by
 simp only [eS, aB, decide_eq_true_eq] at h
 omega
theorem aFc (s : cC) (t : LTerm) (ht : OkT t) : CT 17 [ava (nM s t).1, ava (nM s t).1] (.b true) := by
 have h : ∀ l : List gD, l.length ≤ 1000000 → (∀ a ∈ l, OkA a) → CT 17 [ava l, ava l] (.b true) := fun l h1 h2 => sS l ▸ bGp l l h1 h1 h2 h2
 rw [nM]
 rcases eQ (wM s t) with hp | hp
 · rw [if_pos hp]
   have hv := qL (lJ hp)
   exact h _ (dT (nL t []) (by omega)) (aOm t ht [] (by simp only [bD]; omega))
 · rw [if_neg (by rw [hp]; simp)]
   exact h [] (by simp) (by simp)
theorem aLe (s : cC) (t : LTerm) (hm : Small s) (hs : OkS s) (ht : OkT t) (hv : cU s = true) : CT 132 [.agg (aN s), elT t] (.b (eS cB t && nC s t)) := by
 have c := bGx s t hm hs ht
 rcases eQ (eS cB t) with h | h
 · rwa [bAg hv t (E8 h)] at c
 · rw [h, Bool.false_and] at c ⊢
   exact c
theorem mG {α : Type} {l : List α} : (List.replicate 2 l).flatten = l ++ l := by simp [List.replicate]
theorem bGu (s : cC) (t u : LTerm) (a : gD) (hs : OkS s) (ht : OkT t) (hu : OkT u) (hx : OkX a.test) (hp : wD a.path): CT 3 [.agg (aN s), .agg (aC t ++ aC u), .agg (aS a)] (.b true) := by
 refine bM mixed Tryz.func3 g0 ?_
 · simp -implicitDefEqProofs (disch := omega) only [Tryz.f3, aQ, bD, bX, dF, cS, Nat.sub_zero, List.replicate, ↓reduceIte, reduceAdd, reduceSub, reduceMul, reduceLeDiff, reduceLT, reduceEqDiff, reduceNeg, Nat.reduceBEq, bA, dF, cS, aS, avt]
   have c1 := aVt s [t, u] hs (by simp) (by intro x hx; simp only [bV, List.not_mem_nil, or_false] at hx; rcases hx with rfl | rfl <;> assumption)
   have hpl := hp.1
   have hxt := hx.text
   have c2 := bGs [a] (by simp) (by simp only [nF, bCn]; omega) (by simpa using hx)
   have ca := aVs
   simp only [avt, ava, cV, jW, List.append_nil, aQ, bD, bX, bA, dF, cS, aS] at c1 c2
   rcases eQ (few s && aOe 1500 [t, u]) with h1 | h1
   · rw [h1] at c1
     have hm := S5 ((aB _ _).mp h1).1
     rcases eQ (aTi [a]) with h2 | h2
     · rw [h2] at c2
       have hak : OkK a := ⟨hx, by
         have h3 := of_decide_eq_true ((aB _ _).mp h2).2
         simp only [nF, bCn] at h3
         omega⟩
       have d1 := aVr s t hm hs ht
       have d2 := bGr s t hm hs ht (aLe s t hm hs ht)
       have d3 := aVq s a u hm hs hak hu
       have d4 := bGq s a u hm hs hak hp hu
       have d5 := aFc s t ht
       simp only [zE, yY, aS, avt] at d1 d2 d3 d4
       generalize (nM s t).1 = T at *
       generalize (nM s t).2 = E at *
       generalize (yH s a u).1 = B at *
       generalize (yH s a u).2 = F at *
       simp only [ava] at d1 d2 d5
       simp -implicitDefEqProofs (disch := omega) only [Int.reduceToNat, dS, mG, go_sem, ↓reduceIte, reduceAdd, reduceSub, reduceMul, reduceLeDiff, reduceLT, reduceEqDiff, reduceNeg, Nat.reduceBEq]
       (repeat' (first | refine gT ?_ ?_ | refine gF ?_ ?_ | refine gC ?_ ?_ | ((first | (refine aW (c1) ?_ ?_; (focus (simp -implicitDefEqProofs (disch := omega) only [Int.reduceToNat, dS, mG, eq_self, decide_true, zdB, go_sem, ↓reduceIte, reduceAdd, reduceSub, reduceMul, reduceLeDiff, reduceLT, reduceEqDiff, reduceNeg, Nat.reduceBEq]; done))) | (refine aW (c2) ?_ ?_; (focus (simp -implicitDefEqProofs (disch := omega) only [Int.reduceToNat, dS, mG, eq_self, decide_true, zdB, go_sem, ↓reduceIte, reduceAdd, reduceSub, reduceMul, reduceLeDiff, reduceLT, reduceEqDiff, reduceNeg, Nat.reduceBEq]; done))) | (refine aW (d1) ?_ ?_; (focus (simp -implicitDefEqProofs (disch := omega) only [Int.reduceToNat, dS, mG, eq_self, decide_true, zdB, go_sem, ↓reduceIte, reduceAdd, reduceSub, reduceMul, reduceLeDiff, reduceLT, reduceEqDiff, reduceNeg, Nat.reduceBEq]; done))) | (refine aW (d2) ?_ ?_; (focus (simp -implicitDefEqProofs (disch := omega) only [Int.reduceToNat, dS, mG, eq_self, decide_true, zdB, go_sem, ↓reduceIte, reduceAdd, reduceSub, reduceMul, reduceLeDiff, reduceLT, reduceEqDiff, reduceNeg, Nat.reduceBEq]; done))) | (refine aW (d3) ?_ ?_; (focus (simp -implicitDefEqProofs (disch := omega) only [Int.reduceToNat, dS, mG, eq_self, decide_true, zdB, go_sem, ↓reduceIte, reduceAdd, reduceSub, reduceMul, reduceLeDiff, reduceLT, reduceEqDiff, reduceNeg, Nat.reduceBEq]; done))) | (refine aW (d4) ?_ ?_; (focus (simp -implicitDefEqProofs (disch := omega) only [Int.reduceToNat, dS, mG, eq_self, decide_true, zdB, go_sem, ↓reduceIte, reduceAdd, reduceSub, reduceMul, reduceLeDiff, reduceLT, reduceEqDiff, reduceNeg, Nat.reduceBEq]; done))) | (refine aW (d5) ?_ ?_; (focus (simp -implicitDefEqProofs (disch := omega) only [Int.reduceToNat, dS, mG, eq_self, decide_true, zdB, go_sem, ↓reduceIte, reduceAdd, reduceSub, reduceMul, reduceLeDiff, reduceLT, reduceEqDiff, reduceNeg, Nat.reduceBEq]; done))) | (refine aW (ca) ?_ ?_; (focus (simp -implicitDefEqProofs (disch := omega) only [Int.reduceToNat, dS, mG, eq_self, decide_true, zdB, go_sem, ↓reduceIte, reduceAdd, reduceSub, reduceMul, reduceLeDiff, reduceLT, reduceEqDiff, reduceNeg, Nat.reduceBEq]; done)))); simp -implicitDefEqProofs (disch := omega) only [Int.reduceToNat, dS, mG, eq_self, decide_true, go_sem, ↓reduceIte, reduceAdd, reduceSub, reduceMul, reduceLeDiff, reduceLT, reduceEqDiff, reduceNeg, Nat.reduceBEq]) | refine aV (by omega) ?_ | (intro hr; have hc := hr; (try simp only [zdz] at hc); simp -implicitDefEqProofs (disch := omega) only [hr, Int.reduceToNat, dS, mG, eq_self, decide_true, go_sem, ↓reduceIte, reduceAdd, reduceSub, reduceMul, reduceLeDiff, reduceLT, reduceEqDiff, reduceNeg, Nat.reduceBEq]; (try clear hr))))
       all_goals exact aE (by cases B <;> rfl) rfl
     · rw [h2] at c2
       simp -implicitDefEqProofs (disch := omega) only [Int.reduceToNat, dS, mG, go_sem, ↓reduceIte, reduceAdd, reduceSub, reduceMul, reduceLeDiff, reduceLT, reduceEqDiff, reduceNeg, Nat.reduceBEq]
       (repeat' (first | refine gT ?_ ?_ | refine gF ?_ ?_ | refine gC ?_ ?_ | ((first | (refine aW (c1) ?_ ?_; (focus (simp -implicitDefEqProofs (disch := omega) only [Int.reduceToNat, dS, mG, zdB, go_sem, ↓reduceIte, reduceAdd, reduceSub, reduceMul, reduceLeDiff, reduceLT, reduceEqDiff, reduceNeg, Nat.reduceBEq]; done))) | (refine aW (c2) ?_ ?_; (focus (simp -implicitDefEqProofs (disch := omega) only [Int.reduceToNat, dS, mG, zdB, go_sem, ↓reduceIte, reduceAdd, reduceSub, reduceMul, reduceLeDiff, reduceLT, reduceEqDiff, reduceNeg, Nat.reduceBEq]; done))) | (refine aW (ca) ?_ ?_; (focus (simp -implicitDefEqProofs (disch := omega) only [Int.reduceToNat, dS, mG, zdB, go_sem, ↓reduceIte, reduceAdd, reduceSub, reduceMul, reduceLeDiff, reduceLT, reduceEqDiff, reduceNeg, Nat.reduceBEq]; done)))); simp -implicitDefEqProofs (disch := omega) only [Int.reduceToNat, dS, mG, go_sem, ↓reduceIte, reduceAdd, reduceSub, reduceMul, reduceLeDiff, reduceLT, reduceEqDiff, reduceNeg, Nat.reduceBEq]) | refine aV (by omega) ?_ | (intro hr; have hc := hr; (try simp only [zdz] at hc); simp -implicitDefEqProofs (disch := omega) only [hr, Int.reduceToNat, dS, mG, go_sem, ↓reduceIte, reduceAdd, reduceSub, reduceMul, reduceLeDiff, reduceLT, reduceEqDiff, reduceNeg, Nat.reduceBEq]; (try clear hr))))
       all_goals exact aE rfl rfl
   · rw [h1] at c1
     simp -implicitDefEqProofs (disch := omega) only [Int.reduceToNat, dS, mG, go_sem, ↓reduceIte, reduceAdd, reduceSub, reduceMul, reduceLeDiff, reduceLT, reduceEqDiff, reduceNeg, Nat.reduceBEq]
     (repeat' (first | refine gT ?_ ?_ | refine gF ?_ ?_ | refine gC ?_ ?_ | ((first | (refine aW (c1) ?_ ?_; (focus (simp -implicitDefEqProofs (disch := omega) only [Int.reduceToNat, dS, mG, zdB, go_sem, ↓reduceIte, reduceAdd, reduceSub, reduceMul, reduceLeDiff, reduceLT, reduceEqDiff, reduceNeg, Nat.reduceBEq]; done))) | (refine aW (ca) ?_ ?_; (focus (simp -implicitDefEqProofs (disch := omega) only [Int.reduceToNat, dS, mG, zdB, go_sem, ↓reduceIte, reduceAdd, reduceSub, reduceMul, reduceLeDiff, reduceLT, reduceEqDiff, reduceNeg, Nat.reduceBEq]; done)))); simp -implicitDefEqProofs (disch := omega) only [Int.reduceToNat, dS, mG, go_sem, ↓reduceIte, reduceAdd, reduceSub, reduceMul, reduceLeDiff, reduceLT, reduceEqDiff, reduceNeg, Nat.reduceBEq]) | refine aV (by omega) ?_ | (intro hr; have hc := hr; (try simp only [zdz] at hc); simp -implicitDefEqProofs (disch := omega) only [hr, Int.reduceToNat, dS, mG, go_sem, ↓reduceIte, reduceAdd, reduceSub, reduceMul, reduceLeDiff, reduceLT, reduceEqDiff, reduceNeg, Nat.reduceBEq]; (try clear hr))))
     all_goals exact aE rfl rfl
end Go.Proofs.YtifefbhllfdmlaaGreatDoor

/-
  What functions of the chapter return, as plain functions of what they are given; no condition beyond those that each theorem names.
-/
import Derived.Test.YtifefbhllfdmlaaGreatDoorVaP46
import Derived.Test.YtifefbhllfdmlaaGreatDoorSoP43
import Derived.Test.YtifefbhllfdmlaaGreatDoorSoP41
import Derived.Test.YtifefbhllfdmlaaGreatDoorVoP49
import Derived.Test.YtifefbhllfdmlaaGreatDoorTeP42
import Derived.Test.YtifefbhllfdmlaaGreatDoorVaP45
import Derived.Test.YtifefbhllfdmlaaGreatDoorVoP48
import Derived.Test.YtifefbhllfdmlaaGreatDoorVaP43
set_option maxRecDepth 100000
set_option linter.unusedSimpArgs false
set_option linter.unusedVariables false
set_option maxHeartbeats 4000000
namespace Go.Proofs.YtifefbhllfdmlaaGreatDoor
open Go Go.Vo Go.Shelf Go.RowKit
open Nat (reduceAdd reduceSub reduceMul reduceLeDiff reduceLT reduceEqDiff)
open Int (reduceNeg)

abbrev TW : TypeId := 235
abbrev TB : TypeId := 5
set_option maxHeartbeats 1000000 in
theorem bOb (b : Nat) (p v : Value) (w : World) (hb : w.heap[b]? = some (.cells #[p, v] TW (0, 0))) (hp : p = .pointer none ∨ p = selfP b) :
   Calls Tryz.prog 266 #[selfP b] w fun e w' => e = .returned (.tuple #[]) ∧ w'.heap[b]? = some (.cells #[selfP b, v] TW (0, 0)) ∧ w.grownBy w' (some b) ∧ w'.heap.size = w.heap.size ∧ Shp w w' := by
 have h0 : w.cell? ⟨b, 0, none⟩ = some p := by rw [Lib.cell_of_heap hb]; rfl
 have hsz : (Tryz.prog.info? 233).map (·.size) = some 2 := by kernel_rfl
 obtain ⟨j, hj, hjs⟩ := bD.1 hsz
 have mixed := mixed
 have t72 := Tryz.underlying233; have a72 := Tryz.isAgg233; have z72 := Tryz.sizeOf233; have v72 := Tryz.zeroValue233; have u72 := run_underlying t72
 have t70 := Tryz.underlying230; have a70 := Tryz.isAgg230; have z70 := Tryz.sizeOf230; have v70 := Tryz.zeroValue230; have u70 := run_underlying t70
 have t4 := Tryz.underlying4; have a4 := Tryz.isAgg4; have z4 := Tryz.sizeOf4; have v4 := Tryz.zeroValue4; have u4 := run_underlying t4
 have t164 := Tryz.underlying300; have a164 := Tryz.isAgg300; have z164 := Tryz.sizeOf300; have v164 := Tryz.zeroValue300; have u164 := run_underlying t164
 unfold selfP at *
 rcases hp with rfl | rfl
 · have hsh : w.shape? b = some (TW, 2) := by simp [World.shape?, hb]
   have hfz : w.frozen? ⟨b, 0, none⟩ = false := Lib.frozen_of_heap hb 0
   have hl : liesAt Tryz.prog Tryz.prog.depth TW (2 / Tryz.prog.cellsOf TW) 0 233 1 = true := by kernel_rfl
   have main : Calls Tryz.prog 266 #[.pointer (some ⟨b, 0, none⟩)] w fun e w' => e = .returned (.tuple #[]) ∧ w' = w.setCell ⟨b, 0, none⟩ (.pointer (some ⟨b, 0, none⟩)) := by
     go_enter Tryz.func266, Tryz.ntmps266
     go_wp2
     rw [Lib.run_to_unsafe w ⟨b, 0, none⟩ t70 t164 hj (by rw [hjs]; decide) hsh (Nat.zero_lt_succ 1)]
     simp only [Result.andThen]
     rw [Oper.upon_value]
     go_wp2
     rw [run_callFunc_extern Tryz.func276 (by kernel_rfl) (by kernel_rfl) (by kernel_rfl) (e := Extern.AbiNoEscape.same) (by kernel_rfl)]
     rw [Lib.run_noEscape]
     simp only [Result.andThen]
     rw [Oper.upon_value]
     go_wp2
     rw [Lib.run_from_unsafe w ⟨b, 0, none⟩ t164 t70 hj hsh hl]
     simp only [Result.andThen]
     rw [Oper.upon_value]
     go_wp2
     go_end0
     exact ⟨rfl, rfl⟩
   refine main.mono ?_
   rintro e w' ⟨rfl, rfl⟩
   refine ⟨rfl, ?_, ⟨rfl, rfl, rfl, by simp [World.setCell], fun k hk hne => ?_⟩, by simp [World.setCell], wU _ _ _⟩
   · simp [World.setCell, iL, hb]
   · exact Below.heap_setCell _ _ _ _ (fun e => hne (by simp [e]))
 · have main : Calls Tryz.prog 266 #[.pointer (some ⟨b, 0, none⟩)] w fun e w' => e = .returned (.tuple #[]) ∧ w' = w := by
     go_enter Tryz.func266, Tryz.ntmps266
     go_wp2
     rw [Lib.run_neq_ptr_same w _ t70 hj]
     go_wp2
     go_end0
     exact ⟨rfl, rfl⟩
   refine main.mono ?_
   rintro e w' ⟨rfl, rfl⟩
   exact ⟨rfl, hb, ⟨rfl, rfl, rfl, bG _, fun _ _ _ => rfl⟩, rfl, Shp.refl _⟩
def bOt : Ren := ⟨fun | 166 => 245 | 240 => 266 | 169 => 220 | n => n, fun | 72 => 233 | 70 => 230 | 37 => 231 | 127 => 264 | 164 => 300 | 75 => 259 | n => n, fun n => n⟩
theorem bQu : bOq Tryz.prog bOt TW := {
 mixed := mixed
 f166 := Tryz.func245.trans (congrArg some (by kernel_rfl))
 e240 := enters_of Tryz.func266 (by kernel_rfl) rfl
 copy := bOb
 t3 := Tryz.underlying3
 a3 := Tryz.isAgg3
 z3 := Tryz.sizeOf3
 v3 := Tryz.zeroValue3
 t4 := Tryz.underlying4
 a4 := Tryz.isAgg4
 z4 := Tryz.sizeOf4
 v4 := Tryz.zeroValue4
 t9 := Tryz.underlying9
 a9 := Tryz.isAgg9
 z9 := Tryz.sizeOf9
 v9 := Tryz.zeroValue9
 t37 := Tryz.underlying231
 a37 := Tryz.isAgg231
 z37 := Tryz.sizeOf231
 v37 := Tryz.zeroValue231
 t70 := Tryz.underlying230
 a70 := Tryz.isAgg230
 z70 := Tryz.sizeOf230
 v70 := Tryz.zeroValue230
 t72 := Tryz.underlying233
 a72 := Tryz.isAgg233
 z72 := Tryz.sizeOf233
 v72 := Tryz.zeroValue233 }
theorem bJu : Builder.Extra Tryz.prog bOt := {
 sizeBuilder := by kernel_rfl
 liesBuilder := by kernel_rfl
 t5 := Tryz.underlying5
 a5 := Tryz.isAgg5
 z5 := Tryz.sizeOf5
 v5 := Tryz.zeroValue5
 infoByte := by kernel_rfl
 cellsByte := by kernel_rfl
 sizeByte := by kernel_rfl
 neB5 := by decide }
abbrev WrP (f : FuncId) (A : List AV) (r : AV) (acc acc' : Str) : Prop := Wr Tryz.prog G0 TW TB f A r acc acc'
theorem wrS {acc s : Str} (h : acc.length + s.length ≤ 140737488355328) : WrP 245 [.ptr 0 0, .s s] (.tup [.i .i64 s.length, .p .nilIface]) acc (acc ++ s) := fun v =>
 (U5 bQu bJu (by decide) (by kernel_rfl) h).mono fun r h' ⟨h1, v', h2⟩ => ⟨h1, v', [], h2⟩
theorem bRr {acc : Str} {v : Value} : ACalls Tryz.prog G0 220 [.ptr 0 0] [pA TW v, rR TB v acc] (fun r h' => r = .s acc ∧ h' = [.dead, .dead]) :=
 J3 (T := TW) (ρ := Tryz.lays169_ren) Tryz.lays169 Tryz.Builder_Extra_169 (by decide) (by kernel_rfl)
end Go.Proofs.YtifefbhllfdmlaaGreatDoor
namespace Go.Proofs.YtifefbhllfdmlaaGreatDoor
open Go Go.Vo
open Nat (reduceAdd reduceSub reduceMul reduceLeDiff reduceLT reduceEqDiff)
open Int (reduceNeg)

abbrev WrK (l' : Str) : AV → List AObj → Prop := fun r h' => r = .tup [] ∧ ∃ v' tl, h' = pA TW v' :: rR TB v' l' :: tl
theorem bCj {v : Value} {l l' : Str} {tl : List AObj} (e : l = l') : WrK l' (.tup []) (pA TW v :: rR TB v l :: tl) := ⟨rfl, v, tl, by rw [e]⟩
abbrev WrT (t : LTerm) : Prop := ∀ acc : Str, acc.length + (kM t).length ≤ 140737488355328 → WrP 219 [.ptr 0 0, elT t] (.tup []) acc (acc ++ kM t)
theorem aWp (t : LTerm) (acc : Str) (v : Value) (ht : OkT t) (hk : t.kind = 1) (hn : lP t.n = true) (hf : acc.length + (kM t).length ≤ 140737488355328): ACalls Tryz.prog G0 219 [.ptr 0 0, elT t] [pA TW v, rR TB v acc] (WrK (acc ++ kM t)) := by
 refine dI (rx := false) (th := fun _ => some ⟨none, [], false, false, true, [], []⟩) mixed Tryz.func219 ?_
 · simp -implicitDefEqProofs (disch := omega) only [Tryz.f219, go_sem, List.replicate, ↓reduceIte, reduceAdd, reduceSub, reduceMul, reduceLeDiff, reduceLT, reduceEqDiff, reduceNeg, Nat.reduceBEq]
   have e := aOn t
   have hl := congrArg List.length e
   rw [if_pos hk] at e hl
   have hi : -2147483647 ≤ t.n ∧ t.n ≤ 2147483647 := by simpa only [lP, aB, decide_eq_true_eq] using hn
   have w1 := wrS (acc := acc) (s := Lib.itoa t.n) (by omega)
   refine zh (zt hk) ?_
   (repeat' (first | refine gT ?_ ?_ | refine gF ?_ ?_ | refine gC ?_ ?_ | ((refine aX (S9 t.n (by omega) (by omega)) ?_ ?_; (focus (simp -implicitDefEqProofs (disch := omega) only [zt hk, zdB, go_sem, ↓reduceIte, reduceAdd, reduceSub, reduceMul, reduceLeDiff, reduceLT, reduceEqDiff, reduceNeg, Nat.reduceBEq]; done))); simp -implicitDefEqProofs (disch := omega) only [zt hk, go_sem, ↓reduceIte, reduceAdd, reduceSub, reduceMul, reduceLeDiff, reduceLT, reduceEqDiff, reduceNeg, Nat.reduceBEq]) | (refine bJn 0 1 g0 (w1) rfl (by decide) rfl rfl (by first | rfl | (simp only [renL, ren, elT, bC, avt, renL_pers _ _ lL, bNj]; done)) ?_; intro v9 g9; simp -implicitDefEqProofs (disch := omega) only [zt hk, go_sem, ↓reduceIte, reduceAdd, reduceSub, reduceMul, reduceLeDiff, reduceLT, reduceEqDiff, reduceNeg, Nat.reduceBEq]) | refine aZ (by omega) ?_ | (intro hr; have hc := hr; (try simp only [zdz] at hc); simp -implicitDefEqProofs (disch := omega) only [hr, zt hk, go_sem, ↓reduceIte, reduceAdd, reduceSub, reduceMul, reduceLeDiff, reduceLT, reduceEqDiff, reduceNeg, Nat.reduceBEq]; (try clear hr))))
   all_goals exact bCj (by rw [e])
theorem bCi (t : LTerm) (ht : OkT t) (hk : t.kind = 1) (hn : lP t.n = true) : WrT t := fun acc hf v => aWp t acc v ht hk hn hf
theorem bNi {N : Nat} : emb [1, 2] N 0 = 1 := rfl
theorem bAm (t : LTerm) (ht : OkT t) (hk : t.kind = 1) (hn : lP t.n = true) (hl : (kM t).length ≤ 140737488355328) : CT 179 [elT t] (.s (kM t)) := by
 have hz0 : (Tryz.prog.info? TW).map (fun i => i.zero.map (·.cells)) = some (some #[.pointer Option.none, P7]) := by kernel_rfl
 obtain ⟨i, hi, hz1⟩ := bD.1 hz0
 obtain ⟨z, hz, hc⟩ := bD.1 hz1
 refine aUh Tryz.func179 rfl (by kernel_rfl) g0 ?_
 refine aWf ?_
 refine rG (rx := false) (th := fun _ => none) mixed _ (ac := ?_) (by kernel_rfl) ?_ _ _ _ ?_
 rotate_left
 · simp only [strip, sF, aIl, RX.off, ckF, ckX, zOf, exd, vOf, cI, mY, dZ, jB, rO, fO, oQ, dG, dE, hC, anyPre, Region.binds, Bool.not_true, Bool.not_false, aP, if_true, if_false, iH, iG, Bool.true_and, Bool.false_and, bS, aY, eP, fG, List.append_nil]
   rfl
 · simp -implicitDefEqProofs (disch := omega) only [Tryz.f179, go_sem, List.replicate, ↓reduceIte, reduceAdd, reduceSub, reduceMul, reduceLeDiff, reduceLT, reduceEqDiff, reduceNeg, Nat.reduceBEq]
   refine aWf (bJw TB rfl rfl hi hz hc ?_)
   refine rG (rx := false) (th := fun _ => none) mixed _ (ac := ?_) (by kernel_rfl) ?_ _ _ _ ?_
   rotate_left
   · simp only [strip, sF, aIl, RX.off, ckF, ckX, zOf, exd, vOf, cI, mY, dZ, jB, rO, fO, oQ, dG, dE, hC, anyPre, Region.binds, Bool.not_true, Bool.not_false, aP, if_true, if_false, iH, iG, Bool.true_and, Bool.false_and, bS, aY, eP, fG, List.append_nil]
     rfl
   · refine zg ?_
     refine bJn 1 2 g0 (bCi t ht hk hn [] (by simpa using hl)) rfl (by decide) rfl rfl (by simp only [renL, ren, elT, bC, avt, renL_pers _ _ lL, bNi]) ?_
     intro v9 g9
     refine zg ?_
     refine bJm 1 2 g0 bRr (by decide) rfl rfl rfl ?_
     refine zg ?_
     exact aE rfl rfl
end Go.Proofs.YtifefbhllfdmlaaGreatDoor
namespace Go.Proofs.YtifefbhllfdmlaaGreatDoor
open Go Go.Vo
open Nat (reduceAdd reduceSub reduceMul reduceLeDiff reduceLT reduceEqDiff)
open Int (reduceNeg)

def bKl : Str := [69, 120, 112]
def bLa : Str := [73, 110, 116]
def aHg : Str := [112, 108, 117, 115]
def aHh : Str := [109, 105, 110, 117, 115]
def sgS : bX := ⟨[bKl], [(bLa, bKl)], [⟨aHg, [aHd, aHd], bKl, [], 0, 0, []⟩, ⟨aHh, [aHd, aHd], bKl, [], 0, 0, []⟩], [], []⟩
def aHu (n : Int) : LTerm := .mk 1 n [] [] [] []
def bBv (x so : Str) : LTerm := .mk 6 0 x so [] []
def bCv (x : Str) (l : List LTerm) : LTerm := .mk 5 0 x [] l []
def xp1 : LTerm := bCv aHg [bBv [88] bLa, aHu 1]
def xp2 : LTerm := bCv aHg [bBv [88] aHd, bBv [89] aHd]
def xp3 : LTerm := bCv aHh [bBv [88] aHd, bBv [89] aHd]
def xt : LTerm := bCv aHg [aHu 2, aHu 1]
def xa : LAsk := ⟨[1], ⟨1, aHu 1, [], 0⟩⟩
def xa0 : LAsk := ⟨[], ⟨2, zT, aHg, 2⟩⟩
def xa1 : LAsk := ⟨[0], ⟨6, zT, bLa, 0⟩⟩
def xa3 : LAsk := ⟨[], ⟨2, zT, aHh, 2⟩⟩
def aUx : List (FuncId × List AV × AV) := [
 (13, [.agg (aO sgS), elT xp1], aDv (M8 sgS xp1)),
 (48, [.agg (aO sgS)], cB sgS),
 (47, [.agg (aO sgS)], .b true),
 (42, [.agg (aO sgS), elT xp1], .b true),
 (42, [.agg (aO sgS), elT xp2], .b true),
 (42, [.agg (aO sgS), elT xp3], .b true),
 (43, [elT xp1], ava (dO xp1 [])),
 (43, [elT xp2], ava (dO xp2 [])),
 (43, [elT xp3], ava (dO xp3 [])),
 (58, [.agg (aO sgS), elT xt], .b true),
 (50, [cB sgS, elT xt], .b true),
 (178, [.i .i64 0], .s [48]),
 (178, [.i .i64 1], .s [49]),
 (178, [.i .i64 2], .s [50]),
 (178, [.i .i64 6], .s [54]),
 (15, [.agg (aO sgS), .agg (aR xa), elT xt], aDo (true, 0)),
 (49, [cB sgS, .agg (aR xa)], .b true),
 (49, [cB sgS, .agg (aR xa0)], .b true),
 (49, [cB sgS, .agg (aR xa1)], .b true),
 (49, [cB sgS, .agg (aR xa3)], .b true),
 (181, [.sl [ava [], ava ((dO xp1 []).drop 1)] 2], ava ((dO xp1 []).drop 1)),
 (181, [.sl [ava [], ava ((dO xp1 []).drop 2)] 2], ava ((dO xp1 []).drop 2)),
 (181, [.sl [ava [], ava []] 2], ava []),
 (179, [elT (aHu 1)], .s (kM (aHu 1)))]
theorem okt {k n : Int} {x so : Str} {ks : List LTerm} (hx : x.length ≤ 100) (hs : so.length ≤ 100) (hn : 0 ≤ n ∧ n ≤ 100) (hk : ks.length ≤ 100) (h : ∀ t ∈ ks, OkT t) : OkT (.mk k n x so ks []) := .mk (by simp only [LTerm.text]; omega) (by simp only [LTerm.sort]; omega) (by simp only [LTerm.n]; omega) (by simp only [LTerm.n]; omega) (by simp only [LTerm.kids]; omega) (by simp [LTerm.rest]) (by simpa [LTerm.kids] using h) (by simp [LTerm.rest])
theorem aKa {n : Int} (h : 0 ≤ n ∧ n ≤ 100) : OkT (aHu n) := okt (by decide) (by decide) h (by decide) (by simp)
theorem aJx {x so : Str} (hx : x.length ≤ 100) (hs : so.length ≤ 100) : OkT (bBv x so) := okt hx hs (by decide) (by decide) (by simp)
theorem aCb {x : Str} {a b : LTerm} (hx : x.length ≤ 100) (ha : OkT a) (hb : OkT b) : OkT (bCv x [a, b]) := okt hx (by decide) (by decide) (by simp) (by
 intro t ht
 rcases bZ.1 ht with rfl | ht
 · exact ha
 · rw [cL] at ht; exact ht ▸ hb)
theorem ok1 : OkT xp1 := aCb (by decide) (aJx (by decide) (by decide)) (aKa (by decide))
theorem ok2 : OkT xp2 := aCb (by decide) (aJx (by decide) (by decide)) (aJx (by decide) (by decide))
theorem ok3 : OkT xp3 := aCb (by decide) (aJx (by decide) (by decide)) (aJx (by decide) (by decide))
theorem okx : OkT xt := aCb (by decide) (aKa (by decide)) (aKa (by decide))
theorem E8 : Small sgS := ⟨by decide, by decide, by decide, by decide, by decide⟩
theorem bEq : cV sgS = true := by kernel_rfl
theorem okK (p : List Int) (te : LTest) (h : OkT te.term) (hx : te.text.length ≤ 100) (hp : p.length ≤ 100) : OkK ⟨p, te⟩ := ⟨⟨h, dU hx (by decide)⟩, dU hp (by decide)⟩
theorem oka : OkK xa := okK _ _ (aKa (by decide)) (by decide) (by decide)
theorem bSd : OkK xa0 := okK _ _ aCa (by decide) (by decide)
theorem bSc : OkK xa1 := okK _ _ aCa (by decide) (by decide)
theorem bSb : OkK xa3 := okK _ _ aCa (by decide) (by decide)
theorem Y3 : OkS sgS := by
 have ho : ∀ x ∈ sgS.ops, OkO x := by
   intro x hx
   simp only [sgS, bZ, List.not_mem_nil, or_false] at hx
   rcases hx with rfl | rfl <;> exact ⟨by decide, by decide, by decide, by decide, by decide, by decide, by decide, by decide, by decide, by decide⟩
 exact ⟨by decide, by decide, by decide, by decide, by decide, ho, by decide, by simp [sgS], by decide, by decide, by decide, by decide⟩
theorem ka1 : CT 13 [.agg (aO sgS), elT xp1] (aDv (M8 sgS xp1)) := bGw sgS xp1 E8 Y3 ok1
theorem ka2 : CT 48 [.agg (aO sgS)] (cB sgS) := S5 sgS E8 (gD bEq)
theorem ka3 : CT 47 [.agg (aO sgS)] (.b true) := bEq ▸ aGh sgS E8 Y3
theorem ka4 : CT 42 [.agg (aO sgS), elT xp1] (.b true) := (by kernel_rfl : P1 sgS xp1 = true) ▸ S7 sgS xp1 E8 Y3 ok1
theorem ka5 : CT 42 [.agg (aO sgS), elT xp2] (.b true) := (by kernel_rfl : P1 sgS xp2 = true) ▸ S7 sgS xp2 E8 Y3 ok2
theorem ka6 : CT 42 [.agg (aO sgS), elT xp3] (.b true) := (by kernel_rfl : P1 sgS xp3 = true) ▸ S7 sgS xp3 E8 Y3 ok3
theorem ka7 : CT 43 [elT xp1] (ava (dO xp1 [])) := S6 xp1 ok1 (by decide) (by decide)
theorem ka8 : CT 43 [elT xp2] (ava (dO xp2 [])) := S6 xp2 ok2 (by decide) (by decide)
theorem ka9 : CT 43 [elT xp3] (ava (dO xp3 [])) := S6 xp3 ok3 (by decide) (by decide)
theorem bSu : CT 58 [.agg (aO sgS), elT xt] (.b true) := (by kernel_rfl : (cV sgS && kA sgS xt) = true) ▸ aLz sgS xt E8 Y3 okx
theorem bSt : CT 50 [cB sgS, elT xt] (.b true) := (by kernel_rfl : kA sgS xt = true) ▸ aMj sgS xt E8 okx
theorem bSs : CT 178 [.i .i64 0] (.s [48]) := (by kernel_rfl : Lib.itoa 0 = [48]) ▸ S9 0 (by decide) (by decide)
theorem bSr : CT 178 [.i .i64 1] (.s [49]) := (by kernel_rfl : Lib.itoa 1 = [49]) ▸ S9 1 (by decide) (by decide)
theorem bSq : CT 178 [.i .i64 2] (.s [50]) := (by kernel_rfl : Lib.itoa 2 = [50]) ▸ S9 2 (by decide) (by decide)
theorem bSp : CT 178 [.i .i64 6] (.s [54]) := (by kernel_rfl : Lib.itoa 6 = [54]) ▸ S9 6 (by decide) (by decide)
theorem bSo : CT 179 [elT (aHu 1)] (.s (kM (aHu 1))) := bAm (aHu 1) (aKa (by decide)) rfl (by decide) (dU (Nat.le_of_eq (by kernel_rfl : (kM (aHu 1)).length = 1)) (by decide))
theorem bSn : CT 15 [.agg (aO sgS), .agg (aR xa), elT xt] (aDo (true, 0)) := (by kernel_rfl : aKu sgS xa xt = (true, 0)) ▸ bGv sgS xa xt E8 Y3 oka okx
theorem bSm : CT 49 [cB sgS, .agg (aR xa)] (.b true) := (by kernel_rfl : eR sgS xa = true) ▸ yA sgS xa oka
theorem bSl : CT 49 [cB sgS, .agg (aR xa0)] (.b true) := (by kernel_rfl : eR sgS xa0 = true) ▸ yA sgS xa0 bSd
theorem bSk : CT 49 [cB sgS, .agg (aR xa1)] (.b true) := (by kernel_rfl : eR sgS xa1 = true) ▸ yA sgS xa1 bSc
theorem bSj : CT 49 [cB sgS, .agg (aR xa3)] (.b true) := (by kernel_rfl : eR sgS xa3 = true) ▸ yA sgS xa3 bSb
theorem bSi : CT 181 [.sl [ava [], ava ((dO xp1 []).drop 1)] 2] (ava ((dO xp1 []).drop 1)) := aLw [[], (dO xp1 []).drop 1] (by decide) (by decide)
theorem bSh : CT 181 [.sl [ava [], ava ((dO xp1 []).drop 2)] 2] (ava ((dO xp1 []).drop 2)) := aLw [[], (dO xp1 []).drop 2] (by decide) (by decide)
theorem bSg : CT 181 [.sl [ava [], ava []] 2] (ava []) := aLw [[], []] (by decide) (by decide)
theorem aKn : aOd Tryz.prog G0 (bLh aUx) := aXc fun e he => by
 simp only [aUx, bZ, List.not_mem_nil, or_false] at he
 rcases he with rfl | rfl | rfl | rfl | rfl | rfl | rfl | rfl | rfl | rfl | rfl | rfl | rfl | rfl | rfl | rfl | rfl | rfl | rfl | rfl | rfl | rfl | rfl | rfl
 all_goals dsimp only
 all_goals first | exact ka1 | exact ka2 | exact ka3 | exact ka4 | exact ka5 | exact ka6 | exact ka7 | exact ka8 | exact ka9 | exact bSu | exact bSt | exact bSs | exact bSr | exact bSq | exact bSp | exact bSo | exact bSn | exact bSm | exact bSl | exact bSk | exact bSj | exact bSi | exact bSh | exact bSg
def bMf : FuncId → How := fun f => if f = 69 then ⟨true, true, fun i => if i = 25 then some ⟨none, [11], true, false, false, [], [101, 109]⟩ else none⟩ else if f = 68 then ⟨false, true, fun i => if i = 15 then some ⟨some 2, [], true, false, false, [], []⟩ else none⟩ else if f = 65 then ⟨true, true, fun i => if i = 6 then some ⟨none, [2], false, false, false, [69, 70, 71], [84, 94]⟩ else none⟩ else if f = 115 then ⟨true, false, fun _ => none⟩ else {}
theorem aPh : [12, 18, 20, 22, 24, 26, 38, 39, 40, 41, 44, 51, 57, 59, 60, 63, 65, 68, 69, 154, 78, 84, 101, 112, 113, 114, 115, 118, 119, 120, 121, 158, 159, 200, 139, 176, 177, 180].all (fun f => bCc Tryz.prog (bMf f).rx (bMf f).th f) = true := by kernel_rfl
theorem bGx : CT 12 [] (.b true) := aXl mixed g0 aKn bMf (bEe aPh) 300 (by kernel_rfl)
end Go.Proofs.YtifefbhllfdmlaaGreatDoor
namespace Go.Proofs.YtifefbhllfdmlaaGreatDoor
open Go Go.Vo
open Nat (reduceAdd reduceSub reduceMul reduceLeDiff reduceLT reduceEqDiff)
open Int (reduceNeg)

theorem bGy (s : bX) (l : List LTerm) (hs : OkS s) (hl : l.length ≤ 1466015503701) (ho : ∀ t ∈ l, OkT t): CT 10 [.agg (aO s), avt l] (.b (few s && aRs 1500 l)) := by
 refine bI mixed Tryz.func10 g0 ?_
 · simp -implicitDefEqProofs (disch := omega) only [Tryz.f10, go_sem, List.replicate, ↓reduceIte, reduceAdd, reduceSub, reduceMul, reduceLeDiff, reduceLT, reduceEqDiff, reduceNeg, Nat.reduceBEq, avt]
   have c1 := bOa s hs
   have c2 := aVx 1500 l hl ho (by decide) (by decide)
   simp only [avt] at c2
   generalize few s = A at *
   generalize aRs 1500 l = B at *
   (refine zt2 c1 c2 ?_; repeat' first | exact trivial | refine zJ ?_ ?_ | refine zH fun hc => ?_)
   all_goals exact aE (by simp_all) rfl
def aWh (a : LAsk) : Nat := 1 + a.path.length + a.test.text.length / 40
def kH : List LAsk → Nat
 | [] => 0
 | a :: l => aWh a + kH l
@[simp] theorem bJy : kH [] = 0 := rfl
theorem D4 : ∀ {l : List LAsk} {k : Nat}, k < l.length → kH (l.take (k + 1)) = kH (l.take k) + aWh (l.getD k default)
 | a :: l, 0, _ => by simp [kH]
 | a :: l, k + 1, h => by
   rw [eM, kH, D4 (k := k) (by simpa using h), eM, kH]; simp; omega
 | [], _, h => by simp at h
theorem aDu : ∀ {l : List LAsk} {k : Nat}, kH (l.take k) ≤ kH l
 | [], k => by simp
 | a :: l, 0 => by simp [kH]
 | a :: l, k + 1 => by rw [eM, kH, kH]; have := aDu (l := l) (k := k); omega
def uH (l : List LAsk) : Bool := (l.all fun a => aRs 100 [a.test.term]) && decide (kH l ≤ 6000)
theorem aVm (l : List LAsk) (hl : l.length ≤ 1000000000000) (hb : kH l ≤ 4611686018427387904) (ho : ∀ a ∈ l, OkX a.test): CT 11 [ava l] (.b (uH l)) := by
 refine bI mixed Tryz.func11 g0 ?_
 · simp -implicitDefEqProofs (disch := omega) only [Tryz.f11, go_sem, List.replicate, ↓reduceIte, reduceAdd, reduceSub, reduceMul, reduceLeDiff, reduceLT, reduceEqDiff, reduceNeg, Nat.reduceBEq, ava]
   (refine zs0 ?_; repeat' first | exact trivial | refine zJ ?_ ?_ | refine zH fun hc => ?_)
   refine dV (fun (k : Nat) => [.k, .k, .j, .v (.i .i64 (kH (l.take k) : Nat)), .k, .j, .k, .k, .v (.i .i64 (k : Nat)), .j, .j, .j, .j, .j, .j, .j, .j, .j, .j, .j, .j, .j, .j, .j, .j, .j, .j, .j, .j, .j, .j, .k, .k]) (fun k => []) (fun k => k ≤ l.length ∧ ∀ j, j < k → aRs 100 [(l.getD j default).test.term] = true) (fun k => l.length - k) (0) [] ⟨aG _, fun j h => by omega⟩ (by simp [avs, avb, avi, avo, bA, aO]) (by simp [eQ]) ?_
   rintro k g j ⟨hk, hn⟩
   have q1 : k < l.length → kH (l.take (k + 1)) ≤ kH l := fun _ => aDu
   have q2 : k < l.length → kH (l.take (k + 1)) = kH (l.take k) + aWh (l.getD k default) := fun h => D4 h
   have c : k < l.length → CT 37 [.i .i64 100, avt [(l.getD k default).test.term]] (.b (aRs 100 [(l.getD k default).test.term])) := fun h => aVx 100 _ (by simp) (by simpa using (ho _ (aV h)).term) (by decide) (by decide)
   simp only [avt, cY, mO, List.append_nil, aK, bJ, dB, bC] at c
   have h40 : ((40 : Int) = 0) = False := eq_false (by decide)
   have hwr : k < l.length → IntKind.i64.wrap (((l.getD k default).test.text.length : Int).tdiv 40) = (((l.getD k default).test.text.length / 40 : Nat) : Int) := fun h => by
     have h1 := (ho _ (aV (d := default) h)).text
     rw [Int.tdiv_eq_ediv_of_nonneg (by omega)]
     rw [wrap64 (by omega) (by omega)]
     omega
   by_cases hlt : k < l.length
   · have w := hwr hlt
     have q3 := q1 hlt
     have q4 := q2 hlt
     unfold aWh at q4
     have hki : (k : Int) < ((l.length : Nat) : Int) := by omega
     simp -implicitDefEqProofs (disch := omega) only [aR, avt, zt hki, h40, w, gP, go_sem, ↓reduceIte, reduceAdd, reduceSub, reduceMul, reduceLeDiff, reduceLT, reduceEqDiff, reduceNeg, Nat.reduceBEq]
     (repeat' (first | refine gT ?_ ?_ | refine gF ?_ ?_ | refine gC ?_ ?_ | ((refine aX ((c hlt)) ?_ ?_; (focus (simp -implicitDefEqProofs (disch := omega) only [aR, avt, zt hki, h40, w, gP, zdB, go_sem, ↓reduceIte, reduceAdd, reduceSub, reduceMul, reduceLeDiff, reduceLT, reduceEqDiff, reduceNeg, Nat.reduceBEq]; done))); simp -implicitDefEqProofs (disch := omega) only [aR, avt, zt hki, h40, w, gP, go_sem, ↓reduceIte, reduceAdd, reduceSub, reduceMul, reduceLeDiff, reduceLT, reduceEqDiff, reduceNeg, Nat.reduceBEq]) | refine aZ (by omega) ?_ | (intro hr; have hc := hr; (try simp only [zdz] at hc); simp -implicitDefEqProofs (disch := omega) only [hr, aR, avt, zt hki, h40, w, gP, go_sem, ↓reduceIte, reduceAdd, reduceSub, reduceMul, reduceLeDiff, reduceLT, reduceEqDiff, reduceNeg, Nat.reduceBEq]; (try clear hr))))
     · exact aE (by
         have : (l.all fun a => aRs 100 [a.test.term]) = false := by
           rw [pX]
           exact ⟨_, aV (d := default) hlt, by rw [hc]; simp⟩
         rw [uH, this, Bool.false_and]) rfl
     · refine ⟨k + 1, _, ⟨by omega, bE hn hc⟩, by omega, rfl, ?_, by simp⟩
       rw [q4]
       congr 1
   · have hki : ¬ (k : Int) < ((l.length : Nat) : Int) := by omega
     have hkt : l.take k = l := aS (by omega)
     have ha : (l.all fun a => aRs 100 [a.test.term]) = true := by
       rw [aU]
       intro x hx
       obtain ⟨j, hj, rfl⟩ := bR.1 hx
       have := hn j (by omega)
       simpa [List.getD, hj] using this
     refine zh (zA2 (zf hki) hkt) ?_
     (refine zx0 (zA2 (zf hki) hkt) ?_; repeat' first | exact trivial | refine zJ ?_ ?_ | refine zH fun hc => ?_)
     exact aE (by rw [uH, ha, Bool.true_and]; exact congrArg AV.b (decide_eq_decide.2 (by constructor <;> intro h <;> omega))) rfl
end Go.Proofs.YtifefbhllfdmlaaGreatDoor
namespace Go.Proofs.YtifefbhllfdmlaaGreatDoor
open Go Go.Vo
open Nat (reduceAdd reduceSub reduceMul reduceLeDiff reduceLT reduceEqDiff)
open Int (reduceNeg)

end Go.Proofs.YtifefbhllfdmlaaGreatDoor
namespace Go.Proofs.YtifefbhllfdmlaaGreatDoor
open Go Go.Vo
open Nat (reduceAdd reduceSub reduceMul reduceLeDiff reduceLT reduceEqDiff)
open Int (reduceNeg)
end Go.Proofs.YtifefbhllfdmlaaGreatDoor
namespace Go.Proofs.YtifefbhllfdmlaaGreatDoor
open Go Go.Vo
open Nat (reduceAdd reduceSub reduceMul reduceLeDiff reduceLT reduceEqDiff)
open Int (reduceNeg)

end Go.Proofs.YtifefbhllfdmlaaGreatDoor
namespace Go.Proofs.YtifefbhllfdmlaaGreatDoor
open Go Go.Vo
open Nat (reduceAdd reduceSub reduceMul reduceLeDiff reduceLT reduceEqDiff)
open Int (reduceNeg)

theorem aVi (l : List LAsk) (f : FuncId) (a b : List AV) (p : LAsk → Bool) (hl : l.length ≤ 1000000) (ha : persL a = true) (hb : persL b = true) (hw : ∀ k, k < l.length → CT f (a ++ [.agg (aR (l.getD k default))] ++ b) (.b (p (l.getD k default)))): CT 63 [ava l, .fn f a b] (.i .i64 (idx p l)) := by
 refine bI mixed Tryz.func63 g0 ?_
 · simp -implicitDefEqProofs (disch := omega) only [Tryz.f63, go_sem, List.replicate, ↓reduceIte, reduceAdd, reduceSub, reduceMul, reduceLeDiff, reduceLT, reduceEqDiff, reduceNeg, Nat.reduceBEq, ava]
   (refine zs0 ?_; repeat' first | exact trivial | refine zJ ?_ ?_ | refine zH fun hc => ?_)
   refine bT (fun (k : Nat) => [.k, .k, .k, .k, .j, .j, .k, .k, .v (.i .i64 (k : Nat)), .j, .j, .j, .j, .j, .j, .j, .j, .j, .j]) (fun k => []) (fun k => k ≤ l.length ∧ ∀ j, j < k → p (l.getD j default) = false) (fun k => l.length - k) (0) ⟨aG _, fun j h => by omega⟩ rfl (by simp [eQ]) ?_
   rintro k j ⟨hk, hn⟩
   refine zg ?_
   (refine zs0 ?_; repeat' first | exact trivial | refine zJ ?_ ?_ | refine zH fun hc => ?_)
   · refine aX (hw k (by omega)) ?_ ?_
     · exact zv (zA2 @aT.{0,0} (zA2 (fun h => nA (h := h) ha) (zA2 (fun h => nA (h := h) hb) (zA2 @aR.eq_1 @avt.eq_1))))
     · refine zg ?_
       (refine zs0 ?_; repeat' first | exact trivial | refine zJ ?_ ?_ | refine zH fun hc => ?_)
       · refine aE ?_ (by rfl)
         rw [kX (d := default) (k := k) (by omega) hc hn]
       · exact ⟨k + 1, ⟨by omega, oN hn hc⟩, by omega, by simp⟩
   · refine aE ?_ (by rfl)
     have h1 : k = l.length := by omega
     rw [kY (h1 ▸ hn)]
theorem aVj (l : List LAsk) (f : FuncId) (a b : List AV) (p : LAsk → Bool) (hl : l.length ≤ 1000000) (ha : persL a = true) (hb : persL b = true) (hw : ∀ k, k < l.length → CT f (a ++ [.agg (aR (l.getD k default))] ++ b) (.b (p (l.getD k default)))): CT 59 [ava l, .fn f a b] (.b (l.any p)) := by
 refine bI mixed Tryz.func59 g0 ?_
 · simp -implicitDefEqProofs (disch := omega) only [Tryz.f59, go_sem, List.replicate, ↓reduceIte, reduceAdd, reduceSub, reduceMul, reduceLeDiff, reduceLT, reduceEqDiff, reduceNeg, Nat.reduceBEq, ava]
   have c := aVi l f a b p hl ha hb hw
   simp only [ava] at c
   refine aX c ?_ ?_
   · exact zv (zA2 ha hb)
   · refine zg ?_
     refine aE ?_ (by rfl)
     rw [pL]
end Go.Proofs.YtifefbhllfdmlaaGreatDoor

/-
  The types of the program, as far as its code asks; no condition.
-/
import Derived.Test.YtifefbhllfdmlaaGreatDoorProg
import Derived.Test.YtifefbhllfdmlaaGreatDoorVoP65
import Derived.Lib.Space
import Derived.Lib.ItoaNum
import Derived.Test.YtifefbhllfdmlaaGreatDoorSoP61
set_option linter.unusedVariables false
set_option maxRecDepth 100000
set_option linter.unusedSimpArgs false
set_option maxHeartbeats 4000000
namespace Go.Proofs.YtifefbhllfdmlaaGreatDoor
open Go Go.Vo
open Nat (reduceAdd reduceSub reduceMul reduceLeDiff reduceLT reduceEqDiff)
open Int (reduceNeg)
theorem mixed : Tryz.prog.follows .mixedOrders = true := by kernel_rfl
def uX : List AV := Lib.asciiSpaceTab.map (.i .u8)
def F7 : List AV := Lib.pow10Tab.map (.i .u64)
def G0 : eX := fun g => if g = 0 then some (.box uX 0) else if g = 2 then some (.box F7 0) else none
theorem g0 : sA G0 := fun k a h => by
 unfold G0 at h
 split at h
 · cases h; simp only [pers, uX, fI]
 · split at h
   · cases h; simp only [pers, F7, fI]
   · cases h
@[go_sem] theorem az3 : jG Tryz.prog 3 = none := by kernel_rfl
@[go_sem] theorem az4 : jG Tryz.prog 4 = none := by kernel_rfl
@[go_sem] theorem az9 : jG Tryz.prog 9 = none := by kernel_rfl
@[go_sem] theorem bUq : jG Tryz.prog 26 = none := by kernel_rfl
@[go_sem] theorem bUp : jG Tryz.prog 30 = none := by kernel_rfl
@[go_sem] theorem bUo : jG Tryz.prog 31 = some 6 := by kernel_rfl
@[go_sem] theorem bUn : jG Tryz.prog 32 = none := by kernel_rfl
@[go_sem] theorem bUm : jG Tryz.prog 35 = none := by kernel_rfl
@[go_sem] theorem bUl : jG Tryz.prog 37 = none := by kernel_rfl
@[go_sem] theorem bUk : jG Tryz.prog 41 = none := by kernel_rfl
@[go_sem] theorem bUj : jG Tryz.prog 87 = none := by kernel_rfl
@[go_sem] theorem bSx : jG Tryz.prog 119 = none := by kernel_rfl
@[go_sem] theorem bSw : jG Tryz.prog 122 = none := by kernel_rfl
@[go_sem] theorem bSv : jG Tryz.prog 124 = none := by kernel_rfl
@[go_sem] theorem bSu : jG Tryz.prog 127 = none := by kernel_rfl
@[go_sem] theorem bSt : jG Tryz.prog 133 = none := by kernel_rfl
@[go_sem] theorem bSs : jG Tryz.prog 135 = none := by kernel_rfl
@[go_sem] theorem bSr : jG Tryz.prog 139 = none := by kernel_rfl
@[go_sem] theorem bSq : jG Tryz.prog 143 = none := by kernel_rfl
@[go_sem] theorem bSp : jG Tryz.prog 167 = none := by kernel_rfl
@[go_sem] theorem bSo : jG Tryz.prog 187 = none := by kernel_rfl
@[go_sem] theorem bSn : jG Tryz.prog 216 = none := by kernel_rfl
@[go_sem] theorem sz3 : jR Tryz.prog 3 = some 1 := by kernel_rfl
@[go_sem] theorem ag3 : fC Tryz.prog 3 = some false := by kernel_rfl
@[go_sem] theorem by3 : aDn Tryz.prog 3 = some 8 := by kernel_rfl
@[go_sem] theorem zo3 : zeroOf Tryz.prog 3 = some [.i .i64 0] := by kernel_rfl
@[go_sem] theorem un3 : Program.underlying Tryz.prog 3 = some (.int .i64) := by kernel_rfl
@[go_sem] theorem sz4 : jR Tryz.prog 4 = some 1 := by kernel_rfl
@[go_sem] theorem ag4 : fC Tryz.prog 4 = some false := by kernel_rfl
@[go_sem] theorem zo4 : zeroOf Tryz.prog 4 = some [.b false] := by kernel_rfl
@[go_sem] theorem zv4 : pO Tryz.prog 4 = some (.b false) := by kernel_rfl
@[go_sem] theorem un4 : Program.underlying Tryz.prog 4 = some .bool := by kernel_rfl
@[go_sem] theorem sz9 : jR Tryz.prog 9 = some 1 := by kernel_rfl
@[go_sem] theorem ag9 : fC Tryz.prog 9 = some false := by kernel_rfl
@[go_sem] theorem by9 : aDn Tryz.prog 9 = some 16 := by kernel_rfl
@[go_sem] theorem zo9 : zeroOf Tryz.prog 9 = some [.s []] := by kernel_rfl
@[go_sem] theorem zv9 : pO Tryz.prog 9 = some (.s []) := by kernel_rfl
@[go_sem] theorem un9 : Program.underlying Tryz.prog 9 = some .string := by kernel_rfl
@[go_sem] theorem bUe : jR Tryz.prog 22 = some 1 := by kernel_rfl
@[go_sem] theorem bVd : fC Tryz.prog 22 = some false := by kernel_rfl
@[go_sem] theorem bTt : zeroOf Tryz.prog 22 = some [.e0] := by kernel_rfl
@[go_sem] theorem bTo : pO Tryz.prog 22 = some (.e0) := by kernel_rfl
@[go_sem] theorem bQi : Program.underlying Tryz.prog 22 = some (.slice 9) := by kernel_rfl
@[go_sem] theorem bAs : eE Tryz.prog 22 = some 9 := by kernel_rfl
@[go_sem] theorem bVc : fC Tryz.prog 23 = some false := by kernel_rfl
@[go_sem] theorem bTx : Program.underlying Tryz.prog 23 = some (.slice 122) := by kernel_rfl
@[go_sem] theorem bVb : fC Tryz.prog 24 = some false := by kernel_rfl
@[go_sem] theorem bTw : Program.underlying Tryz.prog 24 = some (.slice 119) := by kernel_rfl
@[go_sem] theorem bUi : eE Tryz.prog 24 = some 119 := by kernel_rfl
@[go_sem] theorem bUd : jR Tryz.prog 26 = some 5 := by kernel_rfl
@[go_sem] theorem bVa : fC Tryz.prog 26 = some true := by kernel_rfl
@[go_sem] theorem bPn : cZ Tryz.prog 26 0 = some (0, some 1) := by kernel_rfl
@[go_sem] theorem bPm : cZ Tryz.prog 26 1 = some (1, some 1) := by kernel_rfl
@[go_sem] theorem bPl : cZ Tryz.prog 26 2 = some (2, some 1) := by kernel_rfl
@[go_sem] theorem bPk : cZ Tryz.prog 26 3 = some (3, some 1) := by kernel_rfl
@[go_sem] theorem bPj : cZ Tryz.prog 26 4 = some (4, some 1) := by kernel_rfl
@[go_sem] theorem bUz : fC Tryz.prog 27 = some false := by kernel_rfl
@[go_sem] theorem bUc : jR Tryz.prog 28 = some 1 := by kernel_rfl
@[go_sem] theorem bUy : fC Tryz.prog 28 = some false := by kernel_rfl
@[go_sem] theorem bTs : zeroOf Tryz.prog 28 = some [.e0] := by kernel_rfl
@[go_sem] theorem bQf : Program.underlying Tryz.prog 28 = some (.slice 30) := by kernel_rfl
@[go_sem] theorem bPp : eE Tryz.prog 28 = some 30 := by kernel_rfl
@[go_sem] theorem bOh : jR Tryz.prog 30 = some 6 := by kernel_rfl
@[go_sem] theorem bUx : fC Tryz.prog 30 = some true := by kernel_rfl
@[go_sem] theorem bPt : aDn Tryz.prog 30 = some 96 := by kernel_rfl
@[go_sem] theorem bOf : zeroOf Tryz.prog 30 = some [.i .i64 0, .i .i64 0, .s [], .s [], .e0, .e0] := by kernel_rfl
@[go_sem] theorem bPi : cZ Tryz.prog 30 0 = some (0, some 1) := by kernel_rfl
@[go_sem] theorem bPh : cZ Tryz.prog 30 1 = some (1, some 1) := by kernel_rfl
@[go_sem] theorem bPg : cZ Tryz.prog 30 2 = some (2, some 1) := by kernel_rfl
@[go_sem] theorem bPf : cZ Tryz.prog 30 3 = some (3, some 1) := by kernel_rfl
@[go_sem] theorem bPe : cZ Tryz.prog 30 4 = some (4, some 1) := by kernel_rfl
@[go_sem] theorem bPd : cZ Tryz.prog 30 5 = some (5, some 1) := by kernel_rfl
@[go_sem] theorem bUh : hY Tryz.prog 30 = some [(0, 1), (1, 1), (2, 1), (3, 1), (4, 1), (5, 1)] := by kernel_rfl
@[go_sem] theorem bTv : Program.underlying Tryz.prog 31 = some (.array 2 30) := by kernel_rfl
@[go_sem] theorem bUw : fC Tryz.prog 32 = some false := by kernel_rfl
@[go_sem] theorem bTu : Program.underlying Tryz.prog 32 = some (.slice 3) := by kernel_rfl
@[go_sem] theorem bPo : eE Tryz.prog 32 = some 3 := by kernel_rfl
@[go_sem] theorem bUb : jR Tryz.prog 33 = some 1 := by kernel_rfl
@[go_sem] theorem bUv : fC Tryz.prog 33 = some false := by kernel_rfl
@[go_sem] theorem bUa : jR Tryz.prog 35 = some 9 := by kernel_rfl
@[go_sem] theorem bUu : fC Tryz.prog 35 = some true := by kernel_rfl
@[go_sem] theorem bTr : zeroOf Tryz.prog 35 = some [.i .i64 0, .i .i64 0, .i .i64 0, .s [], .s [], .e0, .e0, .s [], .i .i64 0] := by kernel_rfl
@[go_sem] theorem bPc : cZ Tryz.prog 35 0 = some (0, some 1) := by kernel_rfl
@[go_sem] theorem bPb : cZ Tryz.prog 35 1 = some (1, some 6) := by kernel_rfl
@[go_sem] theorem bPa : cZ Tryz.prog 35 2 = some (7, some 1) := by kernel_rfl
@[go_sem] theorem bOz : cZ Tryz.prog 35 3 = some (8, some 1) := by kernel_rfl
@[go_sem] theorem bUg : hY Tryz.prog 35 = some [(0, 1), (1, 6), (7, 1), (8, 1)] := by kernel_rfl
@[go_sem] theorem bKh : jR Tryz.prog 37 = some 10 := by kernel_rfl
@[go_sem] theorem bUt : fC Tryz.prog 37 = some true := by kernel_rfl
@[go_sem] theorem bKr : aDn Tryz.prog 37 = some 152 := by kernel_rfl
@[go_sem] theorem bKe : zeroOf Tryz.prog 37 = some [.e0, .i .i64 0, .i .i64 0, .i .i64 0, .s [], .s [], .e0, .e0, .s [], .i .i64 0] := by kernel_rfl
@[go_sem] theorem bOy : cZ Tryz.prog 37 0 = some (0, some 1) := by kernel_rfl
@[go_sem] theorem bOx : cZ Tryz.prog 37 1 = some (1, some 9) := by kernel_rfl
@[go_sem] theorem bUf : hY Tryz.prog 37 = some [(0, 1), (1, 9)] := by kernel_rfl
@[go_sem] theorem bTz : jR Tryz.prog 41 = some 1 := by kernel_rfl
@[go_sem] theorem bUs : fC Tryz.prog 41 = some false := by kernel_rfl
@[go_sem] theorem bTq : zeroOf Tryz.prog 41 = some [.e0] := by kernel_rfl
@[go_sem] theorem bQe : Program.underlying Tryz.prog 41 = some (.slice 37) := by kernel_rfl
@[go_sem] theorem bKp : eE Tryz.prog 41 = some 37 := by kernel_rfl
@[go_sem] theorem bTy : jR Tryz.prog 87 = some 1 := by kernel_rfl
@[go_sem] theorem bUr : fC Tryz.prog 87 = some false := by kernel_rfl
@[go_sem] theorem bTp : zeroOf Tryz.prog 87 = some [.p (.pointer Option.none)] := by kernel_rfl
@[go_sem] theorem bTl : fC Tryz.prog 116 = some false := by kernel_rfl
@[go_sem] theorem bQq : Program.underlying Tryz.prog 116 = some (.slice 216) := by kernel_rfl
@[go_sem] theorem bTk : fC Tryz.prog 117 = some false := by kernel_rfl
@[go_sem] theorem bQv : jR Tryz.prog 119 = some 7 := by kernel_rfl
@[go_sem] theorem bTj : fC Tryz.prog 119 = some true := by kernel_rfl
@[go_sem] theorem bSm : aDn Tryz.prog 119 = some 120 := by kernel_rfl
@[go_sem] theorem bQc : zeroOf Tryz.prog 119 = some [.s [], .e0, .s [], .e0, .i .i64 0, .i .i64 0, .e0] := by kernel_rfl
@[go_sem] theorem bPw : pO Tryz.prog 119 = some (.agg [.s [], .e0, .s [], .e0, .i .i64 0, .i .i64 0, .e0]) := by kernel_rfl
@[go_sem] theorem bMv : cZ Tryz.prog 119 0 = some (0, some 1) := by kernel_rfl
@[go_sem] theorem bMu : cZ Tryz.prog 119 1 = some (1, some 1) := by kernel_rfl
@[go_sem] theorem bMt : cZ Tryz.prog 119 2 = some (2, some 1) := by kernel_rfl
@[go_sem] theorem bMs : cZ Tryz.prog 119 3 = some (3, some 1) := by kernel_rfl
@[go_sem] theorem bMr : cZ Tryz.prog 119 4 = some (4, some 1) := by kernel_rfl
@[go_sem] theorem bMq : cZ Tryz.prog 119 5 = some (5, some 1) := by kernel_rfl
@[go_sem] theorem bMp : cZ Tryz.prog 119 6 = some (6, some 1) := by kernel_rfl
@[go_sem] theorem bRc : hY Tryz.prog 119 = some [(0, 1), (1, 1), (2, 1), (3, 1), (4, 1), (5, 1), (6, 1)] := by kernel_rfl
@[go_sem] theorem bQu : jR Tryz.prog 122 = some 2 := by kernel_rfl
@[go_sem] theorem bTi : fC Tryz.prog 122 = some true := by kernel_rfl
@[go_sem] theorem bQb : zeroOf Tryz.prog 122 = some [.s [], .s []] := by kernel_rfl
@[go_sem] theorem bMo : cZ Tryz.prog 122 0 = some (0, some 1) := by kernel_rfl
@[go_sem] theorem bMn : cZ Tryz.prog 122 1 = some (1, some 1) := by kernel_rfl
@[go_sem] theorem bLu : gX Tryz.prog 122 = some [9, 9] := by kernel_rfl
@[go_sem] theorem bTh : fC Tryz.prog 124 = some false := by kernel_rfl
@[go_sem] theorem bTg : fC Tryz.prog 127 = some false := by kernel_rfl
@[go_sem] theorem bTf : fC Tryz.prog 133 = some false := by kernel_rfl
@[go_sem] theorem bTe : fC Tryz.prog 135 = some false := by kernel_rfl
@[go_sem] theorem bTd : fC Tryz.prog 136 = some false := by kernel_rfl
@[go_sem] theorem bQp : Program.underlying Tryz.prog 136 = some (.map 9 22) := by kernel_rfl
@[go_sem] theorem bTc : fC Tryz.prog 137 = some false := by kernel_rfl
@[go_sem] theorem bQo : Program.underlying Tryz.prog 137 = some (.map 9 119) := by kernel_rfl
@[go_sem] theorem bQa : zeroOf Tryz.prog 139 = some [.e0, .e0, .e0, .e0, .e0, .p (.map Option.none), .p (.map Option.none), .p (.map Option.none)] := by kernel_rfl
@[go_sem] theorem bMm : cZ Tryz.prog 139 0 = some (0, some 5) := by kernel_rfl
@[go_sem] theorem bMl : cZ Tryz.prog 139 1 = some (5, some 1) := by kernel_rfl
@[go_sem] theorem bMk : cZ Tryz.prog 139 2 = some (6, some 1) := by kernel_rfl
@[go_sem] theorem bMj : cZ Tryz.prog 139 3 = some (7, some 1) := by kernel_rfl
@[go_sem] theorem bRb : hY Tryz.prog 139 = some [(0, 5), (5, 1), (6, 1), (7, 1)] := by kernel_rfl
@[go_sem] theorem bTb : fC Tryz.prog 143 = some false := by kernel_rfl
@[go_sem] theorem bQt : jR Tryz.prog 167 = some 1 := by kernel_rfl
@[go_sem] theorem bTa : fC Tryz.prog 167 = some false := by kernel_rfl
@[go_sem] theorem bPz : zeroOf Tryz.prog 167 = some [.p (.map Option.none)] := by kernel_rfl
@[go_sem] theorem bQn : Program.underlying Tryz.prog 167 = some (.map 9 9) := by kernel_rfl
@[go_sem] theorem bQm : Program.underlying Tryz.prog 175 = some (.map 122 4) := by kernel_rfl
@[go_sem] theorem bQl : Program.underlying Tryz.prog 176 = some (.map 9 4) := by kernel_rfl
@[go_sem] theorem bQk : Program.underlying Tryz.prog 183 = some (.slice 22) := by kernel_rfl
@[go_sem] theorem bSe : eE Tryz.prog 183 = some 22 := by kernel_rfl
@[go_sem] theorem bQs : jR Tryz.prog 187 = some 2 := by kernel_rfl
@[go_sem] theorem bPy : zeroOf Tryz.prog 187 = some [.i .i64 0, .b false] := by kernel_rfl
@[go_sem] theorem bMi : cZ Tryz.prog 187 0 = some (0, some 1) := by kernel_rfl
@[go_sem] theorem bMh : cZ Tryz.prog 187 1 = some (1, some 1) := by kernel_rfl
@[go_sem] theorem bRa : hY Tryz.prog 187 = some [(0, 1), (1, 1)] := by kernel_rfl
@[go_sem] theorem bQj : Program.underlying Tryz.prog 214 = some (.map 3 4) := by kernel_rfl
@[go_sem] theorem bQr : jR Tryz.prog 216 = some 2 := by kernel_rfl
@[go_sem] theorem bSz : fC Tryz.prog 216 = some true := by kernel_rfl
@[go_sem] theorem bPx : zeroOf Tryz.prog 216 = some [.s [], .s []] := by kernel_rfl
@[go_sem] theorem bMg : cZ Tryz.prog 216 0 = some (0, some 1) := by kernel_rfl
@[go_sem] theorem bMf : cZ Tryz.prog 216 1 = some (1, some 1) := by kernel_rfl
@[go_sem] theorem bMe : cZ Tryz.prog 235 0 = some (0, some 2) := by kernel_rfl
@[go_sem] theorem bQh : Program.underlying Tryz.prog 237 = some (.slice 41) := by kernel_rfl
@[go_sem] theorem bQg : Program.underlying Tryz.prog 245 = some (.slice 28) := by kernel_rfl
@[go_sem] theorem bSd : eE Tryz.prog 245 = some 28 := by kernel_rfl
end Go.Proofs.YtifefbhllfdmlaaGreatDoor
namespace Go.Vo
theorem zdA : (∀ l, avs l = .sl (l.map .s) l.length) ∧ (∀ l, avb l = .sl (l.flatMap bW) l.length) ∧ (∀ l, avi l = .sl (l.map (.i .i64)) l.length) ∧ (∀ l, avo l = .sl (l.flatMap bI) l.length) ∧ (∀ s, aN s = [avs s.sorts, avb s.below, avo s.ops, avo s.funs, avs s.values]) ∧ (∀ o, bI o = [.s o.name, avs o.args, .s o.sort, avb o.pieces, .i .i64 o.prec, .i .i64 o.assoc, avi o.strict]) ∧ (∀ b, bW b = [.s b.1, .s b.2]) := ⟨fun _ => rfl, fun _ => rfl, fun _ => rfl, fun _ => rfl, fun _ => rfl, fun _ => rfl, fun _ => rfl⟩
theorem cE {P : Program} {G : eX} {dr : Option DR} {d : Option Nat} {os : List fN} {K : List AV → List AObj → Prop} {env : List AV} {h : List AObj} {f : FuncId} {A A' : List AV} {r : AV} (s : Ctr P G f A' r)
 (k : dA P G dr os K (fW env d (mat r (fH r h A)).1) (mat r (fH r h A)).2) (hA : A.map (gG dep h) = A' := by (simp -implicitDefEqProofs (disch := omega) only [zdA, go_sem, ↓reduceIte, reduceAdd, reduceSub, reduceMul, reduceLeDiff, reduceLT, reduceEqDiff, reduceNeg, Nat.reduceBEq]; done)) : tV P G dr f A d os K env h := aW s hA k
theorem zs1 {K1 : Prop} {p q : Prop} (k1 : K1) (h : q) (e : K1 → Cv q p := by
   intro k1
   repeat' first | with_reducible apply vT | with_reducible apply vF | with_reducible apply vC | ((first | ((with_reducible apply vE); (focus exact k1); (focus (simp -implicitDefEqProofs (disch := omega) only [zdA, go_sem, simprocAttr]; done))) | ((with_reducible apply vE); (focus (apply k1 <;> omega)); (focus (simp -implicitDefEqProofs (disch := omega) only [zdA, go_sem, simprocAttr]; done))) | ((with_reducible apply vR); focus exact k1 ..)); simp -implicitDefEqProofs (disch := omega) only [go_sem, simprocAttr]) | ((with_reducible apply vA); focus omega) | ((with_reducible apply vI); (focus (intro hr; (try simp only [zdz] at hr); exact hr)); intro hr; have hc := hr; (try simp only [zdz] at hc); simp -implicitDefEqProofs (disch := omega) only [hr, go_sem, simprocAttr]; (try clear hr))
   any_goals exact vS) : p := (e k1).1 h
theorem zx1 {K1 : Prop} {x : Prop} {p q : Prop} (X : x) (k1 : K1) (h : q) (e : x → K1 → Cv q p := by
   intro X k1
   repeat' first | with_reducible apply vT | with_reducible apply vF | with_reducible apply vC | ((first | ((with_reducible apply vE); (focus exact k1); (focus (simp -implicitDefEqProofs (disch := omega) only [X, zdA, go_sem, simprocAttr]; done))) | ((with_reducible apply vE); (focus (apply k1 <;> omega)); (focus (simp -implicitDefEqProofs (disch := omega) only [X, zdA, go_sem, simprocAttr]; done))) | ((with_reducible apply vR); focus exact k1 ..)); simp -implicitDefEqProofs (disch := omega) only [X, go_sem, simprocAttr]) | ((with_reducible apply vA); focus omega) | ((with_reducible apply vI); (focus (intro hr; (try simp only [zdz] at hr); exact hr)); intro hr; have hc := hr; (try simp only [zdz] at hc); simp -implicitDefEqProofs (disch := omega) only [hr, X, go_sem, simprocAttr]; (try clear hr))
   any_goals exact vS) : p := (e X k1).1 h
theorem zs2 {K1 : Prop} {K2 : Prop} {p q : Prop} (k1 : K1) (k2 : K2) (h : q) (e : K1 → K2 → Cv q p := by
   intro k1 k2
   repeat' first | with_reducible apply vT | with_reducible apply vF | with_reducible apply vC | ((first | ((with_reducible apply vE); (focus exact k1); (focus (simp -implicitDefEqProofs (disch := omega) only [zdA, go_sem, simprocAttr]; done))) | ((with_reducible apply vE); (focus (apply k1 <;> omega)); (focus (simp -implicitDefEqProofs (disch := omega) only [zdA, go_sem, simprocAttr]; done))) | ((with_reducible apply vR); focus exact k1 ..) | ((with_reducible apply vE); (focus exact k2); (focus (simp -implicitDefEqProofs (disch := omega) only [zdA, go_sem, simprocAttr]; done))) | ((with_reducible apply vE); (focus (apply k2 <;> omega)); (focus (simp -implicitDefEqProofs (disch := omega) only [zdA, go_sem, simprocAttr]; done))) | ((with_reducible apply vR); focus exact k2 ..)); simp -implicitDefEqProofs (disch := omega) only [go_sem, simprocAttr]) | ((with_reducible apply vA); focus omega) | ((with_reducible apply vI); (focus (intro hr; (try simp only [zdz] at hr); exact hr)); intro hr; have hc := hr; (try simp only [zdz] at hc); simp -implicitDefEqProofs (disch := omega) only [hr, go_sem, simprocAttr]; (try clear hr))
   any_goals exact vS) : p := (e k1 k2).1 h
theorem zx2 {K1 : Prop} {K2 : Prop} {x : Prop} {p q : Prop} (X : x) (k1 : K1) (k2 : K2) (h : q) (e : x → K1 → K2 → Cv q p := by
   intro X k1 k2
   repeat' first | with_reducible apply vT | with_reducible apply vF | with_reducible apply vC | ((first | ((with_reducible apply vE); (focus exact k1); (focus (simp -implicitDefEqProofs (disch := omega) only [X, zdA, go_sem, simprocAttr]; done))) | ((with_reducible apply vE); (focus (apply k1 <;> omega)); (focus (simp -implicitDefEqProofs (disch := omega) only [X, zdA, go_sem, simprocAttr]; done))) | ((with_reducible apply vR); focus exact k1 ..) | ((with_reducible apply vE); (focus exact k2); (focus (simp -implicitDefEqProofs (disch := omega) only [X, zdA, go_sem, simprocAttr]; done))) | ((with_reducible apply vE); (focus (apply k2 <;> omega)); (focus (simp -implicitDefEqProofs (disch := omega) only [X, zdA, go_sem, simprocAttr]; done))) | ((with_reducible apply vR); focus exact k2 ..)); simp -implicitDefEqProofs (disch := omega) only [X, go_sem, simprocAttr]) | ((with_reducible apply vA); focus omega) | ((with_reducible apply vI); (focus (intro hr; (try simp only [zdz] at hr); exact hr)); intro hr; have hc := hr; (try simp only [zdz] at hc); simp -implicitDefEqProofs (disch := omega) only [hr, X, go_sem, simprocAttr]; (try clear hr))
   any_goals exact vS) : p := (e X k1 k2).1 h
theorem zs3 {K1 : Prop} {K2 : Prop} {K3 : Prop} {p q : Prop} (k1 : K1) (k2 : K2) (k3 : K3) (h : q) (e : K1 → K2 → K3 → Cv q p := by
   intro k1 k2 k3
   repeat' first | with_reducible apply vT | with_reducible apply vF | with_reducible apply vC | ((first | ((with_reducible apply vE); (focus exact k1); (focus (simp -implicitDefEqProofs (disch := omega) only [zdA, go_sem, simprocAttr]; done))) | ((with_reducible apply vE); (focus (apply k1 <;> omega)); (focus (simp -implicitDefEqProofs (disch := omega) only [zdA, go_sem, simprocAttr]; done))) | ((with_reducible apply vR); focus exact k1 ..) | ((with_reducible apply vE); (focus exact k2); (focus (simp -implicitDefEqProofs (disch := omega) only [zdA, go_sem, simprocAttr]; done))) | ((with_reducible apply vE); (focus (apply k2 <;> omega)); (focus (simp -implicitDefEqProofs (disch := omega) only [zdA, go_sem, simprocAttr]; done))) | ((with_reducible apply vR); focus exact k2 ..) | ((with_reducible apply vE); (focus exact k3); (focus (simp -implicitDefEqProofs (disch := omega) only [zdA, go_sem, simprocAttr]; done))) | ((with_reducible apply vE); (focus (apply k3 <;> omega)); (focus (simp -implicitDefEqProofs (disch := omega) only [zdA, go_sem, simprocAttr]; done))) | ((with_reducible apply vR); focus exact k3 ..)); simp -implicitDefEqProofs (disch := omega) only [go_sem, simprocAttr]) | ((with_reducible apply vA); focus omega) | ((with_reducible apply vI); (focus (intro hr; (try simp only [zdz] at hr); exact hr)); intro hr; have hc := hr; (try simp only [zdz] at hc); simp -implicitDefEqProofs (disch := omega) only [hr, go_sem, simprocAttr]; (try clear hr))
   any_goals exact vS) : p := (e k1 k2 k3).1 h
theorem zx3 {K1 : Prop} {K2 : Prop} {K3 : Prop} {x : Prop} {p q : Prop} (X : x) (k1 : K1) (k2 : K2) (k3 : K3) (h : q) (e : x → K1 → K2 → K3 → Cv q p := by
   intro X k1 k2 k3
   repeat' first | with_reducible apply vT | with_reducible apply vF | with_reducible apply vC | ((first | ((with_reducible apply vE); (focus exact k1); (focus (simp -implicitDefEqProofs (disch := omega) only [X, zdA, go_sem, simprocAttr]; done))) | ((with_reducible apply vE); (focus (apply k1 <;> omega)); (focus (simp -implicitDefEqProofs (disch := omega) only [X, zdA, go_sem, simprocAttr]; done))) | ((with_reducible apply vR); focus exact k1 ..) | ((with_reducible apply vE); (focus exact k2); (focus (simp -implicitDefEqProofs (disch := omega) only [X, zdA, go_sem, simprocAttr]; done))) | ((with_reducible apply vE); (focus (apply k2 <;> omega)); (focus (simp -implicitDefEqProofs (disch := omega) only [X, zdA, go_sem, simprocAttr]; done))) | ((with_reducible apply vR); focus exact k2 ..) | ((with_reducible apply vE); (focus exact k3); (focus (simp -implicitDefEqProofs (disch := omega) only [X, zdA, go_sem, simprocAttr]; done))) | ((with_reducible apply vE); (focus (apply k3 <;> omega)); (focus (simp -implicitDefEqProofs (disch := omega) only [X, zdA, go_sem, simprocAttr]; done))) | ((with_reducible apply vR); focus exact k3 ..)); simp -implicitDefEqProofs (disch := omega) only [X, go_sem, simprocAttr]) | ((with_reducible apply vA); focus omega) | ((with_reducible apply vI); (focus (intro hr; (try simp only [zdz] at hr); exact hr)); intro hr; have hc := hr; (try simp only [zdz] at hc); simp -implicitDefEqProofs (disch := omega) only [hr, X, go_sem, simprocAttr]; (try clear hr))
   any_goals exact vS) : p := (e X k1 k2 k3).1 h
theorem zs4 {K1 : Prop} {K2 : Prop} {K3 : Prop} {K4 : Prop} {p q : Prop} (k1 : K1) (k2 : K2) (k3 : K3) (k4 : K4) (h : q) (e : K1 → K2 → K3 → K4 → Cv q p := by
   intro k1 k2 k3 k4
   repeat' first | with_reducible apply vT | with_reducible apply vF | with_reducible apply vC | ((first | ((with_reducible apply vE); (focus exact k1); (focus (simp -implicitDefEqProofs (disch := omega) only [zdA, go_sem, simprocAttr]; done))) | ((with_reducible apply vE); (focus (apply k1 <;> omega)); (focus (simp -implicitDefEqProofs (disch := omega) only [zdA, go_sem, simprocAttr]; done))) | ((with_reducible apply vR); focus exact k1 ..) | ((with_reducible apply vE); (focus exact k2); (focus (simp -implicitDefEqProofs (disch := omega) only [zdA, go_sem, simprocAttr]; done))) | ((with_reducible apply vE); (focus (apply k2 <;> omega)); (focus (simp -implicitDefEqProofs (disch := omega) only [zdA, go_sem, simprocAttr]; done))) | ((with_reducible apply vR); focus exact k2 ..) | ((with_reducible apply vE); (focus exact k3); (focus (simp -implicitDefEqProofs (disch := omega) only [zdA, go_sem, simprocAttr]; done))) | ((with_reducible apply vE); (focus (apply k3 <;> omega)); (focus (simp -implicitDefEqProofs (disch := omega) only [zdA, go_sem, simprocAttr]; done))) | ((with_reducible apply vR); focus exact k3 ..) | ((with_reducible apply vE); (focus exact k4); (focus (simp -implicitDefEqProofs (disch := omega) only [zdA, go_sem, simprocAttr]; done))) | ((with_reducible apply vE); (focus (apply k4 <;> omega)); (focus (simp -implicitDefEqProofs (disch := omega) only [zdA, go_sem, simprocAttr]; done))) | ((with_reducible apply vR); focus exact k4 ..)); simp -implicitDefEqProofs (disch := omega) only [go_sem, simprocAttr]) | ((with_reducible apply vA); focus omega) | ((with_reducible apply vI); (focus (intro hr; (try simp only [zdz] at hr); exact hr)); intro hr; have hc := hr; (try simp only [zdz] at hc); simp -implicitDefEqProofs (disch := omega) only [hr, go_sem, simprocAttr]; (try clear hr))
   any_goals exact vS) : p := (e k1 k2 k3 k4).1 h
theorem zx4 {K1 : Prop} {K2 : Prop} {K3 : Prop} {K4 : Prop} {x : Prop} {p q : Prop} (X : x) (k1 : K1) (k2 : K2) (k3 : K3) (k4 : K4) (h : q) (e : x → K1 → K2 → K3 → K4 → Cv q p := by
   intro X k1 k2 k3 k4
   repeat' first | with_reducible apply vT | with_reducible apply vF | with_reducible apply vC | ((first | ((with_reducible apply vE); (focus exact k1); (focus (simp -implicitDefEqProofs (disch := omega) only [X, zdA, go_sem, simprocAttr]; done))) | ((with_reducible apply vE); (focus (apply k1 <;> omega)); (focus (simp -implicitDefEqProofs (disch := omega) only [X, zdA, go_sem, simprocAttr]; done))) | ((with_reducible apply vR); focus exact k1 ..) | ((with_reducible apply vE); (focus exact k2); (focus (simp -implicitDefEqProofs (disch := omega) only [X, zdA, go_sem, simprocAttr]; done))) | ((with_reducible apply vE); (focus (apply k2 <;> omega)); (focus (simp -implicitDefEqProofs (disch := omega) only [X, zdA, go_sem, simprocAttr]; done))) | ((with_reducible apply vR); focus exact k2 ..) | ((with_reducible apply vE); (focus exact k3); (focus (simp -implicitDefEqProofs (disch := omega) only [X, zdA, go_sem, simprocAttr]; done))) | ((with_reducible apply vE); (focus (apply k3 <;> omega)); (focus (simp -implicitDefEqProofs (disch := omega) only [X, zdA, go_sem, simprocAttr]; done))) | ((with_reducible apply vR); focus exact k3 ..) | ((with_reducible apply vE); (focus exact k4); (focus (simp -implicitDefEqProofs (disch := omega) only [X, zdA, go_sem, simprocAttr]; done))) | ((with_reducible apply vE); (focus (apply k4 <;> omega)); (focus (simp -implicitDefEqProofs (disch := omega) only [X, zdA, go_sem, simprocAttr]; done))) | ((with_reducible apply vR); focus exact k4 ..)); simp -implicitDefEqProofs (disch := omega) only [X, go_sem, simprocAttr]) | ((with_reducible apply vA); focus omega) | ((with_reducible apply vI); (focus (intro hr; (try simp only [zdz] at hr); exact hr)); intro hr; have hc := hr; (try simp only [zdz] at hc); simp -implicitDefEqProofs (disch := omega) only [hr, X, go_sem, simprocAttr]; (try clear hr))
   any_goals exact vS) : p := (e X k1 k2 k3 k4).1 h
end Go.Vo
namespace Go.Proofs.YtifefbhllfdmlaaGreatDoor
open Go Go.Vo
open Nat (reduceAdd reduceSub reduceMul reduceLeDiff reduceLT reduceEqDiff)
open Int (reduceNeg)
abbrev CT := Ctr Tryz.prog G0

def tF (n : Int) : Bool := decide (97 ≤ n) && decide (n ≤ 122) || decide (65 ≤ n) && decide (n ≤ 90)
def aLr (n : Int) : Bool := decide (48 ≤ n) && decide (n ≤ 57)

theorem bFg (n : Int): CT 137 [.i .u8 n] (.b (tF n)) := by
 refine aF mixed Tryz.func137 g0 ?_
 · skip
   repeat' (first | refine gT ?_ ?_ | refine gF ?_ ?_ | refine gC ?_ ?_ | (intro hc; simp -implicitDefEqProofs only [hc, go_sem]))
   all_goals (refine aE ?_ (by rfl); simp_all [tF] <;> omega)
theorem bFe (n : Int): CT 207 [.i .u8 n] (.b (tF n)) := by
 refine aF mixed Tryz.func207 g0 ?_
 · skip
   repeat' (first | refine gT ?_ ?_ | refine gF ?_ ?_ | refine gC ?_ ?_ | (intro hc; simp -implicitDefEqProofs only [hc, go_sem]))
   all_goals (refine aE ?_ (by rfl); simp_all [tF] <;> omega)
theorem bFd (n : Int): CT 208 [.i .u8 n] (.b (aLr n)) := by
 refine aF mixed Tryz.func208 g0 ?_
 · skip
   repeat' (first | refine gT ?_ ?_ | refine gF ?_ ?_ | refine gC ?_ ?_ | (intro hc; simp -implicitDefEqProofs only [hc, go_sem]))
   all_goals (refine aE ?_ (by rfl); simp_all [aLr] <;> omega)
def part (n : Int) : Bool := tF n || aLr n || decide (n = 95)
theorem bFf (n : Int): CT 138 [.i .u8 n] (.b (part n)) := by
 refine aF mixed Tryz.func138 g0 ?_
 · skip
   repeat' (first | refine gT ?_ ?_ | refine gF ?_ ?_ | refine gC ?_ ?_ | refine aGm (bFg _) ?_; simp -implicitDefEqProofs only [go_sem] | (intro hc; simp -implicitDefEqProofs only [hc, go_sem]))
   all_goals (refine aE ?_ (by rfl); simp_all [part, aLr] <;> omega)

def at_ (s : Str) (k : Nat) : Int := ((s.getD k 0).toNat : Int)
def cY (s : Str) : Bool := !s.isEmpty && decide (s.length ≤ 40) && tF (at_ s 0) && s.all fun c => part c.toNat

theorem aEc {s : Str} {q : Int → Bool} (h : ∀ j, j < s.length → q (at_ s j) = true) : (s.all fun c => q c.toNat) = true := by
 rw [aL]
 intro c hc
 obtain ⟨j, hj, rfl⟩ := bL.1 hc
 have := h j hj
 simpa [at_, hj] using this
theorem kA {s : Str} {q : Int → Bool} {j : Nat} (hj : j < s.length) (h : q (at_ s j) = false) : (s.all fun c => q c.toNat) = false := by
 rw [jD]
 exact ⟨s[j], rZ hj, by simpa [at_, hj] using h⟩

theorem I4 (s : Str) (hs : s.length ≤ 140737488355328): CT 83 [.s s] (.b (cY s)) := by
 refine aF mixed Tryz.func83 g0 ?_
 · skip
   (refine zs1 bFg ?_; repeat' first | exact trivial | refine zJ ?_ ?_ | refine zH fun hc => ?_)
   any_goals (refine aE ?_ (by rfl); simp_all [cY, at_] <;> omega)
   refine bP (fun (k : Nat) => [.k, .k, .j, .j, .k, .k, .k, .k, .k, .k, .k, .k, .k, .k, .k, .k, .k, .k, .k, .v (.i .i64 k), .j, .j, .j, .j, .j, .j, .j, .j]) (fun k => []) (fun k => k ≤ s.length ∧ ∀ j, j < k → part (at_ s j) = true) (fun k => s.length - k) (0) ⟨aG _, fun j h => by omega⟩ rfl (by simp [eN]) ?_
   rintro k j ⟨hk, ha⟩
   refine zg ?_
   (refine zs1 bFf ?_; repeat' first | exact trivial | refine zJ ?_ ?_ | refine zH fun hc => ?_)
   · refine aE ?_ (by rfl)
     simp only [cY, kA (show k < s.length by omega) (by simpa [at_] using hc), Bool.and_false]
   · exact ⟨k + 1, ⟨by omega, aY ha (by simpa [at_] using hc)⟩, by omega, by simp⟩
   · refine aE ?_ (by rfl)
     have h1 : k = s.length := by omega
     simp only [cY, aEc (h1 ▸ ha)]
     simp_all [at_] <;> omega

def aQh (s : Str) (j : Nat) : Bool := tF (at_ s j) || (decide (j ≠ 0) && part (at_ s j))
theorem aKo {s : Str} (h : ∀ j, j < s.length → aQh s j = true) (h1 : 1 ≤ s.length) (h2 : s.length ≤ 40) : cY s = true := by
 have h0 := h 0 (by omega)
 have hp : (s.all fun c => part c.toNat) = true := aEc (fun j hj => by
   have := h j hj
   unfold aQh at this
   simp only [bK, aB] at this
   rcases this with h | h
   · simp [part, h]
   · exact h.2)
 have hl : tF (at_ s 0) = true := by simpa [aQh] using h0
 have hne : s ≠ [] := by intro h; simp [h] at h1
 simp [cY, hp, hl, h2, hne]
theorem Q7 {s : Str} {j : Nat} (hj : j < s.length) (h : aQh s j = false) : cY s = false := by
 unfold aQh at h
 simp only [sB, gJ] at h
 rcases h with ⟨h1, h2 | h2⟩
 · have : j = 0 := by simpa using h2
   subst this
   simp [cY, h1]
 · simp [cY, kA hj h2]

theorem I3 (s : Str) (hs : s.length ≤ 140737488355328): CT 161 [.s s] (.b (cY s)) := by
 refine aF mixed Tryz.func161 g0 ?_
 · skip
   refine bP (fun (k : Nat) => [.k, .k, .j, .j, .k, .k, .v (.i .i64 k), .j, .j, .j, .j, .j, .j, .j, .j, .j, .j, .j, .j, .j, .j, .j, .j, .j, .j, .j, .j, .j, .j, .j, .j, .j, .k, .k, .k, .k, .k, .k, .k, .k]) (fun k => []) (fun k => k ≤ s.length ∧ ∀ j, j < k → aQh s j = true) (fun k => s.length - k) (0) ⟨aG _, fun j h => by omega⟩ rfl (by simp [eN]) ?_
   rintro k j ⟨hk, ha⟩
   refine zg ?_
   (refine zs2 bFe bFd ?_; repeat' first | exact trivial | refine zJ ?_ ?_ | refine zH fun hc => ?_)
   all_goals first | refine Exists.intro (k + 1) ⟨⟨by omega, aY ha (by simp_all [aQh, at_, part] <;> omega)⟩, by omega, by simp⟩ | refine aE ?_ (by rfl)
   · rw [Q7 (j := k) (by omega) (by simp_all [aQh, at_, part] <;> omega)]
   · rw [Q7 (j := k) (by omega) (by simp_all [aQh, at_, part] <;> omega)]
   · have h1 : k = s.length := by omega
     by_cases h2 : s.length ≤ 40
     · rw [aKo (h1 ▸ ha) (by omega) h2]; simp; omega
     · have e1 : cY s = false := by simp [cY, h2]
       rw [e1]; congr 1; symm; simp; omega
   · have : s = [] := List.eq_nil_of_length_eq_zero (by omega)
     simp [this, cY]
def nA (s : Str) : Bool := decide (2 < s.length) && decide (at_ s (s.length - 2) = 39) && decide (49 ≤ at_ s (s.length - 1)) && decide (at_ s (s.length - 1) ≤ 56)
def mJ (s : Str) : Str := if nA s then s.take (s.length - 2) else s
def frame (s : Str) : Str := if nA s then s.drop (s.length - 2) else []
theorem aWm (s : Str) (hs : s.length ≤ 140737488355328): CT 146 [.s s] (.tup [.s (mJ s), .s (frame s)]) := by
 refine aF mixed Tryz.func146 g0 ?_
 · skip
   (refine zs0 ?_; repeat' first | exact trivial | refine zJ ?_ ?_ | refine zH fun hc => ?_)
   all_goals (refine aE ?_ (by rfl))
   · have h : nA s = true := by simp_all [nA, at_] <;> omega
     simp [mJ, frame, h]
   all_goals (have h : nA s = false := by simp_all [nA, at_] <;> omega)
   all_goals simp [mJ, frame, h]
theorem bHy (s : Str) (hs : s.length ≤ 140737488355328): CT 209 [.s s] (.tup [.s (mJ s), .s (frame s)]) := by
 refine aF mixed Tryz.func209 g0 ?_
 · skip
   (refine zs0 ?_; repeat' first | exact trivial | refine zJ ?_ ?_ | refine zH fun hc => ?_)
   all_goals (refine aE ?_ (by rfl))
   · have h : nA s = true := by simp_all [nA, at_] <;> omega
     simp [mJ, frame, h]
   all_goals (have h : nA s = false := by simp_all [nA, at_] <;> omega)
   all_goals simp [mJ, frame, h]
theorem I9 (s : Str) : (mJ s).length ≤ s.length := by unfold mJ; split <;> simp <;> omega
theorem aMe (s : Str) (hs : s.length ≤ 140737488355328): CT 165 [.s s] (.b (cY (mJ s))) := by
 refine aF mixed Tryz.func165 g0 ?_
 · skip
   (repeat' (first | refine gT ?_ ?_ | refine gF ?_ ?_ | refine gC ?_ ?_ | (refine cE (bHy s hs) ?_; simp -implicitDefEqProofs (disch := omega) only [go_sem, simprocAttr]) | (refine aGm (I3 _ (dT (I9 s) hs)) ?_; simp -implicitDefEqProofs (disch := omega) only [go_sem, simprocAttr]) | refine aV (by omega) ?_ | (intro hr; have hc := hr; (try simp only [zdz] at hc); simp -implicitDefEqProofs (disch := omega) only [hr, go_sem, simprocAttr]; (try clear hr))))
   refine aE ?_ (by rfl); rfl
theorem aAd {l : List Str} {s : Str} {k : Nat} (hk : k < l.length) (h : l.getD k [] = s) : l.contains s = true := by
 have h1 : l[k]? = some s := by simpa [List.getD, hk] using h
 simpa using cG h1
theorem P7 {l : List Str} {s : Str} (h : ∀ j, j < l.length → l.getD j [] ≠ s) : l.contains s = false := by
 have : s ∉ l := by
   intro hm
   obtain ⟨j, hj, he⟩ := bL.1 hm
   exact h j hj (by simp [List.getD, hj, he])
 simpa using this
theorem wI (l : List Str) (s : Str) (hl : l.length ≤ 140737488355328): CT 162 [avs l, .s s] (.b (l.contains s)) := by
 refine bM mixed Tryz.func162 g0 ?_
 · simp -implicitDefEqProofs (disch := omega) only [Tryz.f162, go_sem, List.replicate, simprocAttr, avs]
   refine bP (fun (k : Nat) => [.k, .k, .k, .k, .j, .k, .j, .k, .k, .v (.i .i64 k), .j, .j, .j, .j, .j, .j, .j]) (fun k => []) (fun k => k ≤ l.length ∧ ∀ j, j < k → l.getD j [] ≠ s) (fun k => l.length - k) (0) ⟨aG _, fun j h => by omega⟩ rfl (by simp [eN]) ?_
   rintro k j ⟨hk, ha⟩
   refine zg ?_
   (refine zs0 ?_; repeat' first | exact trivial | refine zJ ?_ ?_ | refine zH fun hc => ?_)
   · refine aE ?_ (by rfl)
     rw [aAd (k := k) (by omega) (by assumption)]
   · exact ⟨k + 1, ⟨by omega, aY ha (by assumption)⟩, by omega, by simp⟩
   · refine aE ?_ (by rfl)
     have h1 : k = l.length := by omega
     rw [P7 (h1 ▸ ha)]

def fJ : List Str := [[65, 110, 121], [73, 110, 116], [66, 111, 111, 108], [84, 101, 120, 116], [73, 100], [76, 105, 115, 116], [77, 97, 112]]
theorem bFr : CT 85 [] (.own 1 (fJ.map .s) fJ.length) := by
 refine aF mixed Tryz.func85 g0 ?_
 · skip
   exact H6 rfl rfl rfl rfl rfl
def nG : List Str := [[65, 110, 121], [66, 111, 111, 108], [73, 100], [73, 110, 116], [76, 105, 115, 116], [77, 97, 112], [84, 101, 120, 116]]
theorem bAu : CT 163 [] (.own 1 (nG.map .s) nG.length) := by
 refine aF mixed Tryz.func163 g0 ?_
 · skip
   exact H6 rfl rfl rfl rfl rfl

def idx {α : Type} (p : α → Bool) (l : List α) : Int := match l.findIdx? p with | some i => i | none => -1
theorem mP {α : Type} {p : α → Bool} {l : List α} {d : α} {k : Nat} (hk : k < l.length) (h : p (l.getD k d) = true) (hn : ∀ j, j < k → p (l.getD j d) = false) : idx p l = k := by
 have : l.findIdx? p = some k := by
   rw [fM]
   refine ⟨hk, by simpa [List.getD, hk] using h, fun j hj => ?_⟩
   have := hn j hj
   simpa [List.getD, show j < l.length by omega] using this
 simp [idx, this]
theorem mQ {α : Type} {p : α → Bool} {l : List α} {d : α} (hn : ∀ j, j < l.length → p (l.getD j d) = false) : idx p l = -1 := by
 have : l.findIdx? p = none := by
   rw [eC]
   intro x hx
   obtain ⟨j, hj, rfl⟩ := bL.1 hx
   have := hn j hj
   simpa [List.getD, hj] using this
 simp [idx, this]
theorem pY {α : Type} {p : α → Bool} {l : List α} : decide (0 ≤ idx p l) = l.any p := by
 unfold idx
 cases h : l.findIdx? p with
 | none =>
   rw [eC] at h
   have : l.any p = false := by rw [jC]; intro x hx; simp [h x hx]
   rw [this]; rfl
 | some i =>
   rw [fM] at h
   obtain ⟨hi, hp, _⟩ := h
   have : l.any p = true := mW.2 ⟨_, rZ hi, hp⟩
   rw [this]; simp
theorem bIu (l : List Str) (s : Str) (hl : l.length ≤ 140737488355328): CT 139 [avs l, .s s] (.i .i64 (idx (fun x => decide (s = x)) l)) := by
 refine bM mixed Tryz.func139 g0 ?_
 · simp -implicitDefEqProofs (disch := omega) only [Tryz.f139, go_sem, List.replicate, simprocAttr, avs]
   refine bP (fun (k : Nat) => [.k, .k, .k, .k, .j, .j, .k, .k, .v (.i .i64 k), .j, .j, .j, .j, .j, .j, .j, .j, .j, .j]) (fun k => []) (fun k => k ≤ l.length ∧ ∀ j, j < k → decide (s = l.getD j []) = false) (fun k => l.length - k) (0) ⟨aG _, fun j h => by omega⟩ rfl (by simp [eN]) ?_
   rintro k j ⟨hk, ha⟩
   refine zg ?_
   (refine zs0 ?_; repeat' first | exact trivial | refine zJ ?_ ?_ | refine zH fun hc => ?_)
   · refine aE ?_ (by rfl)
     rw [mP (d := []) (k := k) (by omega) (by simpa using hc) ha]
   · exact ⟨k + 1, ⟨by omega, aY ha (by simpa using hc)⟩, by omega, by simp⟩
   · refine aE ?_ (by rfl)
     have h1 : k = l.length := by omega
     rw [mQ (h1 ▸ ha)]
theorem Q9 {s : Str} {l : List Str} : decide (0 ≤ idx (fun x => decide (s = x)) l) = l.contains s := by
 rw [pY, List.contains_eq_any_beq]
 congr 1
 funext x
 exact cA.2 (by simp)
theorem A6 (l : List Str) (s : Str) (hl : l.length ≤ 140737488355328): CT 84 [avs l, .s s] (.b (l.contains s)) := by
 refine bM mixed Tryz.func84 g0 ?_
 · simp -implicitDefEqProofs (disch := omega) only [Tryz.f84, go_sem, List.replicate, simprocAttr, avs]
   (refine zs1 (bIu l s hl) ?_; repeat' first | exact trivial | refine zJ ?_ ?_ | refine zH fun hc => ?_)
   refine aE ?_ (by rfl)
   rw [Q9]
theorem aBe {l m : List Str} (hl : l.length = m.length) (h : ∀ j, j < l.length → l.getD j [] = m.getD j []) : l = m := by
 apply L6 hl
 intro j h1 h2
 have := h j h1
 simpa [List.getD, h1, h2] using this
theorem bFk (l m : List Str) (hl : l.length ≤ 140737488355328) (hm : m.length ≤ 140737488355328): CT 212 [avs l, avs m] (.b (decide (l = m))) := by
 refine bM mixed Tryz.func212 g0 ?_
 · simp -implicitDefEqProofs (disch := omega) only [Tryz.f212, go_sem, List.replicate, simprocAttr, avs]
   (refine zs0 ?_; repeat' first | exact trivial | refine zJ ?_ ?_ | refine zH fun hc => ?_)
   · refine aE ?_ (by rfl)
     have : l ≠ m := fun h => hc (by rw [h])
     rw [zf this]
   refine bP (fun (k : Nat) => [.k, .k, .k, .k, .j, .j, .k, .k, .k, .k, .k, .k, .k, .v (.i .i64 k), .j, .j, .j, .j, .j, .j, .j, .j, .j, .j, .j, .j]) (fun k => []) (fun k => k ≤ l.length ∧ ∀ j, j < k → l.getD j [] = m.getD j []) (fun k => l.length - k) (0) ⟨aG _, fun j h => by omega⟩ rfl (by simp [eN]) ?_
   rintro k j ⟨hk, ha⟩
   refine zg ?_
   (refine zs0 ?_; repeat' first | exact trivial | refine zJ ?_ ?_ | refine zH fun hc => ?_)
   · refine aE ?_ (by rfl)
     have : l ≠ m := fun h => by simp [h] at *
     rw [zf this]
   · exact ⟨k + 1, ⟨by omega, aY ha (by simpa using hc)⟩, by omega, by simp⟩
   · refine aE ?_ (by rfl)
     have : l = m := aBe (by omega) (fun j hj => ha j (by omega))
     rw [zt this]
theorem bFi (l m : List Str) (hl : l.length ≤ 140737488355328) (hm : m.length ≤ 140737488355328): CT 199 [avs l, avs m] (.b (decide (l = m))) := by
 refine bM mixed Tryz.func199 g0 ?_
 · simp -implicitDefEqProofs (disch := omega) only [Tryz.f199, go_sem, List.replicate, simprocAttr, avs]
   (refine zs0 ?_; repeat' first | exact trivial | refine zJ ?_ ?_ | refine zH fun hc => ?_)
   · refine aE ?_ (by rfl)
     have : l ≠ m := fun h => hc (by rw [h])
     rw [zf this]
   refine bP (fun (k : Nat) => [.k, .k, .k, .k, .j, .j, .k, .k, .k, .k, .k, .k, .k, .v (.i .i64 k), .j, .j, .j, .j, .j, .j, .j, .j, .j, .j, .j, .j]) (fun k => []) (fun k => k ≤ l.length ∧ ∀ j, j < k → l.getD j [] = m.getD j []) (fun k => l.length - k) (0) ⟨aG _, fun j h => by omega⟩ rfl (by simp [eN]) ?_
   rintro k j ⟨hk, ha⟩
   refine zg ?_
   (refine zs0 ?_; repeat' first | exact trivial | refine zJ ?_ ?_ | refine zH fun hc => ?_)
   · refine aE ?_ (by rfl)
     have : l ≠ m := fun h => by simp [h] at *
     rw [zf this]
   · exact ⟨k + 1, ⟨by omega, aY ha (by simpa using hc)⟩, by omega, by simp⟩
   · refine aE ?_ (by rfl)
     have : l = m := aBe (by omega) (fun j hj => ha j (by omega))
     rw [zt this]
theorem aBy {l : List Str} {k : Nat} (hn : l.Nodup) (hk : k < l.length) : (l.take k).contains (l.getD k []) = false := by
 have : l.getD k [] ∉ l.take k := by
   intro hm
   obtain ⟨j, hj, he⟩ := bL.1 hm

   have := (dY.1 hn) j k (by simp at hj; omega) hk (by simp at hj; omega)
   simp [List.getD, hk] at he
   exact this he
 simpa using this
theorem aBx {l : List Str} (h : ∀ j, j < l.length → (l.take j).contains (l.getD j []) = false) : l.Nodup := by
 refine dY.2 (fun i j hi hj hij he => ?_)
 have := h j hj
 have hm : l.getD j [] ∈ l.take j := by
   rw [bL]
   exact ⟨i, by simp; omega, by simp [List.getD, hj, he]⟩
 have h2 : (l.take j).contains (l.getD j []) = true := by simpa using hm
 rw [h2] at this; cases this
theorem aRw (l : List Str) (hl : l.length ≤ 140737488355328): CT 106 [avs l] (.b (decide l.Nodup)) := by
 refine bM mixed Tryz.func106 g0 ?_
 · simp -implicitDefEqProofs (disch := omega) only [Tryz.f106, go_sem, List.replicate, simprocAttr, avs]
   refine bP (fun (k : Nat) => [.k, .k, .j, .j, .k, .k, .v (.i .i64 k), .j, .j, .j, .j, .j, .j, .j, .j, .j, .j, .j]) (fun k => []) (fun k => k ≤ l.length ∧ ∀ j, j < k → (l.take j).contains (l.getD j []) = false) (fun k => l.length - k) (0) ⟨aG _, fun j h => by omega⟩ rfl (by simp [eN]) ?_
   rintro k j ⟨hk, ha⟩
   refine zg ?_
   (refine zs1 (wI (l.take k) (l.getD k []) (by simp; omega)) ?_; repeat' first | exact trivial | refine zJ ?_ ?_ | refine zH fun hc => ?_)
   · refine aE ?_ (by rfl)
     rw [zf (fun hn => by rw [aBy hn (by omega)] at hc; cases hc)]
   · exact ⟨k + 1, ⟨by omega, aY ha hc⟩, by omega, by simp⟩
   · refine aE ?_ (by rfl)
     have h1 : k = l.length := by omega
     rw [zt (aBx (h1 ▸ ha))]

def gL : List Str := [[97, 100, 100], [97, 110, 100], [99, 97, 116], [100, 101, 108], [100, 105, 118], [101, 113], [103, 101], [103, 101, 116], [103, 116], [104, 97, 115], [105, 115], [105, 115, 118, 97, 108, 117, 101], [106, 111, 105, 110], [107, 101, 121, 115], [108, 101], [108, 101, 110, 103, 116, 104], [108, 116], [109, 111, 100], [109, 117, 108], [110, 101], [110, 101, 103], [110, 111, 116], [111, 114], [112, 105, 99, 107], [112, 117, 116], [115, 105, 122, 101], [115, 117, 98], [116, 101, 120, 116]]
theorem bNa : CT 210 [] (.own 1 (gL.map .s) gL.length) := by
 refine aF mixed Tryz.func210 g0 ?_
 · skip
   exact H6 rfl rfl rfl rfl rfl
theorem bAw (s : Str): CT 166 [.s s] (.b (gL.contains s)) := by
 refine aF mixed Tryz.func166 g0 ?_
 · skip
   (refine zs2 bNa (wI gL s (by decide)) ?_; repeat' first | exact trivial | refine zJ ?_ ?_ | refine zH fun hc => ?_)
   refine aE ?_ (by rfl)
   rfl
def gO (s : cC) (a : Str) : Bool := nG.contains a || s.sorts.contains a
theorem aGh (s : cC) (a : Str) (hs : s.sorts.length ≤ 140737488355328): CT 105 [.agg (aN s), .s a] (.b (gO s a)) := by
 refine bM mixed Tryz.func105 g0 ?_
 · simp -implicitDefEqProofs (disch := omega) only [Tryz.f105, go_sem, List.replicate, simprocAttr, aN, avs]
   (refine zs3 bAu (wI nG a (by decide)) (wI s.sorts a hs) ?_; repeat' first | exact trivial | refine zJ ?_ ?_ | refine zH fun hc => ?_)
   all_goals (refine aE ?_ (by rfl))
   all_goals simp_all [gO]

theorem aQa : ∀ {l : List AV}, persL l = true → ∀ x ∈ l, pers x = true := by
 intro l h x hx
 obtain ⟨j, hj, rfl⟩ := bL.1 hx
 exact gV h j _ (by simp [hj])
theorem nN {h : List AObj} {l : List AV} (hl : persL l = true) : l.map (gG dep h) = l := by
 have : l.map (gG dep h) = l.map id := jO (fun x hx => by rw [iT, if_pos (aQa hl x hx)]; rfl)
 rw [this, List.map_id]
theorem bIf (l : List Str) (f : FuncId) (a b : List AV) (p : Str → Bool) (hl : l.length ≤ 140737488355328) (ha : persL a = true) (hb : persL b = true) (hw : ∀ k, k < l.length → CT f (a ++ [.s (l.getD k [])] ++ b) (.b (p (l.getD k [])))): CT 193 [avs l, .fn f a b] (.i .i64 (idx p l)) := by
 refine bM mixed Tryz.func193 g0 ?_
 · simp -implicitDefEqProofs (disch := omega) only [Tryz.f193, go_sem, List.replicate, simprocAttr, avs]
   refine bP (fun (k : Nat) => [.k, .k, .k, .k, .j, .j, .k, .k, .v (.i .i64 k), .j, .j, .j, .j, .j, .j, .j, .j, .j, .j]) (fun k => []) (fun k => k ≤ l.length ∧ ∀ j, j < k → p (l.getD j []) = false) (fun k => l.length - k) (0) ⟨aG _, fun j h => by omega⟩ rfl (by simp [eN]) ?_
   rintro k j ⟨hk, hn⟩
   refine zg ?_
   (refine zs0 ?_; repeat' first | exact trivial | refine zJ ?_ ?_ | refine zH fun hc => ?_)
   · refine aW (hw k (by omega)) ?_ ?_
     · exact zv (zA2 @aT.{0,0} (zA2 (fun h => nN (h := h) ha) (fun h => nN (h := h) hb)))
     · refine zg ?_
       (refine zs0 ?_; repeat' first | exact trivial | refine zJ ?_ ?_ | refine zH fun hc => ?_)
       · refine aE ?_ (by rfl)
         rw [mP (d := []) (k := k) (by omega) hc hn]
       · exact ⟨k + 1, ⟨by omega, aY hn hc⟩, by omega, by simp⟩
   · refine aE ?_ (by rfl)
     have h1 : k = l.length := by omega
     rw [mQ (h1 ▸ hn)]
theorem bIt (l : List Str) (f : FuncId) (a b : List AV) (p : Str → Bool) (hl : l.length ≤ 140737488355328) (ha : persL a = true) (hb : persL b = true) (hw : ∀ k, k < l.length → CT f (a ++ [.s (l.getD k [])] ++ b) (.b (p (l.getD k [])))): CT 140 [avs l, .fn f a b] (.b (l.any p)) := by
 refine bM mixed Tryz.func140 g0 ?_
 · simp -implicitDefEqProofs (disch := omega) only [Tryz.f140, go_sem, List.replicate, simprocAttr, avs]
   refine aW (bIf l f a b p hl ha hb hw) ?_ ?_
   · exact zv (zA2 @avs.eq_1 (zA2 ha hb))
   · refine zg ?_
     refine aE ?_ (by rfl)
     rw [pY]

theorem bIs (x : Str) (f : FuncId) (a b : List AV) (p : Bool) (ha : persL a = true) (hb : persL b = true) (hw : CT f (a ++ [.s x] ++ b) (.b p)): CT 141 [.s x, .box [.fn f a b] 0] (.b (!p)) := by
 refine aF mixed Tryz.func141 g0 ?_
 · skip
   refine aW hw ?_ ?_
   · exact zv (zA2 @aT.{0,0} (zA2 (fun h => nN (h := h) ha) (fun h => nN (h := h) hb)))
   · refine zg ?_
     refine aE ?_ (by rfl)
     rfl
theorem aRx (l : List Str) (f : FuncId) (a b : List AV) (p : Str → Bool) (hl : l.length ≤ 140737488355328) (ha : persL a = true) (hb : persL b = true) (hw : ∀ k, k < l.length → CT f (a ++ [.s (l.getD k [])] ++ b) (.b (p (l.getD k [])))): CT 86 [avs l, .fn f a b] (.b (l.all p)) := by
 refine bM mixed Tryz.func86 g0 ?_
 · simp -implicitDefEqProofs (disch := omega) only [Tryz.f86, go_sem, List.replicate, ↓reduceIte, reduceAdd, reduceSub, reduceMul, reduceLeDiff, reduceLT, reduceEqDiff, reduceNeg, Nat.reduceBEq, avs]
   refine aW (bIt l 141 [] [.box [.fn f a b] 0] (fun x => !p x) hl rfl (by simp [persL, pers, ha, hb]) (fun k hk => bIs _ f a b _ ha hb (hw k hk))) ?_ ?_
   · exact zv (zA2 @avs.eq_1 (zA2 ha hb))
   · refine zh (zA2 ha hb) ?_
     refine aE ?_ (by rfl)
     rw [oZ]

theorem bNm (s : Str) (hs : s.length ≤ 140737488355328): CT 82 [.s s] (.b (cY s && !fJ.contains s)) := by
 refine aF mixed Tryz.func82 g0 ?_
 · skip
   (refine zs3 (I4 s hs) bFr (A6 fJ s (by decide)) ?_; repeat' first | exact trivial | refine zJ ?_ ?_ | refine zH fun hc => ?_)
   all_goals (refine aE ?_ (by rfl))
   all_goals simp_all

theorem E5 {P : Program} {T : TypeId} (hT : P.underlying T = some .string) {x : Str} : ∀ (l : List Str), dQ P T (.s x) (l.map .s) = some (l.findIdx? fun y => decide (x = y))
 | [] => rfl
 | y :: l => by
   simp only [aU, dQ, aEq, iP, hT, E5 hT l, iK]
   cases h : decide (x = y) <;> simp
theorem qS {x : Str} {l : List Str} (h : l.contains x = false) : (l.findIdx? fun y => decide (x = y)) = none := by
 rw [eC]
 intro y hy
 have : x ∉ l := by simpa using h
 simp only [decide_eq_false_iff_not]
 exact fun he => this (he ▸ hy)
theorem aOb (x : Str) (l : List Str) : dQ Tryz.prog 9 (.s x) (l.map .s) = some (l.findIdx? fun y => decide (x = y)) := E5 un9 l
theorem aAc {x : Str} {l : List Str} (h : l.contains x = true) : ∃ i, i < l.length ∧ (l.findIdx? fun y => decide (x = y)) = some i := by
 cases hf : l.findIdx? fun y => decide (x = y) with
 | none =>
   rw [eC] at hf
   have hm : x ∈ l := by simpa using h
   have := hf x hm
   simp at this
 | some i =>
   rw [fM] at hf
   exact ⟨i, hf.1, rfl⟩
theorem aHq {l : List Str} {k : Nat} (h : k < l.length) : l.take (k + 1) = l.take k ++ [l.getD k []] := by
 rw [pK h]; simp [List.getD, h]
theorem X4 {n i : Nat} {a : AV} (h : i < n) : (List.replicate n a)[i]? = some a := by simp [h]
theorem bAv (l : List Str) (hl : l.length ≤ 140737488355328): CT 81 [avs l] (.b (decide l.Nodup)) := by
 refine bM mixed Tryz.func81 g0 ?_
 · simp -implicitDefEqProofs (disch := omega) only [Tryz.f81, go_sem, List.replicate, simprocAttr, avs]
   refine bP (fun (k : Nat) => [.k, .k, .j, .k, .k, .j, .k, .k, .k, .v (.i .i64 k), .j, .j, .j, .j, .j, .j, .j, .j, .j]) (fun k => [.map false ((l.take k).map .s) (List.replicate k (.b true))]) (fun k => k ≤ l.length ∧ ∀ j, j < k → (l.take j).contains (l.getD j []) = false) (fun k => l.length - k) (0) ⟨aG _, fun j h => by omega⟩ rfl (by simp [eN]) ?_
   rintro k j ⟨hk, ha⟩
   refine zg ?_
   (refine zs0 ?_; repeat' first | exact trivial | refine zJ ?_ ?_ | refine zH fun hc => ?_)
   · by_cases hx : (l.take k).contains (l.getD k []) = true
     · obtain ⟨i, hi, hf⟩ := aAc hx
       have hi' : i < k := by simp at hi; omega
       simp -implicitDefEqProofs (disch := omega) only [lU, aOb, hf, X4 hi', go_sem, simprocAttr]
       refine aE ?_ (by rfl)
       rw [zf (fun hn => by rw [aBy hn (by omega)] at hx; cases hx)]
     · have hx := fF.2 hx
       simp -implicitDefEqProofs (disch := omega) only [lU, aOb, qS hx, go_sem, simprocAttr]
       refine ⟨k + 1, ⟨by omega, aY ha hx⟩, by omega, ?_, by simp⟩
       rw [aHq (by omega), aT, aHc]; rfl
   · refine aE ?_ (by rfl)
     have h1 : k = l.length := by omega
     rw [zt (aBx (h1 ▸ ha))]

def elB (x : Str × Str) : AV := .agg (bW x)
def elO (x : LOp) : AV := .agg (bI x)
attribute [go_sem] elB elO
theorem bId (l : List (Str × Str)) (f : FuncId) (a b : List AV) (p : Str × Str → Bool) (hl : l.length ≤ 140737488355328) (ha : persL a = true) (hb : persL b = true) (hw : ∀ k, k < l.length → CT f (a ++ [elB (l.getD k ([], []))] ++ b) (.b (p (l.getD k ([], []))))): CT 194 [avb l, .fn f a b] (.i .i64 (idx p l)) := by
 refine aF mixed Tryz.func194 g0 ?_
 · skip
   refine bP (fun (k : Nat) => [.k, .k, .k, .k, .j, .j, .k, .k, .v (.i .i64 k), .j, .j, .j, .j, .j, .j, .j, .j, .j, .j]) (fun k => []) (fun k => k ≤ l.length ∧ ∀ j, j < k → p (l.getD j ([], [])) = false) (fun k => l.length - k) (0) ⟨aG _, fun j h => by omega⟩ rfl (by simp [eN]) ?_
   rintro k j ⟨hk, hn⟩
   refine zg ?_
   (refine zs0 ?_; repeat' first | exact trivial | refine zJ ?_ ?_ | refine zH fun hc => ?_)
   · refine aW (hw k (by omega)) ?_ ?_
     · exact zv (zA2 @aT.{0,0} (zA2 (fun h => nN (h := h) ha) (fun h => nN (h := h) hb)))
     · refine zg ?_
       (refine zs0 ?_; repeat' first | exact trivial | refine zJ ?_ ?_ | refine zH fun hc => ?_)
       · refine aE ?_ (by rfl)
         rw [mP (d := ([], [])) (k := k) (by omega) hc hn]
       · exact ⟨k + 1, ⟨by omega, aY hn hc⟩, by omega, by simp⟩
   · refine aE ?_ (by rfl)
     have h1 : k = l.length := by omega
     rw [mQ (h1 ▸ hn)]
theorem bIc (l : List (LOp)) (f : FuncId) (a b : List AV) (p : LOp → Bool) (hl : l.length ≤ 140737488355328) (ha : persL a = true) (hb : persL b = true) (hw : ∀ k, k < l.length → CT f (a ++ [elO (l.getD k default)] ++ b) (.b (p (l.getD k default)))): CT 195 [avo l, .fn f a b] (.i .i64 (idx p l)) := by
 refine aF mixed Tryz.func195 g0 ?_
 · skip
   refine bP (fun (k : Nat) => [.k, .k, .k, .k, .j, .j, .k, .k, .v (.i .i64 k), .j, .j, .j, .j, .j, .j, .j, .j, .j, .j]) (fun k => []) (fun k => k ≤ l.length ∧ ∀ j, j < k → p (l.getD j default) = false) (fun k => l.length - k) (0) ⟨aG _, fun j h => by omega⟩ rfl (by simp [eN]) ?_
   rintro k j ⟨hk, hn⟩
   refine zg ?_
   (refine zs0 ?_; repeat' first | exact trivial | refine zJ ?_ ?_ | refine zH fun hc => ?_)
   · refine aW (hw k (by omega)) ?_ ?_
     · exact zv (zA2 @aT.{0,0} (zA2 (fun h => nN (h := h) ha) (fun h => nN (h := h) hb)))
     · refine zg ?_
       (refine zs0 ?_; repeat' first | exact trivial | refine zJ ?_ ?_ | refine zH fun hc => ?_)
       · refine aE ?_ (by rfl)
         rw [mP (d := default) (k := k) (by omega) hc hn]
       · exact ⟨k + 1, ⟨by omega, aY hn hc⟩, by omega, by simp⟩
   · refine aE ?_ (by rfl)
     have h1 : k = l.length := by omega
     rw [mQ (h1 ▸ hn)]
theorem bHw (l : List (Int)) (f : FuncId) (a b : List AV) (p : Int → Bool) (hl : l.length ≤ 140737488355328) (ha : persL a = true) (hb : persL b = true) (hw : ∀ k, k < l.length → CT f (a ++ [.i .i64 (l.getD k 0)] ++ b) (.b (p (l.getD k 0)))): CT 153 [avi l, .fn f a b] (.i .i64 (idx p l)) := by
 refine aF mixed Tryz.func153 g0 ?_
 · skip
   refine bP (fun (k : Nat) => [.k, .k, .k, .k, .j, .j, .k, .k, .v (.i .i64 k), .j, .j, .j, .j, .j, .j, .j, .j, .j, .j]) (fun k => []) (fun k => k ≤ l.length ∧ ∀ j, j < k → p (l.getD j 0) = false) (fun k => l.length - k) (0) ⟨aG _, fun j h => by omega⟩ rfl (by simp [eN]) ?_
   rintro k j ⟨hk, hn⟩
   refine zg ?_
   (refine zs0 ?_; repeat' first | exact trivial | refine zJ ?_ ?_ | refine zH fun hc => ?_)
   · refine aW (hw k (by omega)) ?_ ?_
     · exact zv (zA2 @aT.{0,0} (zA2 (fun h => nN (h := h) ha) (fun h => nN (h := h) hb)))
     · refine zg ?_
       (refine zs0 ?_; repeat' first | exact trivial | refine zJ ?_ ?_ | refine zH fun hc => ?_)
       · refine aE ?_ (by rfl)
         rw [mP (d := 0) (k := k) (by omega) hc hn]
       · exact ⟨k + 1, ⟨by omega, aY hn hc⟩, by omega, by simp⟩
   · refine aE ?_ (by rfl)
     have h1 : k = l.length := by omega
     rw [mQ (h1 ▸ hn)]

theorem bIp (l : List (Str × Str)) (f : FuncId) (a b : List AV) (p : Str × Str → Bool) (hl : l.length ≤ 140737488355328) (ha : persL a = true) (hb : persL b = true) (hw : ∀ k, k < l.length → CT f (a ++ [elB (l.getD k ([], []))] ++ b) (.b (p (l.getD k ([], []))))): CT 142 [avb l, .fn f a b] (.b (l.any p)) := by
 refine aF mixed Tryz.func142 g0 ?_
 · skip
   refine aW (bId l f a b p hl ha hb hw) ?_ ?_
   · exact zv (zA2 ha hb)
   · refine zg ?_
     refine aE ?_ (by rfl)
     rw [pY]
theorem bIn (l : List (LOp)) (f : FuncId) (a b : List AV) (p : LOp → Bool) (hl : l.length ≤ 140737488355328) (ha : persL a = true) (hb : persL b = true) (hw : ∀ k, k < l.length → CT f (a ++ [elO (l.getD k default)] ++ b) (.b (p (l.getD k default)))): CT 144 [avo l, .fn f a b] (.b (l.any p)) := by
 refine aF mixed Tryz.func144 g0 ?_
 · skip
   refine aW (bIc l f a b p hl ha hb hw) ?_ ?_
   · exact zv (zA2 ha hb)
   · refine zg ?_
     refine aE ?_ (by rfl)
     rw [pY]
theorem bIb (l : List (Int)) (f : FuncId) (a b : List AV) (p : Int → Bool) (hl : l.length ≤ 140737488355328) (ha : persL a = true) (hb : persL b = true) (hw : ∀ k, k < l.length → CT f (a ++ [.i .i64 (l.getD k 0)] ++ b) (.b (p (l.getD k 0)))): CT 96 [avi l, .fn f a b] (.b (l.any p)) := by
 refine aF mixed Tryz.func96 g0 ?_
 · skip
   refine aW (bHw l f a b p hl ha hb hw) ?_ ?_
   · exact zv (zA2 ha hb)
   · refine zg ?_
     refine aE ?_ (by rfl)
     rw [pY]

theorem bIo (x : Str × Str) (f : FuncId) (a b : List AV) (p : Bool) (ha : persL a = true) (hb : persL b = true) (hw : CT f (a ++ [elB x] ++ b) (.b p)): CT 143 [elB x, .box [.fn f a b] 0] (.b (!p)) := by
 refine aF mixed Tryz.func143 g0 ?_
 · skip
   refine aW hw ?_ ?_
   · exact zv (zA2 @aT.{0,0} (zA2 (fun h => nN (h := h) ha) (fun h => nN (h := h) hb)))
   · refine zg ?_
     refine aE ?_ (by rfl)
     rfl
theorem bIm (x : LOp) (f : FuncId) (a b : List AV) (p : Bool) (ha : persL a = true) (hb : persL b = true) (hw : CT f (a ++ [elO x] ++ b) (.b p)): CT 145 [elO x, .box [.fn f a b] 0] (.b (!p)) := by
 refine aF mixed Tryz.func145 g0 ?_
 · skip
   refine aW hw ?_ ?_
   · exact zv (zA2 @aT.{0,0} (zA2 (fun h => nN (h := h) ha) (fun h => nN (h := h) hb)))
   · refine zg ?_
     refine aE ?_ (by rfl)
     rfl
theorem bIa (x : Int) (f : FuncId) (a b : List AV) (p : Bool) (ha : persL a = true) (hb : persL b = true) (hw : CT f (a ++ [.i .i64 x] ++ b) (.b p)): CT 197 [.i .i64 x, .box [.fn f a b] 0] (.b (!p)) := by
 refine aF mixed Tryz.func197 g0 ?_
 · skip
   refine aW hw ?_ ?_
   · exact zv (zA2 @aT.{0,0} (zA2 (fun h => nN (h := h) ha) (fun h => nN (h := h) hb)))
   · refine zg ?_
     refine aE ?_ (by rfl)
     rfl

theorem bNl (l : List (Str × Str)) (f : FuncId) (a b : List AV) (p : Str × Str → Bool) (hl : l.length ≤ 140737488355328) (ha : persL a = true) (hb : persL b = true) (hw : ∀ k, k < l.length → CT f (a ++ [elB (l.getD k ([], []))] ++ b) (.b (p (l.getD k ([], []))))): CT 88 [avb l, .fn f a b] (.b (l.all p)) := by
 refine aF mixed Tryz.func88 g0 ?_
 · skip
   refine aW (bIp l 143 [] [.box [.fn f a b] 0] (fun x => !p x) hl rfl (by simp [persL, pers, ha, hb]) (fun k hk => bIo _ f a b _ ha hb (hw k hk))) ?_ ?_
   · exact zv (zA2 ha hb)
   · refine zh (zA2 ha hb) ?_
     refine aE ?_ (by rfl)
     rw [oZ]
theorem bFm (l : List (LOp)) (f : FuncId) (a b : List AV) (p : LOp → Bool) (hl : l.length ≤ 140737488355328) (ha : persL a = true) (hb : persL b = true) (hw : ∀ k, k < l.length → CT f (a ++ [elO (l.getD k default)] ++ b) (.b (p (l.getD k default)))): CT 91 [avo l, .fn f a b] (.b (l.all p)) := by
 refine aF mixed Tryz.func91 g0 ?_
 · skip
   refine aW (bIn l 145 [] [.box [.fn f a b] 0] (fun x => !p x) hl rfl (by simp [persL, pers, ha, hb]) (fun k hk => bIm _ f a b _ ha hb (hw k hk))) ?_ ?_
   · exact zv (zA2 ha hb)
   · refine zh (zA2 ha hb) ?_
     refine aE ?_ (by rfl)
     rw [oZ]
theorem bIk (l : List (Int)) (f : FuncId) (a b : List AV) (p : Int → Bool) (hl : l.length ≤ 140737488355328) (ha : persL a = true) (hb : persL b = true) (hw : ∀ k, k < l.length → CT f (a ++ [.i .i64 (l.getD k 0)] ++ b) (.b (p (l.getD k 0)))): CT 149 [avi l, .fn f a b] (.b (l.all p)) := by
 refine aF mixed Tryz.func149 g0 ?_
 · skip
   refine aW (bIb l 197 [] [.box [.fn f a b] 0] (fun x => !p x) hl rfl (by simp [persL, pers, ha, hb]) (fun k hk => bIa _ f a b _ ha hb (hw k hk))) ?_ ?_
   · exact zv (zA2 ha hb)
   · refine zh (zA2 ha hb) ?_
     refine aE ?_ (by rfl)
     rw [oZ]

theorem rY {α : Type} [DecidableEq α] {P : Program} {T : TypeId} {el : α → AV} (hT : ∀ x y, aEq P T (el x) (el y) = some (decide (x = y))) {x : α} : ∀ (l : List α), dQ P T (el x) (l.map el) = some (l.findIdx? fun y => decide (x = y))
 | [] => rfl
 | y :: l => by
   simp only [aU, dQ, hT, rY hT l, iK]
   cases h : decide (x = y) <;> simp
theorem bOt (x : Str × Str) (l : List (Str × Str)) : dQ Tryz.prog 122 (elB x) (l.map elB) = some (l.findIdx? fun y => decide (x = y)) := rY (fun x y => by
 simp only [elB, bW, aEq, bLu, fQ, iP, un9, aA]
 rw [cA]; simp [Prod.ext_iff]) l
theorem bOs (x : Int) (l : List Int) : dQ Tryz.prog 3 (.i .i64 x) (l.map (.i .i64)) = some (l.findIdx? fun y => decide (x = y)) := rY (fun x y => by
 simp [aEq, iP, un3]) l
theorem lW {α : Type} [BEq α] [LawfulBEq α] [DecidableEq α] {x : α} {l : List α} (h : l.contains x = false) : (l.findIdx? fun y => decide (x = y)) = none := by
 rw [eC]
 intro y hy
 have : x ∉ l := by simpa using h
 simp only [decide_eq_false_iff_not]
 exact fun he => this (he ▸ hy)
theorem vZ {α : Type} [BEq α] [LawfulBEq α] [DecidableEq α] {x : α} {l : List α} (h : l.contains x = true) : ∃ i, i < l.length ∧ (l.findIdx? fun y => decide (x = y)) = some i := by
 cases hf : l.findIdx? fun y => decide (x = y) with
 | none =>
   rw [eC] at hf
   have hm : x ∈ l := by simpa using h
   have := hf x hm
   simp at this
 | some i =>
   rw [fM] at hf
   exact ⟨i, hf.1, rfl⟩
theorem lS {α : Type} [BEq α] [LawfulBEq α] [DecidableEq α] {l : List α} {k : Nat} {d : α} (hn : l.Nodup) (hk : k < l.length) : (l.take k).contains (l.getD k d) = false := by
 have : l.getD k d ∉ l.take k := by
   intro hm
   obtain ⟨j, hj, he⟩ := bL.1 hm
   have := (dY.1 hn) j k (by simp at hj; omega) hk (by simp at hj; omega)
   simp [List.getD, hk] at he
   exact this he
 simpa using this
theorem tC {α : Type} [BEq α] [LawfulBEq α] [DecidableEq α] {l : List α} {d : α} (h : ∀ j, j < l.length → (l.take j).contains (l.getD j d) = false) : l.Nodup := by
 refine dY.2 (fun i j hi hj hij he => ?_)
 have := h j hj
 have hm : l.getD j d ∈ l.take j := by
   rw [bL]
   exact ⟨i, by simp; omega, by simp [List.getD, hj, he]⟩
 have h2 : (l.take j).contains (l.getD j d) = true := by simpa using hm
 rw [h2] at this; cases this

theorem bNn (l : List (Str × Str)) (hl : l.length ≤ 140737488355328): CT 80 [avb l] (.b (decide l.Nodup)) := by
 refine aF mixed Tryz.func80 g0 ?_
 · skip
   refine eJ (fun (k : Nat) => [.k, .k, .j, .k, .k, .j, .k, .k, .k, .v (.i .i64 k), .j, .j, .j, .j, .j, .j, .j, .j, .j]) (fun k => [.map false ((l.take k).map elB) (List.replicate k (.b true))]) (fun k => k ≤ l.length ∧ ∀ j, j < k → (l.take j).contains (l.getD j ([], [])) = false) (fun k => l.length - k) (0) _ ⟨aG _, fun j h => by omega⟩ rfl (by simp [eN]) ?_
   rintro k g j ⟨hk, ha⟩
   refine zg ?_
   (refine zs0 ?_; repeat' first | exact trivial | refine zJ ?_ ?_ | refine zH fun hc => ?_)
   · by_cases hx : (l.take k).contains (l.getD k ([], [])) = true
     · obtain ⟨i, hi, hf⟩ := vZ hx
       have hi' : i < k := by simp at hi; omega
       have hk2 := bOt (l.getD k ([], [])) (l.take k)
       simp only [elB, bW] at hk2
       simp -implicitDefEqProofs (disch := omega) only [lU, hk2, hf, X4 hi', go_sem, simprocAttr]
       refine aE ?_ (by rfl)
       rw [zf (fun hn => by rw [lS hn (by omega)] at hx; cases hx)]
     · have hx := fF.2 hx
       have hk2 := bOt (l.getD k ([], [])) (l.take k)
       simp only [elB, bW] at hk2
       refine zh (zA2 @lU.eq_1 (zA2 hk2 (lW hx))) ?_
       refine ⟨k + 1, _, ⟨by omega, aY ha hx⟩, by omega, congr (congrArg List.cons ?_) rfl, by simp⟩
       rw [eU (d := ([], [])) (by omega), aT, aHc]; rfl
   · refine aE ?_ (by rfl)
     have h1 : k = l.length := by omega
     rw [zt (tC (h1 ▸ ha))]
theorem bIj (l : List Int) (hl : l.length ≤ 140737488355328): CT 150 [avi l] (.b (decide l.Nodup)) := by
 refine aF mixed Tryz.func150 g0 ?_
 · skip
   refine bP (fun (k : Nat) => [.k, .k, .j, .k, .k, .j, .k, .k, .k, .v (.i .i64 k), .j, .j, .j, .j, .j, .j, .j, .j, .j]) (fun k => [.map false ((l.take k).map (.i .i64)) (List.replicate k (.b true))]) (fun k => k ≤ l.length ∧ ∀ j, j < k → (l.take j).contains (l.getD j 0) = false) (fun k => l.length - k) (0) ⟨aG _, fun j h => by omega⟩ rfl (by simp [eN]) ?_
   rintro k j ⟨hk, ha⟩
   refine zg ?_
   (refine zs0 ?_; repeat' first | exact trivial | refine zJ ?_ ?_ | refine zH fun hc => ?_)
   · by_cases hx : (l.take k).contains (l.getD k 0) = true
     · obtain ⟨i, hi, hf⟩ := vZ hx
       have hi' : i < k := by simp at hi; omega
       simp -implicitDefEqProofs (disch := omega) only [lU, bOs, hf, X4 hi', go_sem, simprocAttr]
       refine aE ?_ (by rfl)
       rw [zf (fun hn => by rw [lS hn (by omega)] at hx; cases hx)]
     · have hx := fF.2 hx
       simp -implicitDefEqProofs (disch := omega) only [lU, bOs, lW hx, go_sem, simprocAttr]
       refine ⟨k + 1, ⟨by omega, aY ha hx⟩, by omega, ?_, by simp⟩
       rw [eU (d := 0) (by omega), aT, aHc]; rfl
   · refine aE ?_ (by rfl)
     have h1 : k = l.length := by omega
     rw [zt (tC (h1 ▸ ha))]

def mx : Nat := 140737488355328
structure OkO (o : LOp) : Prop where
 name : o.name.length ≤ 140737488355328
 args : o.args.length ≤ 140737488355328
 argsS : ∀ x ∈ o.args, x.length ≤ 140737488355328
 sort : o.sort.length ≤ 140737488355328
 pieces : o.pieces.length ≤ 140737488355328
 piecesS : ∀ x ∈ o.pieces, x.1.length ≤ 140737488355328 ∧ x.2.length ≤ 140737488355328
 strict : o.strict.length ≤ 140737488355328
 piecesT : o.pieces.length ≤ 4398046511104
 argsT : o.args.length ≤ 8796093022208
 strictT : o.strict.length ≤ 17592186044416
structure OkS (s : cC) : Prop where
 sorts : s.sorts.length ≤ 140737488355328
 sortsS : ∀ x ∈ s.sorts, x.length ≤ 140737488355328
 below : s.below.length ≤ 140737488355328
 belowS : ∀ x ∈ s.below, x.1.length ≤ 140737488355328 ∧ x.2.length ≤ 140737488355328
 ops : s.ops.length ≤ 140737488355328
 opsO : ∀ x ∈ s.ops, OkO x
 funs : s.funs.length ≤ 140737488355328
 funsO : ∀ x ∈ s.funs, OkO x
 values : s.values.length ≤ 140737488355328
 opsT : s.ops.length ≤ 1172812402961
 funsT : s.funs.length ≤ 1172812402961
 valuesS : ∀ x ∈ s.values, x.length ≤ 140737488355328
theorem bB {α : Type} {l : List α} {d : α} {k : Nat} (h : k < l.length) : l.getD k d ∈ l := by simp [List.getD, h]

end Go.Proofs.YtifefbhllfdmlaaGreatDoor

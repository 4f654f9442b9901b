/-
  The types of the program, as far as its code asks; no condition.
-/
import Derived.Test.YtifefbhllfdmlaaGreatDoorProg
import Derived.Test.YtifefbhllfdmlaaGreatDoorVoP44
import Derived.Lib.Space
import Derived.Lib.ItoaNum
set_option linter.unusedVariables false
set_option linter.unusedSimpArgs false
set_option maxRecDepth 100000
set_option maxHeartbeats 4000000
namespace Go.Proofs.YtifefbhllfdmlaaGreatDoor
open Go Go.Vo
open Nat (reduceAdd reduceSub reduceMul reduceLeDiff reduceLT reduceEqDiff)
open Int (reduceNeg)
theorem mixed : Tryz.prog.follows .mixedOrders = true := by kernel_rfl
def uI : List AV := Lib.asciiSpaceTab.map (.i .u8)
def F6 : List AV := Lib.pow10Tab.map (.i .u64)
def G0 : eW := fun g => if g = 0 then some (.box uI 0) else if g = 2 then some (.box F6 0) else none
theorem g0 : qZ G0 := fun k a h => by
 unfold G0 at h
 split at h
 · cases h; simp only [pers, uI, fP]
 · split at h
   · cases h; simp only [pers, F6, fP]
   · cases h
@[go_sem] theorem az3 : iP Tryz.prog 3 = none := by kernel_rfl
@[go_sem] theorem az4 : iP Tryz.prog 4 = none := by kernel_rfl
@[go_sem] theorem az9 : iP Tryz.prog 9 = none := by kernel_rfl
@[go_sem] theorem bWa : iP Tryz.prog 26 = none := by kernel_rfl
@[go_sem] theorem bVz : iP Tryz.prog 30 = none := by kernel_rfl
@[go_sem] theorem bVy : iP Tryz.prog 32 = none := by kernel_rfl
@[go_sem] theorem bVx : iP Tryz.prog 35 = none := by kernel_rfl
@[go_sem] theorem bVw : iP Tryz.prog 37 = none := by kernel_rfl
@[go_sem] theorem bVv : iP Tryz.prog 41 = none := by kernel_rfl
@[go_sem] theorem bVu : iP Tryz.prog 56 = none := by kernel_rfl
@[go_sem] theorem bVt : iP Tryz.prog 87 = none := by kernel_rfl
@[go_sem] theorem bUb : iP Tryz.prog 100 = none := by kernel_rfl
@[go_sem] theorem bUa : iP Tryz.prog 102 = none := by kernel_rfl
@[go_sem] theorem bTz : iP Tryz.prog 104 = none := by kernel_rfl
@[go_sem] theorem bTy : iP Tryz.prog 119 = none := by kernel_rfl
@[go_sem] theorem bTx : iP Tryz.prog 122 = none := by kernel_rfl
@[go_sem] theorem bTw : iP Tryz.prog 124 = none := by kernel_rfl
@[go_sem] theorem bTv : iP Tryz.prog 127 = none := by kernel_rfl
@[go_sem] theorem bTu : iP Tryz.prog 133 = none := by kernel_rfl
@[go_sem] theorem bTt : iP Tryz.prog 135 = none := by kernel_rfl
@[go_sem] theorem bTs : iP Tryz.prog 139 = none := by kernel_rfl
@[go_sem] theorem bTr : iP Tryz.prog 143 = none := by kernel_rfl
@[go_sem] theorem bTq : iP Tryz.prog 167 = none := by kernel_rfl
@[go_sem] theorem bTp : iP Tryz.prog 187 = none := by kernel_rfl
@[go_sem] theorem bTo : iP Tryz.prog 216 = none := by kernel_rfl
@[go_sem] theorem sz3 : jA Tryz.prog 3 = some 1 := by kernel_rfl
@[go_sem] theorem ag3 : eO Tryz.prog 3 = some false := by kernel_rfl
@[go_sem] theorem by3 : aDm Tryz.prog 3 = some 8 := by kernel_rfl
@[go_sem] theorem zo3 : zeroOf Tryz.prog 3 = some [.i .i64 0] := by kernel_rfl
@[go_sem] theorem un3 : Program.underlying Tryz.prog 3 = some (.int .i64) := by kernel_rfl
@[go_sem] theorem sz4 : jA Tryz.prog 4 = some 1 := by kernel_rfl
@[go_sem] theorem ag4 : eO Tryz.prog 4 = some false := by kernel_rfl
@[go_sem] theorem zo4 : zeroOf Tryz.prog 4 = some [.b false] := by kernel_rfl
@[go_sem] theorem zv4 : pC Tryz.prog 4 = some (.b false) := by kernel_rfl
@[go_sem] theorem un4 : Program.underlying Tryz.prog 4 = some .bool := by kernel_rfl
@[go_sem] theorem sz9 : jA Tryz.prog 9 = some 1 := by kernel_rfl
@[go_sem] theorem ag9 : eO Tryz.prog 9 = some false := by kernel_rfl
@[go_sem] theorem by9 : aDm Tryz.prog 9 = some 16 := by kernel_rfl
@[go_sem] theorem zo9 : zeroOf Tryz.prog 9 = some [.s []] := by kernel_rfl
@[go_sem] theorem zv9 : pC Tryz.prog 9 = some (.s []) := by kernel_rfl
@[go_sem] theorem un9 : Program.underlying Tryz.prog 9 = some .string := by kernel_rfl
@[go_sem] theorem bVo : jA Tryz.prog 22 = some 1 := by kernel_rfl
@[go_sem] theorem bWq : eO Tryz.prog 22 = some false := by kernel_rfl
@[go_sem] theorem bVb : zeroOf Tryz.prog 22 = some [.e0] := by kernel_rfl
@[go_sem] theorem bUu : pC Tryz.prog 22 = some (.e0) := by kernel_rfl
@[go_sem] theorem bRa : Program.underlying Tryz.prog 22 = some (.slice 9) := by kernel_rfl
@[go_sem] theorem bAg : dX Tryz.prog 22 = some 9 := by kernel_rfl
@[go_sem] theorem bWp : eO Tryz.prog 23 = some false := by kernel_rfl
@[go_sem] theorem bVg : Program.underlying Tryz.prog 23 = some (.slice 122) := by kernel_rfl
@[go_sem] theorem bWo : eO Tryz.prog 24 = some false := by kernel_rfl
@[go_sem] theorem bVf : Program.underlying Tryz.prog 24 = some (.slice 119) := by kernel_rfl
@[go_sem] theorem bVs : dX Tryz.prog 24 = some 119 := by kernel_rfl
@[go_sem] theorem bVn : jA Tryz.prog 26 = some 5 := by kernel_rfl
@[go_sem] theorem bWn : eO Tryz.prog 26 = some true := by kernel_rfl
@[go_sem] theorem bQc : cH Tryz.prog 26 0 = some (0, some 1) := by kernel_rfl
@[go_sem] theorem bQb : cH Tryz.prog 26 1 = some (1, some 1) := by kernel_rfl
@[go_sem] theorem bQa : cH Tryz.prog 26 2 = some (2, some 1) := by kernel_rfl
@[go_sem] theorem bPz : cH Tryz.prog 26 3 = some (3, some 1) := by kernel_rfl
@[go_sem] theorem bPy : cH Tryz.prog 26 4 = some (4, some 1) := by kernel_rfl
@[go_sem] theorem bWm : eO Tryz.prog 27 = some false := by kernel_rfl
@[go_sem] theorem bVm : jA Tryz.prog 28 = some 1 := by kernel_rfl
@[go_sem] theorem bWl : eO Tryz.prog 28 = some false := by kernel_rfl
@[go_sem] theorem bVa : zeroOf Tryz.prog 28 = some [.e0] := by kernel_rfl
@[go_sem] theorem bQx : Program.underlying Tryz.prog 28 = some (.slice 30) := by kernel_rfl
@[go_sem] theorem bQd : dX Tryz.prog 28 = some 30 := by kernel_rfl
@[go_sem] theorem bOu : jA Tryz.prog 30 = some 6 := by kernel_rfl
@[go_sem] theorem bWk : eO Tryz.prog 30 = some true := by kernel_rfl
@[go_sem] theorem bQh : aDm Tryz.prog 30 = some 96 := by kernel_rfl
@[go_sem] theorem bOs : zeroOf Tryz.prog 30 = some [.i .i64 0, .i .i64 0, .s [], .s [], .e0, .e0] := by kernel_rfl
@[go_sem] theorem bPx : cH Tryz.prog 30 0 = some (0, some 1) := by kernel_rfl
@[go_sem] theorem bPw : cH Tryz.prog 30 1 = some (1, some 1) := by kernel_rfl
@[go_sem] theorem bPv : cH Tryz.prog 30 2 = some (2, some 1) := by kernel_rfl
@[go_sem] theorem bPu : cH Tryz.prog 30 3 = some (3, some 1) := by kernel_rfl
@[go_sem] theorem bPt : cH Tryz.prog 30 4 = some (4, some 1) := by kernel_rfl
@[go_sem] theorem bPs : cH Tryz.prog 30 5 = some (5, some 1) := by kernel_rfl
@[go_sem] theorem bVr : gQ Tryz.prog 30 = some [(0, 1), (1, 1), (2, 1), (3, 1), (4, 1), (5, 1)] := by kernel_rfl
@[go_sem] theorem bWj : eO Tryz.prog 32 = some false := by kernel_rfl
@[go_sem] theorem bVe : Program.underlying Tryz.prog 32 = some (.slice 3) := by kernel_rfl
@[go_sem] theorem bNk : dX Tryz.prog 32 = some 3 := by kernel_rfl
@[go_sem] theorem bWi : eO Tryz.prog 33 = some false := by kernel_rfl
@[go_sem] theorem bVl : jA Tryz.prog 35 = some 9 := by kernel_rfl
@[go_sem] theorem bWh : eO Tryz.prog 35 = some true := by kernel_rfl
@[go_sem] theorem bUz : zeroOf Tryz.prog 35 = some [.i .i64 0, .i .i64 0, .i .i64 0, .s [], .s [], .e0, .e0, .s [], .i .i64 0] := by kernel_rfl
@[go_sem] theorem bPr : cH Tryz.prog 35 0 = some (0, some 1) := by kernel_rfl
@[go_sem] theorem bPq : cH Tryz.prog 35 1 = some (1, some 6) := by kernel_rfl
@[go_sem] theorem bPp : cH Tryz.prog 35 2 = some (7, some 1) := by kernel_rfl
@[go_sem] theorem bPo : cH Tryz.prog 35 3 = some (8, some 1) := by kernel_rfl
@[go_sem] theorem bVq : gQ Tryz.prog 35 = some [(0, 1), (1, 6), (7, 1), (8, 1)] := by kernel_rfl
@[go_sem] theorem bRk : jA Tryz.prog 37 = some 10 := by kernel_rfl
@[go_sem] theorem bWg : eO Tryz.prog 37 = some true := by kernel_rfl
@[go_sem] theorem bTm : aDm Tryz.prog 37 = some 152 := by kernel_rfl
@[go_sem] theorem bQl : zeroOf Tryz.prog 37 = some [.e0, .i .i64 0, .i .i64 0, .i .i64 0, .s [], .s [], .e0, .e0, .s [], .i .i64 0] := by kernel_rfl
@[go_sem] theorem bPn : cH Tryz.prog 37 0 = some (0, some 1) := by kernel_rfl
@[go_sem] theorem bPm : cH Tryz.prog 37 1 = some (1, some 9) := by kernel_rfl
@[go_sem] theorem bVp : gQ Tryz.prog 37 = some [(0, 1), (1, 9)] := by kernel_rfl
@[go_sem] theorem bVk : jA Tryz.prog 41 = some 1 := by kernel_rfl
@[go_sem] theorem bWf : eO Tryz.prog 41 = some false := by kernel_rfl
@[go_sem] theorem bUy : zeroOf Tryz.prog 41 = some [.e0] := by kernel_rfl
@[go_sem] theorem bQw : Program.underlying Tryz.prog 41 = some (.slice 37) := by kernel_rfl
@[go_sem] theorem bTb : dX Tryz.prog 41 = some 37 := by kernel_rfl
@[go_sem] theorem bWe : eO Tryz.prog 53 = some false := by kernel_rfl
@[go_sem] theorem bVd : Program.underlying Tryz.prog 53 = some (.slice 100) := by kernel_rfl
@[go_sem] theorem bVj : jA Tryz.prog 54 = some 1 := by kernel_rfl
@[go_sem] theorem bWd : eO Tryz.prog 54 = some false := by kernel_rfl
@[go_sem] theorem bUx : zeroOf Tryz.prog 54 = some [.e0] := by kernel_rfl
@[go_sem] theorem bVc : Program.underlying Tryz.prog 54 = some (.slice 56) := by kernel_rfl
@[go_sem] theorem bVi : jA Tryz.prog 56 = some 13 := by kernel_rfl
@[go_sem] theorem bWc : eO Tryz.prog 56 = some true := by kernel_rfl
@[go_sem] theorem bUw : zeroOf Tryz.prog 56 = some [.e0, .e0, .i .i64 0, .i .i64 0, .i .i64 0, .s [], .s [], .e0, .e0, .s [], .i .i64 0, .e0, .e0] := by kernel_rfl
@[go_sem] theorem bPl : cH Tryz.prog 56 0 = some (0, some 1) := by kernel_rfl
@[go_sem] theorem bPk : cH Tryz.prog 56 1 = some (1, some 10) := by kernel_rfl
@[go_sem] theorem bPj : cH Tryz.prog 56 2 = some (11, some 1) := by kernel_rfl
@[go_sem] theorem bPi : cH Tryz.prog 56 3 = some (12, some 1) := by kernel_rfl
@[go_sem] theorem bVh : jA Tryz.prog 87 = some 1 := by kernel_rfl
@[go_sem] theorem bWb : eO Tryz.prog 87 = some false := by kernel_rfl
@[go_sem] theorem bUv : zeroOf Tryz.prog 87 = some [.p (.pointer Option.none)] := by kernel_rfl
@[go_sem] theorem bRq : jA Tryz.prog 100 = some 2 := by kernel_rfl
@[go_sem] theorem bUr : eO Tryz.prog 100 = some true := by kernel_rfl
@[go_sem] theorem bQt : zeroOf Tryz.prog 100 = some [.i .i64 0, .e0] := by kernel_rfl
@[go_sem] theorem bNg : cH Tryz.prog 100 0 = some (0, some 1) := by kernel_rfl
@[go_sem] theorem bNf : cH Tryz.prog 100 1 = some (1, some 1) := by kernel_rfl
@[go_sem] theorem bUq : eO Tryz.prog 102 = some false := by kernel_rfl
@[go_sem] theorem bQs : zeroOf Tryz.prog 104 = some [.p (.pointer Option.none), .i .i64 0] := by kernel_rfl
@[go_sem] theorem bNe : cH Tryz.prog 104 0 = some (0, some 1) := by kernel_rfl
@[go_sem] theorem bNd : cH Tryz.prog 104 1 = some (1, some 1) := by kernel_rfl
@[go_sem] theorem bRz : gQ Tryz.prog 104 = some [(0, 1), (1, 1)] := by kernel_rfl
@[go_sem] theorem bUp : eO Tryz.prog 116 = some false := by kernel_rfl
@[go_sem] theorem bRj : Program.underlying Tryz.prog 116 = some (.slice 216) := by kernel_rfl
@[go_sem] theorem bUo : eO Tryz.prog 117 = some false := by kernel_rfl
@[go_sem] theorem bRp : jA Tryz.prog 119 = some 7 := by kernel_rfl
@[go_sem] theorem bUn : eO Tryz.prog 119 = some true := by kernel_rfl
@[go_sem] theorem bTn : aDm Tryz.prog 119 = some 120 := by kernel_rfl
@[go_sem] theorem bQr : zeroOf Tryz.prog 119 = some [.s [], .e0, .s [], .e0, .i .i64 0, .i .i64 0, .e0] := by kernel_rfl
@[go_sem] theorem bQk : pC Tryz.prog 119 = some (.agg [.s [], .e0, .s [], .e0, .i .i64 0, .i .i64 0, .e0]) := by kernel_rfl
@[go_sem] theorem bNc : cH Tryz.prog 119 0 = some (0, some 1) := by kernel_rfl
@[go_sem] theorem bNb : cH Tryz.prog 119 1 = some (1, some 1) := by kernel_rfl
@[go_sem] theorem bNa : cH Tryz.prog 119 2 = some (2, some 1) := by kernel_rfl
@[go_sem] theorem bMz : cH Tryz.prog 119 3 = some (3, some 1) := by kernel_rfl
@[go_sem] theorem bMy : cH Tryz.prog 119 4 = some (4, some 1) := by kernel_rfl
@[go_sem] theorem bMx : cH Tryz.prog 119 5 = some (5, some 1) := by kernel_rfl
@[go_sem] theorem bMw : cH Tryz.prog 119 6 = some (6, some 1) := by kernel_rfl
@[go_sem] theorem bRy : gQ Tryz.prog 119 = some [(0, 1), (1, 1), (2, 1), (3, 1), (4, 1), (5, 1), (6, 1)] := by kernel_rfl
@[go_sem] theorem bRo : jA Tryz.prog 122 = some 2 := by kernel_rfl
@[go_sem] theorem bUm : eO Tryz.prog 122 = some true := by kernel_rfl
@[go_sem] theorem bQq : zeroOf Tryz.prog 122 = some [.s [], .s []] := by kernel_rfl
@[go_sem] theorem bMv : cH Tryz.prog 122 0 = some (0, some 1) := by kernel_rfl
@[go_sem] theorem bMu : cH Tryz.prog 122 1 = some (1, some 1) := by kernel_rfl
@[go_sem] theorem bLy : gV Tryz.prog 122 = some [9, 9] := by kernel_rfl
@[go_sem] theorem bUl : eO Tryz.prog 124 = some false := by kernel_rfl
@[go_sem] theorem bUk : eO Tryz.prog 127 = some false := by kernel_rfl
@[go_sem] theorem bUj : eO Tryz.prog 133 = some false := by kernel_rfl
@[go_sem] theorem bUi : eO Tryz.prog 135 = some false := by kernel_rfl
@[go_sem] theorem bUh : eO Tryz.prog 136 = some false := by kernel_rfl
@[go_sem] theorem bRi : Program.underlying Tryz.prog 136 = some (.map 9 22) := by kernel_rfl
@[go_sem] theorem bUg : eO Tryz.prog 137 = some false := by kernel_rfl
@[go_sem] theorem bRh : Program.underlying Tryz.prog 137 = some (.map 9 119) := by kernel_rfl
@[go_sem] theorem bQp : zeroOf Tryz.prog 139 = some [.e0, .e0, .e0, .e0, .e0, .p (.map Option.none), .p (.map Option.none), .p (.map Option.none)] := by kernel_rfl
@[go_sem] theorem bMt : cH Tryz.prog 139 0 = some (0, some 5) := by kernel_rfl
@[go_sem] theorem bMs : cH Tryz.prog 139 1 = some (5, some 1) := by kernel_rfl
@[go_sem] theorem bMr : cH Tryz.prog 139 2 = some (6, some 1) := by kernel_rfl
@[go_sem] theorem bMq : cH Tryz.prog 139 3 = some (7, some 1) := by kernel_rfl
@[go_sem] theorem bRx : gQ Tryz.prog 139 = some [(0, 5), (5, 1), (6, 1), (7, 1)] := by kernel_rfl
@[go_sem] theorem bUf : eO Tryz.prog 143 = some false := by kernel_rfl
@[go_sem] theorem bRg : Program.underlying Tryz.prog 153 = some (.slice 54) := by kernel_rfl
@[go_sem] theorem bTe : dX Tryz.prog 153 = some 54 := by kernel_rfl
@[go_sem] theorem bRn : jA Tryz.prog 167 = some 1 := by kernel_rfl
@[go_sem] theorem bUe : eO Tryz.prog 167 = some false := by kernel_rfl
@[go_sem] theorem bQo : zeroOf Tryz.prog 167 = some [.p (.map Option.none)] := by kernel_rfl
@[go_sem] theorem bRf : Program.underlying Tryz.prog 167 = some (.map 9 9) := by kernel_rfl
@[go_sem] theorem bRe : Program.underlying Tryz.prog 175 = some (.map 122 4) := by kernel_rfl
@[go_sem] theorem bRd : Program.underlying Tryz.prog 176 = some (.map 9 4) := by kernel_rfl
@[go_sem] theorem bRc : Program.underlying Tryz.prog 183 = some (.slice 22) := by kernel_rfl
@[go_sem] theorem bTd : dX Tryz.prog 183 = some 22 := by kernel_rfl
@[go_sem] theorem bRm : jA Tryz.prog 187 = some 2 := by kernel_rfl
@[go_sem] theorem bQn : zeroOf Tryz.prog 187 = some [.i .i64 0, .b false] := by kernel_rfl
@[go_sem] theorem bMp : cH Tryz.prog 187 0 = some (0, some 1) := by kernel_rfl
@[go_sem] theorem bMo : cH Tryz.prog 187 1 = some (1, some 1) := by kernel_rfl
@[go_sem] theorem bRw : gQ Tryz.prog 187 = some [(0, 1), (1, 1)] := by kernel_rfl
@[go_sem] theorem bRb : Program.underlying Tryz.prog 214 = some (.map 3 4) := by kernel_rfl
@[go_sem] theorem bRl : jA Tryz.prog 216 = some 2 := by kernel_rfl
@[go_sem] theorem bUd : eO Tryz.prog 216 = some true := by kernel_rfl
@[go_sem] theorem bQm : zeroOf Tryz.prog 216 = some [.s [], .s []] := by kernel_rfl
@[go_sem] theorem bMn : cH Tryz.prog 216 0 = some (0, some 1) := by kernel_rfl
@[go_sem] theorem bMm : cH Tryz.prog 216 1 = some (1, some 1) := by kernel_rfl
@[go_sem] theorem bMl : cH Tryz.prog 235 0 = some (0, some 2) := by kernel_rfl
@[go_sem] theorem bQz : Program.underlying Tryz.prog 237 = some (.slice 41) := by kernel_rfl
@[go_sem] theorem bQy : Program.underlying Tryz.prog 245 = some (.slice 28) := by kernel_rfl
@[go_sem] theorem bTc : dX Tryz.prog 245 = some 28 := by kernel_rfl
end Go.Proofs.YtifefbhllfdmlaaGreatDoor
namespace Go.Vo

abbrev Str := List UInt8
def avs (l : List Str) : AV := .sl (l.map .s) l.length

def avi (l : List Int) : AV := .sl (l.map (.i .i64)) l.length
def bU (b : Str × Str) : List AV := [.s b.1, .s b.2]
def avb (l : List (Str × Str)) : AV := .sl (l.flatMap bU) l.length
structure LOp where
 name : Str
 args : List Str
 sort : Str
 pieces : List (Str × Str)
 prec : Int
 assoc : Int
 strict : List Int
 deriving DecidableEq
instance : Inhabited LOp := ⟨⟨[], [], [], [], 0, 0, []⟩⟩
def bA (o : LOp) : List AV := [.s o.name, avs o.args, .s o.sort, avb o.pieces, .i .i64 o.prec, .i .i64 o.assoc, avi o.strict]
def avo (l : List LOp) : AV := .sl (l.flatMap bA) l.length
structure bX where
 sorts : List Str
 below : List (Str × Str)
 ops : List LOp
 funs : List LOp
 values : List Str
 deriving DecidableEq
def aO (s : bX) : List AV := [avs s.sorts, avb s.below, avo s.ops, avo s.funs, avs s.values]

theorem vZ (x : Str × Str) : (bU x).length = 2 := rfl
theorem aJu (x : LOp) : (bA x).length = 7 := rfl
theorem xG {l : List Str} : pers (avs l) = true := by simp only [avs, pers, iN]
theorem P0 {l : List Int} : pers (avi l) = true := by simp only [avi, pers, fP]
theorem iD {l : List (Str × Str)} : persL (l.flatMap bU) = true := by
 induction l with
 | nil => rfl
 | cons x l ih => simp [bU, persL, pers, ih]
theorem aBw {l : List LOp} : persL (l.flatMap bA) = true := by
 induction l with
 | nil => rfl
 | cons x l ih => simp only [cY, bA, dE, dG, persL, xG, P0, ih, avb, pers, iD, dQ]
variable {k : Nat}
theorem aQb {l : List (Str × Str)} (h : k < l.length) : ((l.flatMap bU).drop (k * 2)).take 2 = bU (l.getD k ([], [])) := by
 rw [oG vZ]
 simp [h, List.getD]
theorem F7 {l : List (Str × Str)} : (l.flatMap bU).length = l.length * 2 := mJ vZ l
theorem aJp {l : List (Str × Str)} : (l.flatMap bU).take (k * 2) = (l.take k).flatMap bU := R4 vZ l k
attribute [go_sem] aQb F7 aJp
theorem bEc {l : List LOp} (h : k < l.length) : ((l.flatMap bA).drop (k * 7)).take 7 = bA (l.getD k default) := by
 rw [oG aJu]
 simp [h, List.getD]
theorem Y1 {l : List LOp} : (l.flatMap bA).length = l.length * 7 := mJ aJu l
attribute [go_sem] bEc Y1
attribute [go_sem] iD aBw avs avi avb avo bU bA aO
theorem bE {p : Nat → Prop} {k : Nat} (h : ∀ j, j < k → p j) (hk : p k) : ∀ j, j < k + 1 → p j := fun j hj => by
 by_cases h1 : j = k
 · exact h1 ▸ hk
 · exact h j (by omega)
theorem iT {α : Type} {l : List α} {p : α → Bool} {d : α} (h : ∀ j, j < l.length → p (l.getD j d) = true) : l.all p = true := by
 rw [aU]
 intro x hx
 obtain ⟨j, hj, rfl⟩ := bR.1 hx
 have := h j hj
 simpa [List.getD, hj] using this
theorem eL {α : Type} {l : List α} {p : α → Bool} {d : α} {j : Nat} (hj : j < l.length) (h : p (l.getD j d) = false) : l.all p = false := by
 rw [pX]
 exact ⟨l[j], L4 hj, by simpa [List.getD, hj] using h⟩
theorem aLp {α : Type} {l m : List α} {d : α} (hl : l.length = m.length) (h : ∀ j, j < l.length → l.getD j d = m.getD j d) : l = m := by
 apply L5 hl
 intro j h1 h2
 have := h j h1
 simpa [List.getD, h1, h2] using this
theorem eX {α : Type} {l : List α} {d : α} {k : Nat} (h : k < l.length) : l.take (k + 1) = l.take k ++ [l.getD k d] := by
 rw [oY h]; simp [List.getD, h]
end Go.Vo
namespace Go.Proofs.YtifefbhllfdmlaaGreatDoor
open Go Go.Vo
open Nat (reduceAdd reduceSub reduceMul reduceLeDiff reduceLT reduceEqDiff)
open Int (reduceNeg)
end Go.Proofs.YtifefbhllfdmlaaGreatDoor
namespace Go.Vo
theorem zdA : (∀ l, avs l = .sl (l.map .s) l.length) ∧ (∀ l, avb l = .sl (l.flatMap bU) l.length) ∧ (∀ l, avi l = .sl (l.map (.i .i64)) l.length) ∧ (∀ l, avo l = .sl (l.flatMap bA) l.length) ∧ (∀ s, aO s = [avs s.sorts, avb s.below, avo s.ops, avo s.funs, avs s.values]) ∧ (∀ o, bA o = [.s o.name, avs o.args, .s o.sort, avb o.pieces, .i .i64 o.prec, .i .i64 o.assoc, avi o.strict]) ∧ (∀ b, bU b = [.s b.1, .s b.2]) := ⟨fun _ => rfl, fun _ => rfl, fun _ => rfl, fun _ => rfl, fun _ => rfl, fun _ => rfl, fun _ => rfl⟩
theorem cE {P : Program} {G : eW} {dr : Option DR} {d : Option Nat} {os : List fD} {K : List AV → List AObj → Prop} {env : List AV} {h : List AObj} {f : FuncId} {A A' : List AV} {r : AV} (s : Ctr P G f A' r)
 (k : cT P G dr os K (fR env d (mat r (fI r h A)).1) (mat r (fI r h A)).2) (hA : A.map (gJ dep h) = A' := by (simp -implicitDefEqProofs (disch := omega) only [zdA, go_sem, ↓reduceIte, reduceAdd, reduceSub, reduceMul, reduceLeDiff, reduceLT, reduceEqDiff, reduceNeg, Nat.reduceBEq]; done)) : tH P G dr f A d os K env h := aX s hA k
theorem zs1 {K1 : Prop} {p q : Prop} (k1 : K1) (h : q) (e : K1 → Cv q p := by
   intro k1
   repeat' first | with_reducible apply vT | with_reducible apply vF | with_reducible apply vC | ((first | ((with_reducible apply vE); (focus exact k1); (focus (simp -implicitDefEqProofs (disch := omega) only [zdA, go_sem, simprocAttr]; done))) | ((with_reducible apply vE); (focus (apply k1 <;> omega)); (focus (simp -implicitDefEqProofs (disch := omega) only [zdA, go_sem, simprocAttr]; done))) | ((with_reducible apply vR); focus exact k1 ..)); simp -implicitDefEqProofs (disch := omega) only [go_sem, simprocAttr]) | ((with_reducible apply vA); focus omega) | ((with_reducible apply vI); (focus (intro hr; (try simp only [zdz] at hr); exact hr)); intro hr; have hc := hr; (try simp only [zdz] at hc); simp -implicitDefEqProofs (disch := omega) only [hr, go_sem, simprocAttr]; (try clear hr))
   any_goals exact vS) : p := (e k1).1 h
theorem zx1 {K1 : Prop} {x : Prop} {p q : Prop} (X : x) (k1 : K1) (h : q) (e : x → K1 → Cv q p := by
   intro X k1
   repeat' first | with_reducible apply vT | with_reducible apply vF | with_reducible apply vC | ((first | ((with_reducible apply vE); (focus exact k1); (focus (simp -implicitDefEqProofs (disch := omega) only [X, zdA, go_sem, simprocAttr]; done))) | ((with_reducible apply vE); (focus (apply k1 <;> omega)); (focus (simp -implicitDefEqProofs (disch := omega) only [X, zdA, go_sem, simprocAttr]; done))) | ((with_reducible apply vR); focus exact k1 ..)); simp -implicitDefEqProofs (disch := omega) only [X, go_sem, simprocAttr]) | ((with_reducible apply vA); focus omega) | ((with_reducible apply vI); (focus (intro hr; (try simp only [zdz] at hr); exact hr)); intro hr; have hc := hr; (try simp only [zdz] at hc); simp -implicitDefEqProofs (disch := omega) only [hr, X, go_sem, simprocAttr]; (try clear hr))
   any_goals exact vS) : p := (e X k1).1 h
theorem zs2 {K1 : Prop} {K2 : Prop} {p q : Prop} (k1 : K1) (k2 : K2) (h : q) (e : K1 → K2 → Cv q p := by
   intro k1 k2
   repeat' first | with_reducible apply vT | with_reducible apply vF | with_reducible apply vC | ((first | ((with_reducible apply vE); (focus exact k1); (focus (simp -implicitDefEqProofs (disch := omega) only [zdA, go_sem, simprocAttr]; done))) | ((with_reducible apply vE); (focus (apply k1 <;> omega)); (focus (simp -implicitDefEqProofs (disch := omega) only [zdA, go_sem, simprocAttr]; done))) | ((with_reducible apply vR); focus exact k1 ..) | ((with_reducible apply vE); (focus exact k2); (focus (simp -implicitDefEqProofs (disch := omega) only [zdA, go_sem, simprocAttr]; done))) | ((with_reducible apply vE); (focus (apply k2 <;> omega)); (focus (simp -implicitDefEqProofs (disch := omega) only [zdA, go_sem, simprocAttr]; done))) | ((with_reducible apply vR); focus exact k2 ..)); simp -implicitDefEqProofs (disch := omega) only [go_sem, simprocAttr]) | ((with_reducible apply vA); focus omega) | ((with_reducible apply vI); (focus (intro hr; (try simp only [zdz] at hr); exact hr)); intro hr; have hc := hr; (try simp only [zdz] at hc); simp -implicitDefEqProofs (disch := omega) only [hr, go_sem, simprocAttr]; (try clear hr))
   any_goals exact vS) : p := (e k1 k2).1 h
theorem zx2 {K1 : Prop} {K2 : Prop} {x : Prop} {p q : Prop} (X : x) (k1 : K1) (k2 : K2) (h : q) (e : x → K1 → K2 → Cv q p := by
   intro X k1 k2
   repeat' first | with_reducible apply vT | with_reducible apply vF | with_reducible apply vC | ((first | ((with_reducible apply vE); (focus exact k1); (focus (simp -implicitDefEqProofs (disch := omega) only [X, zdA, go_sem, simprocAttr]; done))) | ((with_reducible apply vE); (focus (apply k1 <;> omega)); (focus (simp -implicitDefEqProofs (disch := omega) only [X, zdA, go_sem, simprocAttr]; done))) | ((with_reducible apply vR); focus exact k1 ..) | ((with_reducible apply vE); (focus exact k2); (focus (simp -implicitDefEqProofs (disch := omega) only [X, zdA, go_sem, simprocAttr]; done))) | ((with_reducible apply vE); (focus (apply k2 <;> omega)); (focus (simp -implicitDefEqProofs (disch := omega) only [X, zdA, go_sem, simprocAttr]; done))) | ((with_reducible apply vR); focus exact k2 ..)); simp -implicitDefEqProofs (disch := omega) only [X, go_sem, simprocAttr]) | ((with_reducible apply vA); focus omega) | ((with_reducible apply vI); (focus (intro hr; (try simp only [zdz] at hr); exact hr)); intro hr; have hc := hr; (try simp only [zdz] at hc); simp -implicitDefEqProofs (disch := omega) only [hr, X, go_sem, simprocAttr]; (try clear hr))
   any_goals exact vS) : p := (e X k1 k2).1 h
theorem zs3 {K1 : Prop} {K2 : Prop} {K3 : Prop} {p q : Prop} (k1 : K1) (k2 : K2) (k3 : K3) (h : q) (e : K1 → K2 → K3 → Cv q p := by
   intro k1 k2 k3
   repeat' first | with_reducible apply vT | with_reducible apply vF | with_reducible apply vC | ((first | ((with_reducible apply vE); (focus exact k1); (focus (simp -implicitDefEqProofs (disch := omega) only [zdA, go_sem, simprocAttr]; done))) | ((with_reducible apply vE); (focus (apply k1 <;> omega)); (focus (simp -implicitDefEqProofs (disch := omega) only [zdA, go_sem, simprocAttr]; done))) | ((with_reducible apply vR); focus exact k1 ..) | ((with_reducible apply vE); (focus exact k2); (focus (simp -implicitDefEqProofs (disch := omega) only [zdA, go_sem, simprocAttr]; done))) | ((with_reducible apply vE); (focus (apply k2 <;> omega)); (focus (simp -implicitDefEqProofs (disch := omega) only [zdA, go_sem, simprocAttr]; done))) | ((with_reducible apply vR); focus exact k2 ..) | ((with_reducible apply vE); (focus exact k3); (focus (simp -implicitDefEqProofs (disch := omega) only [zdA, go_sem, simprocAttr]; done))) | ((with_reducible apply vE); (focus (apply k3 <;> omega)); (focus (simp -implicitDefEqProofs (disch := omega) only [zdA, go_sem, simprocAttr]; done))) | ((with_reducible apply vR); focus exact k3 ..)); simp -implicitDefEqProofs (disch := omega) only [go_sem, simprocAttr]) | ((with_reducible apply vA); focus omega) | ((with_reducible apply vI); (focus (intro hr; (try simp only [zdz] at hr); exact hr)); intro hr; have hc := hr; (try simp only [zdz] at hc); simp -implicitDefEqProofs (disch := omega) only [hr, go_sem, simprocAttr]; (try clear hr))
   any_goals exact vS) : p := (e k1 k2 k3).1 h
theorem zx3 {K1 : Prop} {K2 : Prop} {K3 : Prop} {x : Prop} {p q : Prop} (X : x) (k1 : K1) (k2 : K2) (k3 : K3) (h : q) (e : x → K1 → K2 → K3 → Cv q p := by
   intro X k1 k2 k3
   repeat' first | with_reducible apply vT | with_reducible apply vF | with_reducible apply vC | ((first | ((with_reducible apply vE); (focus exact k1); (focus (simp -implicitDefEqProofs (disch := omega) only [X, zdA, go_sem, simprocAttr]; done))) | ((with_reducible apply vE); (focus (apply k1 <;> omega)); (focus (simp -implicitDefEqProofs (disch := omega) only [X, zdA, go_sem, simprocAttr]; done))) | ((with_reducible apply vR); focus exact k1 ..) | ((with_reducible apply vE); (focus exact k2); (focus (simp -implicitDefEqProofs (disch := omega) only [X, zdA, go_sem, simprocAttr]; done))) | ((with_reducible apply vE); (focus (apply k2 <;> omega)); (focus (simp -implicitDefEqProofs (disch := omega) only [X, zdA, go_sem, simprocAttr]; done))) | ((with_reducible apply vR); focus exact k2 ..) | ((with_reducible apply vE); (focus exact k3); (focus (simp -implicitDefEqProofs (disch := omega) only [X, zdA, go_sem, simprocAttr]; done))) | ((with_reducible apply vE); (focus (apply k3 <;> omega)); (focus (simp -implicitDefEqProofs (disch := omega) only [X, zdA, go_sem, simprocAttr]; done))) | ((with_reducible apply vR); focus exact k3 ..)); simp -implicitDefEqProofs (disch := omega) only [X, go_sem, simprocAttr]) | ((with_reducible apply vA); focus omega) | ((with_reducible apply vI); (focus (intro hr; (try simp only [zdz] at hr); exact hr)); intro hr; have hc := hr; (try simp only [zdz] at hc); simp -implicitDefEqProofs (disch := omega) only [hr, X, go_sem, simprocAttr]; (try clear hr))
   any_goals exact vS) : p := (e X k1 k2 k3).1 h
theorem zs4 {K1 : Prop} {K2 : Prop} {K3 : Prop} {K4 : Prop} {p q : Prop} (k1 : K1) (k2 : K2) (k3 : K3) (k4 : K4) (h : q) (e : K1 → K2 → K3 → K4 → Cv q p := by
   intro k1 k2 k3 k4
   repeat' first | with_reducible apply vT | with_reducible apply vF | with_reducible apply vC | ((first | ((with_reducible apply vE); (focus exact k1); (focus (simp -implicitDefEqProofs (disch := omega) only [zdA, go_sem, simprocAttr]; done))) | ((with_reducible apply vE); (focus (apply k1 <;> omega)); (focus (simp -implicitDefEqProofs (disch := omega) only [zdA, go_sem, simprocAttr]; done))) | ((with_reducible apply vR); focus exact k1 ..) | ((with_reducible apply vE); (focus exact k2); (focus (simp -implicitDefEqProofs (disch := omega) only [zdA, go_sem, simprocAttr]; done))) | ((with_reducible apply vE); (focus (apply k2 <;> omega)); (focus (simp -implicitDefEqProofs (disch := omega) only [zdA, go_sem, simprocAttr]; done))) | ((with_reducible apply vR); focus exact k2 ..) | ((with_reducible apply vE); (focus exact k3); (focus (simp -implicitDefEqProofs (disch := omega) only [zdA, go_sem, simprocAttr]; done))) | ((with_reducible apply vE); (focus (apply k3 <;> omega)); (focus (simp -implicitDefEqProofs (disch := omega) only [zdA, go_sem, simprocAttr]; done))) | ((with_reducible apply vR); focus exact k3 ..) | ((with_reducible apply vE); (focus exact k4); (focus (simp -implicitDefEqProofs (disch := omega) only [zdA, go_sem, simprocAttr]; done))) | ((with_reducible apply vE); (focus (apply k4 <;> omega)); (focus (simp -implicitDefEqProofs (disch := omega) only [zdA, go_sem, simprocAttr]; done))) | ((with_reducible apply vR); focus exact k4 ..)); simp -implicitDefEqProofs (disch := omega) only [go_sem, simprocAttr]) | ((with_reducible apply vA); focus omega) | ((with_reducible apply vI); (focus (intro hr; (try simp only [zdz] at hr); exact hr)); intro hr; have hc := hr; (try simp only [zdz] at hc); simp -implicitDefEqProofs (disch := omega) only [hr, go_sem, simprocAttr]; (try clear hr))
   any_goals exact vS) : p := (e k1 k2 k3 k4).1 h
theorem zx4 {K1 : Prop} {K2 : Prop} {K3 : Prop} {K4 : Prop} {x : Prop} {p q : Prop} (X : x) (k1 : K1) (k2 : K2) (k3 : K3) (k4 : K4) (h : q) (e : x → K1 → K2 → K3 → K4 → Cv q p := by
   intro X k1 k2 k3 k4
   repeat' first | with_reducible apply vT | with_reducible apply vF | with_reducible apply vC | ((first | ((with_reducible apply vE); (focus exact k1); (focus (simp -implicitDefEqProofs (disch := omega) only [X, zdA, go_sem, simprocAttr]; done))) | ((with_reducible apply vE); (focus (apply k1 <;> omega)); (focus (simp -implicitDefEqProofs (disch := omega) only [X, zdA, go_sem, simprocAttr]; done))) | ((with_reducible apply vR); focus exact k1 ..) | ((with_reducible apply vE); (focus exact k2); (focus (simp -implicitDefEqProofs (disch := omega) only [X, zdA, go_sem, simprocAttr]; done))) | ((with_reducible apply vE); (focus (apply k2 <;> omega)); (focus (simp -implicitDefEqProofs (disch := omega) only [X, zdA, go_sem, simprocAttr]; done))) | ((with_reducible apply vR); focus exact k2 ..) | ((with_reducible apply vE); (focus exact k3); (focus (simp -implicitDefEqProofs (disch := omega) only [X, zdA, go_sem, simprocAttr]; done))) | ((with_reducible apply vE); (focus (apply k3 <;> omega)); (focus (simp -implicitDefEqProofs (disch := omega) only [X, zdA, go_sem, simprocAttr]; done))) | ((with_reducible apply vR); focus exact k3 ..) | ((with_reducible apply vE); (focus exact k4); (focus (simp -implicitDefEqProofs (disch := omega) only [X, zdA, go_sem, simprocAttr]; done))) | ((with_reducible apply vE); (focus (apply k4 <;> omega)); (focus (simp -implicitDefEqProofs (disch := omega) only [X, zdA, go_sem, simprocAttr]; done))) | ((with_reducible apply vR); focus exact k4 ..)); simp -implicitDefEqProofs (disch := omega) only [X, go_sem, simprocAttr]) | ((with_reducible apply vA); focus omega) | ((with_reducible apply vI); (focus (intro hr; (try simp only [zdz] at hr); exact hr)); intro hr; have hc := hr; (try simp only [zdz] at hc); simp -implicitDefEqProofs (disch := omega) only [hr, X, go_sem, simprocAttr]; (try clear hr))
   any_goals exact vS) : p := (e X k1 k2 k3 k4).1 h
end Go.Vo
namespace Go.Proofs.YtifefbhllfdmlaaGreatDoor
open Go Go.Vo
open Nat (reduceAdd reduceSub reduceMul reduceLeDiff reduceLT reduceEqDiff)
open Int (reduceNeg)
abbrev CT := Ctr Tryz.prog G0

def sU (n : Int) : Bool := decide (97 ≤ n) && decide (n ≤ 122) || decide (65 ≤ n) && decide (n ≤ 90)
def aLt (n : Int) : Bool := decide (48 ≤ n) && decide (n ≤ 57)

theorem bFi (n : Int): CT 137 [.i .u8 n] (.b (sU n)) := by
 refine aF mixed Tryz.func137 g0 ?_
 · skip
   repeat' (first | refine gT ?_ ?_ | refine gF ?_ ?_ | refine gC ?_ ?_ | (intro hc; simp -implicitDefEqProofs only [hc, go_sem]))
   all_goals (refine aE ?_ (by rfl); simp_all [sU] <;> omega)
theorem bFg (n : Int): CT 207 [.i .u8 n] (.b (sU n)) := by
 refine aF mixed Tryz.func207 g0 ?_
 · skip
   repeat' (first | refine gT ?_ ?_ | refine gF ?_ ?_ | refine gC ?_ ?_ | (intro hc; simp -implicitDefEqProofs only [hc, go_sem]))
   all_goals (refine aE ?_ (by rfl); simp_all [sU] <;> omega)
theorem bFf (n : Int): CT 208 [.i .u8 n] (.b (aLt n)) := by
 refine aF mixed Tryz.func208 g0 ?_
 · skip
   repeat' (first | refine gT ?_ ?_ | refine gF ?_ ?_ | refine gC ?_ ?_ | (intro hc; simp -implicitDefEqProofs only [hc, go_sem]))
   all_goals (refine aE ?_ (by rfl); simp_all [aLt] <;> omega)
def part (n : Int) : Bool := sU n || aLt n || decide (n = 95)
theorem bFh (n : Int): CT 138 [.i .u8 n] (.b (part n)) := by
 refine aF mixed Tryz.func138 g0 ?_
 · skip
   repeat' (first | refine gT ?_ ?_ | refine gF ?_ ?_ | refine gC ?_ ?_ | refine aGl (bFi _) ?_; simp -implicitDefEqProofs only [go_sem] | (intro hc; simp -implicitDefEqProofs only [hc, go_sem]))
   all_goals (refine aE ?_ (by rfl); simp_all [part, aLt] <;> omega)

def at_ (s : Str) (k : Nat) : Int := ((s.getD k 0).toNat : Int)
def dM (s : Str) : Bool := !s.isEmpty && decide (s.length ≤ 40) && sU (at_ s 0) && s.all fun c => part c.toNat

theorem aEe {s : Str} {q : Int → Bool} (h : ∀ j, j < s.length → q (at_ s j) = true) : (s.all fun c => q c.toNat) = true := by
 rw [aU]
 intro c hc
 obtain ⟨j, hj, rfl⟩ := bR.1 hc
 have := h j hj
 simpa [at_, hj] using this
theorem jQ {s : Str} {q : Int → Bool} {j : Nat} (hj : j < s.length) (h : q (at_ s j) = false) : (s.all fun c => q c.toNat) = false := by
 rw [pX]
 exact ⟨s[j], L4 hj, by simpa [at_, hj] using h⟩

theorem H9 (s : Str) (hs : s.length ≤ 140737488355328): CT 83 [.s s] (.b (dM s)) := by
 refine aF mixed Tryz.func83 g0 ?_
 · skip
   (refine zs1 bFi ?_; repeat' first | exact trivial | refine zJ ?_ ?_ | refine zH fun hc => ?_)
   any_goals (refine aE ?_ (by rfl); simp_all [dM, at_] <;> omega)
   refine bT (fun (k : Nat) => [.k, .k, .j, .j, .k, .k, .k, .k, .k, .k, .k, .k, .k, .k, .k, .k, .k, .k, .k, .v (.i .i64 k), .j, .j, .j, .j, .j, .j, .j, .j]) (fun k => []) (fun k => k ≤ s.length ∧ ∀ j, j < k → part (at_ s j) = true) (fun k => s.length - k) (0) ⟨aG _, fun j h => by omega⟩ rfl (by simp [eQ]) ?_
   rintro k j ⟨hk, ha⟩
   refine zg ?_
   (refine zs1 bFh ?_; repeat' first | exact trivial | refine zJ ?_ ?_ | refine zH fun hc => ?_)
   · refine aE ?_ (by rfl)
     simp only [dM, jQ (show k < s.length by omega) (by simpa [at_] using hc), Bool.and_false]
   · exact ⟨k + 1, ⟨by omega, bE ha (by simpa [at_] using hc)⟩, by omega, by simp⟩
   · refine aE ?_ (by rfl)
     have h1 : k = s.length := by omega
     simp only [dM, aEe (h1 ▸ ha)]
     simp_all [at_] <;> omega

def aQg (s : Str) (j : Nat) : Bool := sU (at_ s j) || (decide (j ≠ 0) && part (at_ s j))
theorem aKs {s : Str} (h : ∀ j, j < s.length → aQg s j = true) (h1 : 1 ≤ s.length) (h2 : s.length ≤ 40) : dM s = true := by
 have h0 := h 0 (by omega)
 have hp : (s.all fun c => part c.toNat) = true := aEe (fun j hj => by
   have := h j hj
   unfold aQg at this
   simp only [bO, aB] at this
   rcases this with h | h
   · simp [part, h]
   · exact h.2)
 have hl : sU (at_ s 0) = true := by simpa [aQg] using h0
 have hne : s ≠ [] := by intro h; simp [h] at h1
 simp [dM, hp, hl, h2, hne]
theorem Q4 {s : Str} {j : Nat} (hj : j < s.length) (h : aQg s j = false) : dM s = false := by
 unfold aQg at h
 simp only [Bool.or_eq_false_iff, gI] at h
 rcases h with ⟨h1, h2 | h2⟩
 · have : j = 0 := by simpa using h2
   subst this
   simp [dM, h1]
 · simp [dM, jQ hj h2]

theorem S8 (s : Str) (hs : s.length ≤ 140737488355328): CT 161 [.s s] (.b (dM s)) := by
 refine aF mixed Tryz.func161 g0 ?_
 · skip
   refine bT (fun (k : Nat) => [.k, .k, .j, .j, .k, .k, .v (.i .i64 k), .j, .j, .j, .j, .j, .j, .j, .j, .j, .j, .j, .j, .j, .j, .j, .j, .j, .j, .j, .j, .j, .j, .j, .j, .j, .k, .k, .k, .k, .k, .k, .k, .k]) (fun k => []) (fun k => k ≤ s.length ∧ ∀ j, j < k → aQg s j = true) (fun k => s.length - k) (0) ⟨aG _, fun j h => by omega⟩ rfl (by simp [eQ]) ?_
   rintro k j ⟨hk, ha⟩
   refine zg ?_
   (refine zs2 bFg bFf ?_; repeat' first | exact trivial | refine zJ ?_ ?_ | refine zH fun hc => ?_)
   all_goals first | refine Exists.intro (k + 1) ⟨⟨by omega, bE ha (by simp_all [aQg, at_, part] <;> omega)⟩, by omega, by simp⟩ | refine aE ?_ (by rfl)
   · rw [Q4 (j := k) (by omega) (by simp_all [aQg, at_, part] <;> omega)]
   · rw [Q4 (j := k) (by omega) (by simp_all [aQg, at_, part] <;> omega)]
   · have h1 : k = s.length := by omega
     by_cases h2 : s.length ≤ 40
     · rw [aKs (h1 ▸ ha) (by omega) h2]; simp; omega
     · have e1 : dM s = false := by simp [dM, h2]
       rw [e1]; congr 1; symm; simp; omega
   · have : s = [] := List.eq_nil_of_length_eq_zero (by omega)
     simp [this, dM]
def mS (s : Str) : Bool := decide (2 < s.length) && decide (at_ s (s.length - 2) = 39) && decide (49 ≤ at_ s (s.length - 1)) && decide (at_ s (s.length - 1) ≤ 56)
def qR (s : Str) : Str := if mS s then s.take (s.length - 2) else s
def frame (s : Str) : Str := if mS s then s.drop (s.length - 2) else []
theorem aWb (s : Str) (hs : s.length ≤ 140737488355328): CT 146 [.s s] (.tup [.s (qR s), .s (frame s)]) := by
 refine aF mixed Tryz.func146 g0 ?_
 · skip
   (refine zs0 ?_; repeat' first | exact trivial | refine zJ ?_ ?_ | refine zH fun hc => ?_)
   all_goals (refine aE ?_ (by rfl))
   · have h : mS s = true := by simp_all [mS, at_] <;> omega
     simp [qR, frame, h]
   all_goals (have h : mS s = false := by simp_all [mS, at_] <;> omega)
   all_goals simp [qR, frame, h]
theorem bIe (s : Str) (hs : s.length ≤ 140737488355328): CT 209 [.s s] (.tup [.s (qR s), .s (frame s)]) := by
 refine aF mixed Tryz.func209 g0 ?_
 · skip
   (refine zs0 ?_; repeat' first | exact trivial | refine zJ ?_ ?_ | refine zH fun hc => ?_)
   all_goals (refine aE ?_ (by rfl))
   · have h : mS s = true := by simp_all [mS, at_] <;> omega
     simp [qR, frame, h]
   all_goals (have h : mS s = false := by simp_all [mS, at_] <;> omega)
   all_goals simp [qR, frame, h]
theorem I7 (s : Str) : (qR s).length ≤ s.length := by unfold qR; split <;> simp <;> omega
theorem aMl (s : Str) (hs : s.length ≤ 140737488355328): CT 165 [.s s] (.b (dM (qR s))) := by
 refine aF mixed Tryz.func165 g0 ?_
 · skip
   (repeat' (first | refine gT ?_ ?_ | refine gF ?_ ?_ | refine gC ?_ ?_ | (refine cE (bIe s hs) ?_; simp -implicitDefEqProofs (disch := omega) only [go_sem, simprocAttr]) | (refine aGl (S8 _ (dU (I7 s) hs)) ?_; simp -implicitDefEqProofs (disch := omega) only [go_sem, simprocAttr]) | refine aZ (by omega) ?_ | (intro hr; have hc := hr; (try simp only [zdz] at hc); simp -implicitDefEqProofs (disch := omega) only [hr, go_sem, simprocAttr]; (try clear hr))))
   refine aE ?_ (by rfl); rfl
theorem aAd {l : List Str} {s : Str} {k : Nat} (hk : k < l.length) (h : l.getD k [] = s) : l.contains s = true := by
 have h1 : l[k]? = some s := by simpa [List.getD, hk] using h
 simpa using cA h1
theorem P5 {l : List Str} {s : Str} (h : ∀ j, j < l.length → l.getD j [] ≠ s) : l.contains s = false := by
 have : s ∉ l := by
   intro hm
   obtain ⟨j, hj, he⟩ := bR.1 hm
   exact h j hj (by simp [List.getD, hj, he])
 simpa using this
theorem vP (l : List Str) (s : Str) (hl : l.length ≤ 140737488355328): CT 162 [avs l, .s s] (.b (l.contains s)) := by
 refine bI mixed Tryz.func162 g0 ?_
 · simp -implicitDefEqProofs (disch := omega) only [Tryz.f162, go_sem, List.replicate, simprocAttr, avs]
   refine bT (fun (k : Nat) => [.k, .k, .k, .k, .j, .k, .j, .k, .k, .v (.i .i64 k), .j, .j, .j, .j, .j, .j, .j]) (fun k => []) (fun k => k ≤ l.length ∧ ∀ j, j < k → l.getD j [] ≠ s) (fun k => l.length - k) (0) ⟨aG _, fun j h => by omega⟩ rfl (by simp [eQ]) ?_
   rintro k j ⟨hk, ha⟩
   refine zg ?_
   (refine zs0 ?_; repeat' first | exact trivial | refine zJ ?_ ?_ | refine zH fun hc => ?_)
   · refine aE ?_ (by rfl)
     rw [aAd (k := k) (by omega) (by assumption)]
   · exact ⟨k + 1, ⟨by omega, bE ha (by assumption)⟩, by omega, by simp⟩
   · refine aE ?_ (by rfl)
     have h1 : k = l.length := by omega
     rw [P5 (h1 ▸ ha)]

def fU : List Str := [[65, 110, 121], [73, 110, 116], [66, 111, 111, 108], [84, 101, 120, 116], [73, 100], [76, 105, 115, 116], [77, 97, 112]]
theorem bFu : CT 85 [] (.own 1 (fU.map .s) fU.length) := by
 refine aF mixed Tryz.func85 g0 ?_
 · skip
   exact H4 rfl rfl rfl rfl rfl
def mW : List Str := [[65, 110, 121], [66, 111, 111, 108], [73, 100], [73, 110, 116], [76, 105, 115, 116], [77, 97, 112], [84, 101, 120, 116]]
theorem bAi : CT 163 [] (.own 1 (mW.map .s) mW.length) := by
 refine aF mixed Tryz.func163 g0 ?_
 · skip
   exact H4 rfl rfl rfl rfl rfl

def idx {α : Type} (p : α → Bool) (l : List α) : Int := match l.findIdx? p with | some i => i | none => -1
theorem kX {α : Type} {p : α → Bool} {l : List α} {d : α} {k : Nat} (hk : k < l.length) (h : p (l.getD k d) = true) (hn : ∀ j, j < k → p (l.getD j d) = false) : idx p l = k := by
 have : l.findIdx? p = some k := by
   rw [fL]
   refine ⟨hk, by simpa [List.getD, hk] using h, fun j hj => ?_⟩
   have := hn j hj
   simpa [List.getD, show j < l.length by omega] using this
 simp [idx, this]
theorem kY {α : Type} {p : α → Bool} {l : List α} {d : α} (hn : ∀ j, j < l.length → p (l.getD j d) = false) : idx p l = -1 := by
 have : l.findIdx? p = none := by
   rw [eE]
   intro x hx
   obtain ⟨j, hj, rfl⟩ := bR.1 hx
   have := hn j hj
   simpa [List.getD, hj] using this
 simp [idx, this]
theorem pL {α : Type} {p : α → Bool} {l : List α} : decide (0 ≤ idx p l) = l.any p := by
 unfold idx
 cases h : l.findIdx? p with
 | none =>
   rw [eE] at h
   have : l.any p = false := by rw [List.any_eq_false]; intro x hx; simp [h x hx]
   rw [this]; rfl
 | some i =>
   rw [fL] at h
   obtain ⟨hi, hp, _⟩ := h
   have : l.any p = true := List.any_eq_true.2 ⟨_, L4 hi, hp⟩
   rw [this]; simp
theorem bJa (l : List Str) (s : Str) (hl : l.length ≤ 140737488355328): CT 139 [avs l, .s s] (.i .i64 (idx (fun x => decide (s = x)) l)) := by
 refine bI mixed Tryz.func139 g0 ?_
 · simp -implicitDefEqProofs (disch := omega) only [Tryz.f139, go_sem, List.replicate, simprocAttr, avs]
   refine bT (fun (k : Nat) => [.k, .k, .k, .k, .j, .j, .k, .k, .v (.i .i64 k), .j, .j, .j, .j, .j, .j, .j, .j, .j, .j]) (fun k => []) (fun k => k ≤ l.length ∧ ∀ j, j < k → decide (s = l.getD j []) = false) (fun k => l.length - k) (0) ⟨aG _, fun j h => by omega⟩ rfl (by simp [eQ]) ?_
   rintro k j ⟨hk, ha⟩
   refine zg ?_
   (refine zs0 ?_; repeat' first | exact trivial | refine zJ ?_ ?_ | refine zH fun hc => ?_)
   · refine aE ?_ (by rfl)
     rw [kX (d := []) (k := k) (by omega) (by simpa using hc) ha]
   · exact ⟨k + 1, ⟨by omega, bE ha (by simpa using hc)⟩, by omega, by simp⟩
   · refine aE ?_ (by rfl)
     have h1 : k = l.length := by omega
     rw [kY (h1 ▸ ha)]
theorem Q6 {s : Str} {l : List Str} : decide (0 ≤ idx (fun x => decide (s = x)) l) = l.contains s := by
 rw [pL, List.contains_eq_any_beq]
 congr 1
 funext x
 exact dC.2 (by simp)
theorem zN (l : List Str) (s : Str) (hl : l.length ≤ 140737488355328): CT 84 [avs l, .s s] (.b (l.contains s)) := by
 refine bI mixed Tryz.func84 g0 ?_
 · simp -implicitDefEqProofs (disch := omega) only [Tryz.f84, go_sem, List.replicate, simprocAttr, avs]
   (refine zs1 (bJa l s hl) ?_; repeat' first | exact trivial | refine zJ ?_ ?_ | refine zH fun hc => ?_)
   refine aE ?_ (by rfl)
   rw [Q6]
theorem aBj {l m : List Str} (hl : l.length = m.length) (h : ∀ j, j < l.length → l.getD j [] = m.getD j []) : l = m := by
 apply L5 hl
 intro j h1 h2
 have := h j h1
 simpa [List.getD, h1, h2] using this
theorem bFn (l m : List Str) (hl : l.length ≤ 140737488355328) (hm : m.length ≤ 140737488355328): CT 212 [avs l, avs m] (.b (decide (l = m))) := by
 refine bI mixed Tryz.func212 g0 ?_
 · simp -implicitDefEqProofs (disch := omega) only [Tryz.f212, go_sem, List.replicate, simprocAttr, avs]
   (refine zs0 ?_; repeat' first | exact trivial | refine zJ ?_ ?_ | refine zH fun hc => ?_)
   · refine aE ?_ (by rfl)
     have : l ≠ m := fun h => hc (by rw [h])
     rw [zf this]
   refine bT (fun (k : Nat) => [.k, .k, .k, .k, .j, .j, .k, .k, .k, .k, .k, .k, .k, .v (.i .i64 k), .j, .j, .j, .j, .j, .j, .j, .j, .j, .j, .j, .j]) (fun k => []) (fun k => k ≤ l.length ∧ ∀ j, j < k → l.getD j [] = m.getD j []) (fun k => l.length - k) (0) ⟨aG _, fun j h => by omega⟩ rfl (by simp [eQ]) ?_
   rintro k j ⟨hk, ha⟩
   refine zg ?_
   (refine zs0 ?_; repeat' first | exact trivial | refine zJ ?_ ?_ | refine zH fun hc => ?_)
   · refine aE ?_ (by rfl)
     have : l ≠ m := fun h => by simp [h] at *
     rw [zf this]
   · exact ⟨k + 1, ⟨by omega, bE ha (by simpa using hc)⟩, by omega, by simp⟩
   · refine aE ?_ (by rfl)
     have : l = m := aBj (by omega) (fun j hj => ha j (by omega))
     rw [zt this]
theorem bFk (l m : List Str) (hl : l.length ≤ 140737488355328) (hm : m.length ≤ 140737488355328): CT 199 [avs l, avs m] (.b (decide (l = m))) := by
 refine bI mixed Tryz.func199 g0 ?_
 · simp -implicitDefEqProofs (disch := omega) only [Tryz.f199, go_sem, List.replicate, simprocAttr, avs]
   (refine zs0 ?_; repeat' first | exact trivial | refine zJ ?_ ?_ | refine zH fun hc => ?_)
   · refine aE ?_ (by rfl)
     have : l ≠ m := fun h => hc (by rw [h])
     rw [zf this]
   refine bT (fun (k : Nat) => [.k, .k, .k, .k, .j, .j, .k, .k, .k, .k, .k, .k, .k, .v (.i .i64 k), .j, .j, .j, .j, .j, .j, .j, .j, .j, .j, .j, .j]) (fun k => []) (fun k => k ≤ l.length ∧ ∀ j, j < k → l.getD j [] = m.getD j []) (fun k => l.length - k) (0) ⟨aG _, fun j h => by omega⟩ rfl (by simp [eQ]) ?_
   rintro k j ⟨hk, ha⟩
   refine zg ?_
   (refine zs0 ?_; repeat' first | exact trivial | refine zJ ?_ ?_ | refine zH fun hc => ?_)
   · refine aE ?_ (by rfl)
     have : l ≠ m := fun h => by simp [h] at *
     rw [zf this]
   · exact ⟨k + 1, ⟨by omega, bE ha (by simpa using hc)⟩, by omega, by simp⟩
   · refine aE ?_ (by rfl)
     have : l = m := aBj (by omega) (fun j hj => ha j (by omega))
     rw [zt this]
theorem aCd {l : List Str} {k : Nat} (hn : l.Nodup) (hk : k < l.length) : (l.take k).contains (l.getD k []) = false := by
 have : l.getD k [] ∉ l.take k := by
   intro hm
   obtain ⟨j, hj, he⟩ := bR.1 hm

   have := (fC.1 hn) j k (by simp at hj; omega) hk (by simp at hj; omega)
   simp [List.getD, hk] at he
   exact this he
 simpa using this
theorem aCc {l : List Str} (h : ∀ j, j < l.length → (l.take j).contains (l.getD j []) = false) : l.Nodup := by
 refine fC.2 (fun i j hi hj hij he => ?_)
 have := h j hj
 have hm : l.getD j [] ∈ l.take j := by
   rw [bR]
   exact ⟨i, by simp; omega, by simp [List.getD, hj, he]⟩
 have h2 : (l.take j).contains (l.getD j []) = true := by simpa using hm
 rw [h2] at this; cases this
theorem aRz (l : List Str) (hl : l.length ≤ 140737488355328): CT 106 [avs l] (.b (decide l.Nodup)) := by
 refine bI mixed Tryz.func106 g0 ?_
 · simp -implicitDefEqProofs (disch := omega) only [Tryz.f106, go_sem, List.replicate, simprocAttr, avs]
   refine bT (fun (k : Nat) => [.k, .k, .j, .j, .k, .k, .v (.i .i64 k), .j, .j, .j, .j, .j, .j, .j, .j, .j, .j, .j]) (fun k => []) (fun k => k ≤ l.length ∧ ∀ j, j < k → (l.take j).contains (l.getD j []) = false) (fun k => l.length - k) (0) ⟨aG _, fun j h => by omega⟩ rfl (by simp [eQ]) ?_
   rintro k j ⟨hk, ha⟩
   refine zg ?_
   (refine zs1 (vP (l.take k) (l.getD k []) (by simp; omega)) ?_; repeat' first | exact trivial | refine zJ ?_ ?_ | refine zH fun hc => ?_)
   · refine aE ?_ (by rfl)
     rw [zf (fun hn => by rw [aCd hn (by omega)] at hc; cases hc)]
   · exact ⟨k + 1, ⟨by omega, bE ha hc⟩, by omega, by simp⟩
   · refine aE ?_ (by rfl)
     have h1 : k = l.length := by omega
     rw [zt (aCc (h1 ▸ ha))]

def hX : List Str := [[97, 100, 100], [97, 110, 100], [99, 97, 116], [100, 101, 108], [100, 105, 118], [101, 113], [103, 101], [103, 101, 116], [103, 116], [104, 97, 115], [105, 115], [105, 115, 118, 97, 108, 117, 101], [106, 111, 105, 110], [107, 101, 121, 115], [108, 101], [108, 101, 110, 103, 116, 104], [108, 116], [109, 111, 100], [109, 117, 108], [110, 101], [110, 101, 103], [110, 111, 116], [111, 114], [112, 105, 99, 107], [112, 117, 116], [115, 105, 122, 101], [115, 117, 98], [116, 101, 120, 116]]
theorem bNm : CT 210 [] (.own 1 (hX.map .s) hX.length) := by
 refine aF mixed Tryz.func210 g0 ?_
 · skip
   exact H4 rfl rfl rfl rfl rfl
theorem bAk (s : Str): CT 166 [.s s] (.b (hX.contains s)) := by
 refine aF mixed Tryz.func166 g0 ?_
 · skip
   (refine zs2 bNm (vP hX s (by decide)) ?_; repeat' first | exact trivial | refine zJ ?_ ?_ | refine zH fun hc => ?_)
   refine aE ?_ (by rfl)
   rfl
def gM (s : bX) (a : Str) : Bool := mW.contains a || s.sorts.contains a
theorem aGg (s : bX) (a : Str) (hs : s.sorts.length ≤ 140737488355328): CT 105 [.agg (aO s), .s a] (.b (gM s a)) := by
 refine bI mixed Tryz.func105 g0 ?_
 · simp -implicitDefEqProofs (disch := omega) only [Tryz.f105, go_sem, List.replicate, simprocAttr, aO, avs]
   (refine zs3 bAi (vP mW a (by decide)) (vP s.sorts a hs) ?_; repeat' first | exact trivial | refine zJ ?_ ?_ | refine zH fun hc => ?_)
   all_goals (refine aE ?_ (by rfl))
   all_goals simp_all [gM]

theorem aQa : ∀ {l : List AV}, persL l = true → ∀ x ∈ l, pers x = true := by
 intro l h x hx
 obtain ⟨j, hj, rfl⟩ := bR.1 hx
 exact fZ h j _ (by simp [hj])
theorem nA {h : List AObj} {l : List AV} (hl : persL l = true) : l.map (gJ dep h) = l := by
 have : l.map (gJ dep h) = l.map id := jG (fun x hx => by rw [jC, if_pos (aQa hl x hx)]; rfl)
 rw [this, List.map_id]
theorem bIl (l : List Str) (f : FuncId) (a b : List AV) (p : Str → Bool) (hl : l.length ≤ 140737488355328) (ha : persL a = true) (hb : persL b = true) (hw : ∀ k, k < l.length → CT f (a ++ [.s (l.getD k [])] ++ b) (.b (p (l.getD k [])))): CT 193 [avs l, .fn f a b] (.i .i64 (idx p l)) := by
 refine bI mixed Tryz.func193 g0 ?_
 · simp -implicitDefEqProofs (disch := omega) only [Tryz.f193, go_sem, List.replicate, simprocAttr, avs]
   refine bT (fun (k : Nat) => [.k, .k, .k, .k, .j, .j, .k, .k, .v (.i .i64 k), .j, .j, .j, .j, .j, .j, .j, .j, .j, .j]) (fun k => []) (fun k => k ≤ l.length ∧ ∀ j, j < k → p (l.getD j []) = false) (fun k => l.length - k) (0) ⟨aG _, fun j h => by omega⟩ rfl (by simp [eQ]) ?_
   rintro k j ⟨hk, hn⟩
   refine zg ?_
   (refine zs0 ?_; repeat' first | exact trivial | refine zJ ?_ ?_ | refine zH fun hc => ?_)
   · refine aX (hw k (by omega)) ?_ ?_
     · exact zv (zA2 @aT.{0,0} (zA2 (fun h => nA (h := h) ha) (fun h => nA (h := h) hb)))
     · refine zg ?_
       (refine zs0 ?_; repeat' first | exact trivial | refine zJ ?_ ?_ | refine zH fun hc => ?_)
       · refine aE ?_ (by rfl)
         rw [kX (d := []) (k := k) (by omega) hc hn]
       · exact ⟨k + 1, ⟨by omega, bE hn hc⟩, by omega, by simp⟩
   · refine aE ?_ (by rfl)
     have h1 : k = l.length := by omega
     rw [kY (h1 ▸ hn)]
theorem bIz (l : List Str) (f : FuncId) (a b : List AV) (p : Str → Bool) (hl : l.length ≤ 140737488355328) (ha : persL a = true) (hb : persL b = true) (hw : ∀ k, k < l.length → CT f (a ++ [.s (l.getD k [])] ++ b) (.b (p (l.getD k [])))): CT 140 [avs l, .fn f a b] (.b (l.any p)) := by
 refine bI mixed Tryz.func140 g0 ?_
 · simp -implicitDefEqProofs (disch := omega) only [Tryz.f140, go_sem, List.replicate, simprocAttr, avs]
   refine aX (bIl l f a b p hl ha hb hw) ?_ ?_
   · exact zv (zA2 @avs.eq_1 (zA2 ha hb))
   · refine zg ?_
     refine aE ?_ (by rfl)
     rw [pL]

theorem bIy (x : Str) (f : FuncId) (a b : List AV) (p : Bool) (ha : persL a = true) (hb : persL b = true) (hw : CT f (a ++ [.s x] ++ b) (.b p)): CT 141 [.s x, .box [.fn f a b] 0] (.b (!p)) := by
 refine aF mixed Tryz.func141 g0 ?_
 · skip
   refine aX hw ?_ ?_
   · exact zv (zA2 @aT.{0,0} (zA2 (fun h => nA (h := h) ha) (fun h => nA (h := h) hb)))
   · refine zg ?_
     refine aE ?_ (by rfl)
     rfl
theorem aSa (l : List Str) (f : FuncId) (a b : List AV) (p : Str → Bool) (hl : l.length ≤ 140737488355328) (ha : persL a = true) (hb : persL b = true) (hw : ∀ k, k < l.length → CT f (a ++ [.s (l.getD k [])] ++ b) (.b (p (l.getD k [])))): CT 86 [avs l, .fn f a b] (.b (l.all p)) := by
 refine bI mixed Tryz.func86 g0 ?_
 · simp -implicitDefEqProofs (disch := omega) only [Tryz.f86, go_sem, List.replicate, ↓reduceIte, reduceAdd, reduceSub, reduceMul, reduceLeDiff, reduceLT, reduceEqDiff, reduceNeg, Nat.reduceBEq, avs]
   refine aX (bIz l 141 [] [.box [.fn f a b] 0] (fun x => !p x) hl rfl (by simp [persL, pers, ha, hb]) (fun k hk => bIy _ f a b _ ha hb (hw k hk))) ?_ ?_
   · exact zv (zA2 @avs.eq_1 (zA2 ha hb))
   · refine zh (zA2 ha hb) ?_
     refine aE ?_ (by rfl)
     rw [oR]

theorem bNx (s : Str) (hs : s.length ≤ 140737488355328): CT 82 [.s s] (.b (dM s && !fU.contains s)) := by
 refine aF mixed Tryz.func82 g0 ?_
 · skip
   (refine zs3 (H9 s hs) bFu (zN fU s (by decide)) ?_; repeat' first | exact trivial | refine zJ ?_ ?_ | refine zH fun hc => ?_)
   all_goals (refine aE ?_ (by rfl))
   all_goals simp_all

theorem D8 {P : Program} {T : TypeId} (hT : P.underlying T = some .string) {x : Str} : ∀ (l : List Str), dT P T (.s x) (l.map .s) = some (l.findIdx? fun y => decide (x = y))
 | [] => rfl
 | y :: l => by
   simp only [aY, dT, aEq, iO, hT, D8 hT l, gL]
   cases h : decide (x = y) <;> simp
theorem qH {x : Str} {l : List Str} (h : l.contains x = false) : (l.findIdx? fun y => decide (x = y)) = none := by
 rw [eE]
 intro y hy
 have : x ∉ l := by simpa using h
 simp only [decide_eq_false_iff_not]
 exact fun he => this (he ▸ hy)
theorem aOg (x : Str) (l : List Str) : dT Tryz.prog 9 (.s x) (l.map .s) = some (l.findIdx? fun y => decide (x = y)) := D8 un9 l
theorem aAc {x : Str} {l : List Str} (h : l.contains x = true) : ∃ i, i < l.length ∧ (l.findIdx? fun y => decide (x = y)) = some i := by
 cases hf : l.findIdx? fun y => decide (x = y) with
 | none =>
   rw [eE] at hf
   have hm : x ∈ l := by simpa using h
   have := hf x hm
   simp at this
 | some i =>
   rw [fL] at hf
   exact ⟨i, hf.1, rfl⟩
theorem aHs {l : List Str} {k : Nat} (h : k < l.length) : l.take (k + 1) = l.take k ++ [l.getD k []] := by
 rw [oY h]; simp [List.getD, h]
theorem W9 {n i : Nat} {a : AV} (h : i < n) : (List.replicate n a)[i]? = some a := by simp [h]
theorem bAj (l : List Str) (hl : l.length ≤ 140737488355328): CT 81 [avs l] (.b (decide l.Nodup)) := by
 refine bI mixed Tryz.func81 g0 ?_
 · simp -implicitDefEqProofs (disch := omega) only [Tryz.f81, go_sem, List.replicate, simprocAttr, avs]
   refine bT (fun (k : Nat) => [.k, .k, .j, .k, .k, .j, .k, .k, .k, .v (.i .i64 k), .j, .j, .j, .j, .j, .j, .j, .j, .j]) (fun k => [.map false ((l.take k).map .s) (List.replicate k (.b true))]) (fun k => k ≤ l.length ∧ ∀ j, j < k → (l.take j).contains (l.getD j []) = false) (fun k => l.length - k) (0) ⟨aG _, fun j h => by omega⟩ rfl (by simp [eQ]) ?_
   rintro k j ⟨hk, ha⟩
   refine zg ?_
   (refine zs0 ?_; repeat' first | exact trivial | refine zJ ?_ ?_ | refine zH fun hc => ?_)
   · by_cases hx : (l.take k).contains (l.getD k []) = true
     · obtain ⟨i, hi, hf⟩ := aAc hx
       have hi' : i < k := by simp at hi; omega
       simp -implicitDefEqProofs (disch := omega) only [lO, aOg, hf, W9 hi', go_sem, simprocAttr]
       refine aE ?_ (by rfl)
       rw [zf (fun hn => by rw [aCd hn (by omega)] at hx; cases hx)]
     · have hx := fH.2 hx
       simp -implicitDefEqProofs (disch := omega) only [lO, aOg, qH hx, go_sem, simprocAttr]
       refine ⟨k + 1, ⟨by omega, bE ha hx⟩, by omega, ?_, by simp⟩
       rw [aHs (by omega), aT, aGz]; rfl
   · refine aE ?_ (by rfl)
     have h1 : k = l.length := by omega
     rw [zt (aCc (h1 ▸ ha))]

def elB (x : Str × Str) : AV := .agg (bU x)
def elO (x : LOp) : AV := .agg (bA x)
attribute [go_sem] elB elO
theorem bIj (l : List (Str × Str)) (f : FuncId) (a b : List AV) (p : Str × Str → Bool) (hl : l.length ≤ 140737488355328) (ha : persL a = true) (hb : persL b = true) (hw : ∀ k, k < l.length → CT f (a ++ [elB (l.getD k ([], []))] ++ b) (.b (p (l.getD k ([], []))))): CT 194 [avb l, .fn f a b] (.i .i64 (idx p l)) := by
 refine aF mixed Tryz.func194 g0 ?_
 · skip
   refine bT (fun (k : Nat) => [.k, .k, .k, .k, .j, .j, .k, .k, .v (.i .i64 k), .j, .j, .j, .j, .j, .j, .j, .j, .j, .j]) (fun k => []) (fun k => k ≤ l.length ∧ ∀ j, j < k → p (l.getD j ([], [])) = false) (fun k => l.length - k) (0) ⟨aG _, fun j h => by omega⟩ rfl (by simp [eQ]) ?_
   rintro k j ⟨hk, hn⟩
   refine zg ?_
   (refine zs0 ?_; repeat' first | exact trivial | refine zJ ?_ ?_ | refine zH fun hc => ?_)
   · refine aX (hw k (by omega)) ?_ ?_
     · exact zv (zA2 @aT.{0,0} (zA2 (fun h => nA (h := h) ha) (fun h => nA (h := h) hb)))
     · refine zg ?_
       (refine zs0 ?_; repeat' first | exact trivial | refine zJ ?_ ?_ | refine zH fun hc => ?_)
       · refine aE ?_ (by rfl)
         rw [kX (d := ([], [])) (k := k) (by omega) hc hn]
       · exact ⟨k + 1, ⟨by omega, bE hn hc⟩, by omega, by simp⟩
   · refine aE ?_ (by rfl)
     have h1 : k = l.length := by omega
     rw [kY (h1 ▸ hn)]
theorem bIi (l : List (LOp)) (f : FuncId) (a b : List AV) (p : LOp → Bool) (hl : l.length ≤ 140737488355328) (ha : persL a = true) (hb : persL b = true) (hw : ∀ k, k < l.length → CT f (a ++ [elO (l.getD k default)] ++ b) (.b (p (l.getD k default)))): CT 195 [avo l, .fn f a b] (.i .i64 (idx p l)) := by
 refine aF mixed Tryz.func195 g0 ?_
 · skip
   refine bT (fun (k : Nat) => [.k, .k, .k, .k, .j, .j, .k, .k, .v (.i .i64 k), .j, .j, .j, .j, .j, .j, .j, .j, .j, .j]) (fun k => []) (fun k => k ≤ l.length ∧ ∀ j, j < k → p (l.getD j default) = false) (fun k => l.length - k) (0) ⟨aG _, fun j h => by omega⟩ rfl (by simp [eQ]) ?_
   rintro k j ⟨hk, hn⟩
   refine zg ?_
   (refine zs0 ?_; repeat' first | exact trivial | refine zJ ?_ ?_ | refine zH fun hc => ?_)
   · refine aX (hw k (by omega)) ?_ ?_
     · exact zv (zA2 @aT.{0,0} (zA2 (fun h => nA (h := h) ha) (fun h => nA (h := h) hb)))
     · refine zg ?_
       (refine zs0 ?_; repeat' first | exact trivial | refine zJ ?_ ?_ | refine zH fun hc => ?_)
       · refine aE ?_ (by rfl)
         rw [kX (d := default) (k := k) (by omega) hc hn]
       · exact ⟨k + 1, ⟨by omega, bE hn hc⟩, by omega, by simp⟩
   · refine aE ?_ (by rfl)
     have h1 : k = l.length := by omega
     rw [kY (h1 ▸ hn)]
theorem bIc (l : List (Int)) (f : FuncId) (a b : List AV) (p : Int → Bool) (hl : l.length ≤ 140737488355328) (ha : persL a = true) (hb : persL b = true) (hw : ∀ k, k < l.length → CT f (a ++ [.i .i64 (l.getD k 0)] ++ b) (.b (p (l.getD k 0)))): CT 153 [avi l, .fn f a b] (.i .i64 (idx p l)) := by
 refine aF mixed Tryz.func153 g0 ?_
 · skip
   refine bT (fun (k : Nat) => [.k, .k, .k, .k, .j, .j, .k, .k, .v (.i .i64 k), .j, .j, .j, .j, .j, .j, .j, .j, .j, .j]) (fun k => []) (fun k => k ≤ l.length ∧ ∀ j, j < k → p (l.getD j 0) = false) (fun k => l.length - k) (0) ⟨aG _, fun j h => by omega⟩ rfl (by simp [eQ]) ?_
   rintro k j ⟨hk, hn⟩
   refine zg ?_
   (refine zs0 ?_; repeat' first | exact trivial | refine zJ ?_ ?_ | refine zH fun hc => ?_)
   · refine aX (hw k (by omega)) ?_ ?_
     · exact zv (zA2 @aT.{0,0} (zA2 (fun h => nA (h := h) ha) (fun h => nA (h := h) hb)))
     · refine zg ?_
       (refine zs0 ?_; repeat' first | exact trivial | refine zJ ?_ ?_ | refine zH fun hc => ?_)
       · refine aE ?_ (by rfl)
         rw [kX (d := 0) (k := k) (by omega) hc hn]
       · exact ⟨k + 1, ⟨by omega, bE hn hc⟩, by omega, by simp⟩
   · refine aE ?_ (by rfl)
     have h1 : k = l.length := by omega
     rw [kY (h1 ▸ hn)]

theorem bIv (l : List (Str × Str)) (f : FuncId) (a b : List AV) (p : Str × Str → Bool) (hl : l.length ≤ 140737488355328) (ha : persL a = true) (hb : persL b = true) (hw : ∀ k, k < l.length → CT f (a ++ [elB (l.getD k ([], []))] ++ b) (.b (p (l.getD k ([], []))))): CT 142 [avb l, .fn f a b] (.b (l.any p)) := by
 refine aF mixed Tryz.func142 g0 ?_
 · skip
   refine aX (bIj l f a b p hl ha hb hw) ?_ ?_
   · exact zv (zA2 ha hb)
   · refine zg ?_
     refine aE ?_ (by rfl)
     rw [pL]
theorem bIt (l : List (LOp)) (f : FuncId) (a b : List AV) (p : LOp → Bool) (hl : l.length ≤ 140737488355328) (ha : persL a = true) (hb : persL b = true) (hw : ∀ k, k < l.length → CT f (a ++ [elO (l.getD k default)] ++ b) (.b (p (l.getD k default)))): CT 144 [avo l, .fn f a b] (.b (l.any p)) := by
 refine aF mixed Tryz.func144 g0 ?_
 · skip
   refine aX (bIi l f a b p hl ha hb hw) ?_ ?_
   · exact zv (zA2 ha hb)
   · refine zg ?_
     refine aE ?_ (by rfl)
     rw [pL]
theorem bIh (l : List (Int)) (f : FuncId) (a b : List AV) (p : Int → Bool) (hl : l.length ≤ 140737488355328) (ha : persL a = true) (hb : persL b = true) (hw : ∀ k, k < l.length → CT f (a ++ [.i .i64 (l.getD k 0)] ++ b) (.b (p (l.getD k 0)))): CT 96 [avi l, .fn f a b] (.b (l.any p)) := by
 refine aF mixed Tryz.func96 g0 ?_
 · skip
   refine aX (bIc l f a b p hl ha hb hw) ?_ ?_
   · exact zv (zA2 ha hb)
   · refine zg ?_
     refine aE ?_ (by rfl)
     rw [pL]

theorem bIu (x : Str × Str) (f : FuncId) (a b : List AV) (p : Bool) (ha : persL a = true) (hb : persL b = true) (hw : CT f (a ++ [elB x] ++ b) (.b p)): CT 143 [elB x, .box [.fn f a b] 0] (.b (!p)) := by
 refine aF mixed Tryz.func143 g0 ?_
 · skip
   refine aX hw ?_ ?_
   · exact zv (zA2 @aT.{0,0} (zA2 (fun h => nA (h := h) ha) (fun h => nA (h := h) hb)))
   · refine zg ?_
     refine aE ?_ (by rfl)
     rfl
theorem bIs (x : LOp) (f : FuncId) (a b : List AV) (p : Bool) (ha : persL a = true) (hb : persL b = true) (hw : CT f (a ++ [elO x] ++ b) (.b p)): CT 145 [elO x, .box [.fn f a b] 0] (.b (!p)) := by
 refine aF mixed Tryz.func145 g0 ?_
 · skip
   refine aX hw ?_ ?_
   · exact zv (zA2 @aT.{0,0} (zA2 (fun h => nA (h := h) ha) (fun h => nA (h := h) hb)))
   · refine zg ?_
     refine aE ?_ (by rfl)
     rfl
theorem bIg (x : Int) (f : FuncId) (a b : List AV) (p : Bool) (ha : persL a = true) (hb : persL b = true) (hw : CT f (a ++ [.i .i64 x] ++ b) (.b p)): CT 197 [.i .i64 x, .box [.fn f a b] 0] (.b (!p)) := by
 refine aF mixed Tryz.func197 g0 ?_
 · skip
   refine aX hw ?_ ?_
   · exact zv (zA2 @aT.{0,0} (zA2 (fun h => nA (h := h) ha) (fun h => nA (h := h) hb)))
   · refine zg ?_
     refine aE ?_ (by rfl)
     rfl

theorem bNw (l : List (Str × Str)) (f : FuncId) (a b : List AV) (p : Str × Str → Bool) (hl : l.length ≤ 140737488355328) (ha : persL a = true) (hb : persL b = true) (hw : ∀ k, k < l.length → CT f (a ++ [elB (l.getD k ([], []))] ++ b) (.b (p (l.getD k ([], []))))): CT 88 [avb l, .fn f a b] (.b (l.all p)) := by
 refine aF mixed Tryz.func88 g0 ?_
 · skip
   refine aX (bIv l 143 [] [.box [.fn f a b] 0] (fun x => !p x) hl rfl (by simp [persL, pers, ha, hb]) (fun k hk => bIu _ f a b _ ha hb (hw k hk))) ?_ ?_
   · exact zv (zA2 ha hb)
   · refine zh (zA2 ha hb) ?_
     refine aE ?_ (by rfl)
     rw [oR]
theorem bFp (l : List (LOp)) (f : FuncId) (a b : List AV) (p : LOp → Bool) (hl : l.length ≤ 140737488355328) (ha : persL a = true) (hb : persL b = true) (hw : ∀ k, k < l.length → CT f (a ++ [elO (l.getD k default)] ++ b) (.b (p (l.getD k default)))): CT 91 [avo l, .fn f a b] (.b (l.all p)) := by
 refine aF mixed Tryz.func91 g0 ?_
 · skip
   refine aX (bIt l 145 [] [.box [.fn f a b] 0] (fun x => !p x) hl rfl (by simp [persL, pers, ha, hb]) (fun k hk => bIs _ f a b _ ha hb (hw k hk))) ?_ ?_
   · exact zv (zA2 ha hb)
   · refine zh (zA2 ha hb) ?_
     refine aE ?_ (by rfl)
     rw [oR]
theorem bIq (l : List (Int)) (f : FuncId) (a b : List AV) (p : Int → Bool) (hl : l.length ≤ 140737488355328) (ha : persL a = true) (hb : persL b = true) (hw : ∀ k, k < l.length → CT f (a ++ [.i .i64 (l.getD k 0)] ++ b) (.b (p (l.getD k 0)))): CT 149 [avi l, .fn f a b] (.b (l.all p)) := by
 refine aF mixed Tryz.func149 g0 ?_
 · skip
   refine aX (bIh l 197 [] [.box [.fn f a b] 0] (fun x => !p x) hl rfl (by simp [persL, pers, ha, hb]) (fun k hk => bIg _ f a b _ ha hb (hw k hk))) ?_ ?_
   · exact zv (zA2 ha hb)
   · refine zh (zA2 ha hb) ?_
     refine aE ?_ (by rfl)
     rw [oR]

theorem rT {α : Type} [DecidableEq α] {P : Program} {T : TypeId} {el : α → AV} (hT : ∀ x y, aEq P T (el x) (el y) = some (decide (x = y))) {x : α} : ∀ (l : List α), dT P T (el x) (l.map el) = some (l.findIdx? fun y => decide (x = y))
 | [] => rfl
 | y :: l => by
   simp only [aY, dT, hT, rT hT l, gL]
   cases h : decide (x = y) <;> simp
theorem bPf (x : Str × Str) (l : List (Str × Str)) : dT Tryz.prog 122 (elB x) (l.map elB) = some (l.findIdx? fun y => decide (x = y)) := rT (fun x y => by
 simp only [elB, bU, aEq, bLy, fQ, iO, un9, aA]
 rw [dC]; simp [Prod.ext_iff]) l
theorem bPe (x : Int) (l : List Int) : dT Tryz.prog 3 (.i .i64 x) (l.map (.i .i64)) = some (l.findIdx? fun y => decide (x = y)) := rT (fun x y => by
 simp [aEq, iO, un3]) l
theorem lQ {α : Type} [BEq α] [LawfulBEq α] [DecidableEq α] {x : α} {l : List α} (h : l.contains x = false) : (l.findIdx? fun y => decide (x = y)) = none := by
 rw [eE]
 intro y hy
 have : x ∉ l := by simpa using h
 simp only [decide_eq_false_iff_not]
 exact fun he => this (he ▸ hy)
theorem vB {α : Type} [BEq α] [LawfulBEq α] [DecidableEq α] {x : α} {l : List α} (h : l.contains x = true) : ∃ i, i < l.length ∧ (l.findIdx? fun y => decide (x = y)) = some i := by
 cases hf : l.findIdx? fun y => decide (x = y) with
 | none =>
   rw [eE] at hf
   have hm : x ∈ l := by simpa using h
   have := hf x hm
   simp at this
 | some i =>
   rw [fL] at hf
   exact ⟨i, hf.1, rfl⟩
theorem lN {α : Type} [BEq α] [LawfulBEq α] [DecidableEq α] {l : List α} {k : Nat} {d : α} (hn : l.Nodup) (hk : k < l.length) : (l.take k).contains (l.getD k d) = false := by
 have : l.getD k d ∉ l.take k := by
   intro hm
   obtain ⟨j, hj, he⟩ := bR.1 hm
   have := (fC.1 hn) j k (by simp at hj; omega) hk (by simp at hj; omega)
   simp [List.getD, hk] at he
   exact this he
 simpa using this
theorem sQ {α : Type} [BEq α] [LawfulBEq α] [DecidableEq α] {l : List α} {d : α} (h : ∀ j, j < l.length → (l.take j).contains (l.getD j d) = false) : l.Nodup := by
 refine fC.2 (fun i j hi hj hij he => ?_)
 have := h j hj
 have hm : l.getD j d ∈ l.take j := by
   rw [bR]
   exact ⟨i, by simp; omega, by simp [List.getD, hj, he]⟩
 have h2 : (l.take j).contains (l.getD j d) = true := by simpa using hm
 rw [h2] at this; cases this

theorem bNy (l : List (Str × Str)) (hl : l.length ≤ 140737488355328): CT 80 [avb l] (.b (decide l.Nodup)) := by
 refine aF mixed Tryz.func80 g0 ?_
 · skip
   refine dV (fun (k : Nat) => [.k, .k, .j, .k, .k, .j, .k, .k, .k, .v (.i .i64 k), .j, .j, .j, .j, .j, .j, .j, .j, .j]) (fun k => [.map false ((l.take k).map elB) (List.replicate k (.b true))]) (fun k => k ≤ l.length ∧ ∀ j, j < k → (l.take j).contains (l.getD j ([], [])) = false) (fun k => l.length - k) (0) _ ⟨aG _, fun j h => by omega⟩ rfl (by simp [eQ]) ?_
   rintro k g j ⟨hk, ha⟩
   refine zg ?_
   (refine zs0 ?_; repeat' first | exact trivial | refine zJ ?_ ?_ | refine zH fun hc => ?_)
   · by_cases hx : (l.take k).contains (l.getD k ([], [])) = true
     · obtain ⟨i, hi, hf⟩ := vB hx
       have hi' : i < k := by simp at hi; omega
       have hk2 := bPf (l.getD k ([], [])) (l.take k)
       simp only [elB, bU] at hk2
       simp -implicitDefEqProofs (disch := omega) only [lO, hk2, hf, W9 hi', go_sem, simprocAttr]
       refine aE ?_ (by rfl)
       rw [zf (fun hn => by rw [lN hn (by omega)] at hx; cases hx)]
     · have hx := fH.2 hx
       have hk2 := bPf (l.getD k ([], [])) (l.take k)
       simp only [elB, bU] at hk2
       refine zh (zA2 @lO.eq_1 (zA2 hk2 (lQ hx))) ?_
       refine ⟨k + 1, _, ⟨by omega, bE ha hx⟩, by omega, congr (congrArg List.cons ?_) rfl, by simp⟩
       rw [eX (d := ([], [])) (by omega), aT, aGz]; rfl
   · refine aE ?_ (by rfl)
     have h1 : k = l.length := by omega
     rw [zt (sQ (h1 ▸ ha))]
theorem bIp (l : List Int) (hl : l.length ≤ 140737488355328): CT 150 [avi l] (.b (decide l.Nodup)) := by
 refine aF mixed Tryz.func150 g0 ?_
 · skip
   refine bT (fun (k : Nat) => [.k, .k, .j, .k, .k, .j, .k, .k, .k, .v (.i .i64 k), .j, .j, .j, .j, .j, .j, .j, .j, .j]) (fun k => [.map false ((l.take k).map (.i .i64)) (List.replicate k (.b true))]) (fun k => k ≤ l.length ∧ ∀ j, j < k → (l.take j).contains (l.getD j 0) = false) (fun k => l.length - k) (0) ⟨aG _, fun j h => by omega⟩ rfl (by simp [eQ]) ?_
   rintro k j ⟨hk, ha⟩
   refine zg ?_
   (refine zs0 ?_; repeat' first | exact trivial | refine zJ ?_ ?_ | refine zH fun hc => ?_)
   · by_cases hx : (l.take k).contains (l.getD k 0) = true
     · obtain ⟨i, hi, hf⟩ := vB hx
       have hi' : i < k := by simp at hi; omega
       simp -implicitDefEqProofs (disch := omega) only [lO, bPe, hf, W9 hi', go_sem, simprocAttr]
       refine aE ?_ (by rfl)
       rw [zf (fun hn => by rw [lN hn (by omega)] at hx; cases hx)]
     · have hx := fH.2 hx
       simp -implicitDefEqProofs (disch := omega) only [lO, bPe, lQ hx, go_sem, simprocAttr]
       refine ⟨k + 1, ⟨by omega, bE ha hx⟩, by omega, ?_, by simp⟩
       rw [eX (d := 0) (by omega), aT, aGz]; rfl
   · refine aE ?_ (by rfl)
     have h1 : k = l.length := by omega
     rw [zt (sQ (h1 ▸ ha))]

def mx : Nat := 140737488355328
structure OkO (o : LOp) : Prop where
 name : o.name.length ≤ 140737488355328
 args : o.args.length ≤ 140737488355328
 argsS : ∀ x ∈ o.args, x.length ≤ 140737488355328
 sort : o.sort.length ≤ 140737488355328
 pieces : o.pieces.length ≤ 140737488355328
 piecesS : ∀ x ∈ o.pieces, x.1.length ≤ 140737488355328 ∧ x.2.length ≤ 140737488355328
 strict : o.strict.length ≤ 140737488355328
 piecesT : o.pieces.length ≤ 4398046511104
 argsT : o.args.length ≤ 8796093022208
 strictT : o.strict.length ≤ 17592186044416
structure OkS (s : bX) : Prop where
 sorts : s.sorts.length ≤ 140737488355328
 sortsS : ∀ x ∈ s.sorts, x.length ≤ 140737488355328
 below : s.below.length ≤ 140737488355328
 belowS : ∀ x ∈ s.below, x.1.length ≤ 140737488355328 ∧ x.2.length ≤ 140737488355328
 ops : s.ops.length ≤ 140737488355328
 opsO : ∀ x ∈ s.ops, OkO x
 funs : s.funs.length ≤ 140737488355328
 funsO : ∀ x ∈ s.funs, OkO x
 values : s.values.length ≤ 140737488355328
 opsT : s.ops.length ≤ 1172812402961
 funsT : s.funs.length ≤ 1172812402961
 valuesS : ∀ x ∈ s.values, x.length ≤ 140737488355328
theorem aV {α : Type} {l : List α} {d : α} {k : Nat} (h : k < l.length) : l.getD k d ∈ l := by simp [List.getD, h]

end Go.Proofs.YtifefbhllfdmlaaGreatDoor

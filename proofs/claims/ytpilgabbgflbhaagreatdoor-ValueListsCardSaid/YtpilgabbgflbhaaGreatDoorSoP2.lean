/-
  The types of the program, as far as its code asks; no condition.
-/
import Derived.Test.YtpilgabbgflbhaaGreatDoorProg
import Derived.Test.YtpilgabbgflbhaaGreatDoorVoP4
import Derived.Lib.Space
import Derived.Lib.ItoaNum
import Derived.Test.YtpilgabbgflbhaaGreatDoorSoP1
set_option linter.unusedVariables false
set_option maxRecDepth 100000
set_option linter.unusedSimpArgs false
set_option maxHeartbeats 4000000
namespace Go.Proofs.YtpilgabbgflbhaaGreatDoor
open Go Go.Vo
open Nat (reduceAdd reduceSub reduceMul reduceLeDiff reduceLT reduceEqDiff)
open Int (reduceNeg)
theorem mixed : Tryz.prog.follows .mixedOrders = true := by kernel_rfl
def asciiCells : List AV := Lib.asciiSpaceTab.map (.i .u8)
def powCells : List AV := Lib.pow10Tab.map (.i .u64)
def G0 : Glob := fun g => if g = 0 then some (.box asciiCells 0) else if g = 2 then some (.box powCells 0) else none
theorem g0 : GPers G0 := fun k a h => by
 unfold G0 at h
 split at h
 · cases h; simp only [pers, asciiCells, persL_i]
 · split at h
   · cases h; simp only [pers, powCells, persL_i]
   · cases h
@[go_sem] theorem az3 : arrSz Tryz.prog 3 = none := by kernel_rfl
@[go_sem] theorem az9 : arrSz Tryz.prog 9 = none := by kernel_rfl
@[go_sem] theorem az26 : arrSz Tryz.prog 26 = none := by kernel_rfl
@[go_sem] theorem az27 : arrSz Tryz.prog 27 = none := by kernel_rfl
@[go_sem] theorem az32 : arrSz Tryz.prog 32 = none := by kernel_rfl
@[go_sem] theorem az43 : arrSz Tryz.prog 43 = none := by kernel_rfl
@[go_sem] theorem az46 : arrSz Tryz.prog 46 = some 6 := by kernel_rfl
@[go_sem] theorem az55 : arrSz Tryz.prog 55 = some 6 := by kernel_rfl
@[go_sem] theorem az61 : arrSz Tryz.prog 61 = none := by kernel_rfl
@[go_sem] theorem az72 : arrSz Tryz.prog 72 = none := by kernel_rfl
@[go_sem] theorem az83 : arrSz Tryz.prog 83 = none := by kernel_rfl
@[go_sem] theorem az89 : arrSz Tryz.prog 89 = none := by kernel_rfl
@[go_sem] theorem az91 : arrSz Tryz.prog 91 = none := by kernel_rfl
@[go_sem] theorem az95 : arrSz Tryz.prog 95 = none := by kernel_rfl
@[go_sem] theorem az116 : arrSz Tryz.prog 116 = none := by kernel_rfl
@[go_sem] theorem az122 : arrSz Tryz.prog 122 = none := by kernel_rfl
@[go_sem] theorem az147 : arrSz Tryz.prog 147 = none := by kernel_rfl
@[go_sem] theorem az161 : arrSz Tryz.prog 161 = none := by kernel_rfl
@[go_sem] theorem az174 : arrSz Tryz.prog 174 = none := by kernel_rfl
@[go_sem] theorem az180 : arrSz Tryz.prog 180 = none := by kernel_rfl
@[go_sem] theorem az182 : arrSz Tryz.prog 182 = some 1 := by kernel_rfl
@[go_sem] theorem az195 : arrSz Tryz.prog 195 = some 1 := by kernel_rfl
@[go_sem] theorem sz2 : szOf Tryz.prog 2 = some 1 := by kernel_rfl
@[go_sem] theorem ag2 : isAggT Tryz.prog 2 = some false := by kernel_rfl
@[go_sem] theorem by2 : byOf Tryz.prog 2 = some 8 := by kernel_rfl
@[go_sem] theorem zo2 : zeroOf Tryz.prog 2 = some [.i .i64 0] := by kernel_rfl
@[go_sem] theorem zv2 : zeroVal Tryz.prog 2 = some (.i .i64 0) := by kernel_rfl
@[go_sem] theorem un2 : Program.underlying Tryz.prog 2 = some (.int .i64) := by kernel_rfl
@[go_sem] theorem sz3 : szOf Tryz.prog 3 = some 1 := by kernel_rfl
@[go_sem] theorem ag3 : isAggT Tryz.prog 3 = some false := by kernel_rfl
@[go_sem] theorem by3 : byOf Tryz.prog 3 = some 8 := by kernel_rfl
@[go_sem] theorem zo3 : zeroOf Tryz.prog 3 = some [.i .i64 0] := by kernel_rfl
@[go_sem] theorem zv3 : zeroVal Tryz.prog 3 = some (.i .i64 0) := by kernel_rfl
@[go_sem] theorem un3 : Program.underlying Tryz.prog 3 = some (.int .i64) := by kernel_rfl
@[go_sem] theorem sz4 : szOf Tryz.prog 4 = some 1 := by kernel_rfl
@[go_sem] theorem ag4 : isAggT Tryz.prog 4 = some false := by kernel_rfl
@[go_sem] theorem by4 : byOf Tryz.prog 4 = some 1 := by kernel_rfl
@[go_sem] theorem zo4 : zeroOf Tryz.prog 4 = some [.b false] := by kernel_rfl
@[go_sem] theorem zv4 : zeroVal Tryz.prog 4 = some (.b false) := by kernel_rfl
@[go_sem] theorem un4 : Program.underlying Tryz.prog 4 = some .bool := by kernel_rfl
@[go_sem] theorem sz5 : szOf Tryz.prog 5 = some 1 := by kernel_rfl
@[go_sem] theorem ag5 : isAggT Tryz.prog 5 = some false := by kernel_rfl
@[go_sem] theorem by5 : byOf Tryz.prog 5 = some 1 := by kernel_rfl
@[go_sem] theorem zo5 : zeroOf Tryz.prog 5 = some [.i .u8 0] := by kernel_rfl
@[go_sem] theorem zv5 : zeroVal Tryz.prog 5 = some (.i .u8 0) := by kernel_rfl
@[go_sem] theorem un5 : Program.underlying Tryz.prog 5 = some (.int .u8) := by kernel_rfl
@[go_sem] theorem sz9 : szOf Tryz.prog 9 = some 1 := by kernel_rfl
@[go_sem] theorem ag9 : isAggT Tryz.prog 9 = some false := by kernel_rfl
@[go_sem] theorem by9 : byOf Tryz.prog 9 = some 16 := by kernel_rfl
@[go_sem] theorem zo9 : zeroOf Tryz.prog 9 = some [.s []] := by kernel_rfl
@[go_sem] theorem zv9 : zeroVal Tryz.prog 9 = some (.s []) := by kernel_rfl
@[go_sem] theorem un9 : Program.underlying Tryz.prog 9 = some .string := by kernel_rfl
@[go_sem] theorem sz21 : szOf Tryz.prog 21 = some 1 := by kernel_rfl
@[go_sem] theorem ag21 : isAggT Tryz.prog 21 = some false := by kernel_rfl
@[go_sem] theorem by21 : byOf Tryz.prog 21 = some 4 := by kernel_rfl
@[go_sem] theorem zo21 : zeroOf Tryz.prog 21 = some [.i .i32 0] := by kernel_rfl
@[go_sem] theorem zv21 : zeroVal Tryz.prog 21 = some (.i .i32 0) := by kernel_rfl
@[go_sem] theorem un21 : Program.underlying Tryz.prog 21 = some (.int .i32) := by kernel_rfl
@[go_sem] theorem sz22 : szOf Tryz.prog 22 = some 1 := by kernel_rfl
@[go_sem] theorem ag22 : isAggT Tryz.prog 22 = some false := by kernel_rfl
@[go_sem] theorem by22 : byOf Tryz.prog 22 = some 24 := by kernel_rfl
@[go_sem] theorem zo22 : zeroOf Tryz.prog 22 = some [.e0] := by kernel_rfl
@[go_sem] theorem zv22 : zeroVal Tryz.prog 22 = some (.e0) := by kernel_rfl
@[go_sem] theorem un22 : Program.underlying Tryz.prog 22 = some (.slice 9) := by kernel_rfl
@[go_sem] theorem el22 : elemOf? Tryz.prog 22 = some 9 := by kernel_rfl
@[go_sem] theorem sz23 : szOf Tryz.prog 23 = some 1 := by kernel_rfl
@[go_sem] theorem ag23 : isAggT Tryz.prog 23 = some false := by kernel_rfl
@[go_sem] theorem by23 : byOf Tryz.prog 23 = some 24 := by kernel_rfl
@[go_sem] theorem zo23 : zeroOf Tryz.prog 23 = some [.e0] := by kernel_rfl
@[go_sem] theorem zv23 : zeroVal Tryz.prog 23 = some (.e0) := by kernel_rfl
@[go_sem] theorem un23 : Program.underlying Tryz.prog 23 = some (.slice 83) := by kernel_rfl
@[go_sem] theorem el23 : elemOf? Tryz.prog 23 = some 83 := by kernel_rfl
@[go_sem] theorem sz24 : szOf Tryz.prog 24 = some 1 := by kernel_rfl
@[go_sem] theorem ag24 : isAggT Tryz.prog 24 = some false := by kernel_rfl
@[go_sem] theorem by24 : byOf Tryz.prog 24 = some 24 := by kernel_rfl
@[go_sem] theorem zo24 : zeroOf Tryz.prog 24 = some [.e0] := by kernel_rfl
@[go_sem] theorem zv24 : zeroVal Tryz.prog 24 = some (.e0) := by kernel_rfl
@[go_sem] theorem un24 : Program.underlying Tryz.prog 24 = some (.slice 72) := by kernel_rfl
@[go_sem] theorem el24 : elemOf? Tryz.prog 24 = some 72 := by kernel_rfl
@[go_sem] theorem sz26 : szOf Tryz.prog 26 = some 5 := by kernel_rfl
@[go_sem] theorem ag26 : isAggT Tryz.prog 26 = some true := by kernel_rfl
@[go_sem] theorem by26 : byOf Tryz.prog 26 = some 120 := by kernel_rfl
@[go_sem] theorem zo26 : zeroOf Tryz.prog 26 = some [.e0, .e0, .e0, .e0, .e0] := by kernel_rfl
@[go_sem] theorem zv26 : zeroVal Tryz.prog 26 = some (.agg [.e0, .e0, .e0, .e0, .e0]) := by kernel_rfl
@[go_sem] theorem fo26_0 : fieldOf? Tryz.prog 26 0 = some (0, 22) := by kernel_rfl
@[go_sem] theorem fa26_0 : fieldAt? Tryz.prog 26 0 = some (0, some 1) := by kernel_rfl
@[go_sem] theorem fo26_1 : fieldOf? Tryz.prog 26 1 = some (1, 23) := by kernel_rfl
@[go_sem] theorem fa26_1 : fieldAt? Tryz.prog 26 1 = some (1, some 1) := by kernel_rfl
@[go_sem] theorem fo26_2 : fieldOf? Tryz.prog 26 2 = some (2, 24) := by kernel_rfl
@[go_sem] theorem fa26_2 : fieldAt? Tryz.prog 26 2 = some (2, some 1) := by kernel_rfl
@[go_sem] theorem fo26_3 : fieldOf? Tryz.prog 26 3 = some (3, 24) := by kernel_rfl
@[go_sem] theorem fa26_3 : fieldAt? Tryz.prog 26 3 = some (3, some 1) := by kernel_rfl
@[go_sem] theorem fo26_4 : fieldOf? Tryz.prog 26 4 = some (4, 22) := by kernel_rfl
@[go_sem] theorem fa26_4 : fieldAt? Tryz.prog 26 4 = some (4, some 1) := by kernel_rfl
@[go_sem] theorem pl26 : placesOf Tryz.prog 26 = some [(0, 1), (1, 1), (2, 1), (3, 1), (4, 1)] := by kernel_rfl
@[go_sem] theorem sz27 : szOf Tryz.prog 27 = some 1 := by kernel_rfl
@[go_sem] theorem ag27 : isAggT Tryz.prog 27 = some false := by kernel_rfl
@[go_sem] theorem by27 : byOf Tryz.prog 27 = some 24 := by kernel_rfl
@[go_sem] theorem zo27 : zeroOf Tryz.prog 27 = some [.e0] := by kernel_rfl
@[go_sem] theorem zv27 : zeroVal Tryz.prog 27 = some (.e0) := by kernel_rfl
@[go_sem] theorem un27 : Program.underlying Tryz.prog 27 = some (.slice 32) := by kernel_rfl
@[go_sem] theorem el27 : elemOf? Tryz.prog 27 = some 32 := by kernel_rfl
@[go_sem] theorem sz30 : szOf Tryz.prog 30 = some 1 := by kernel_rfl
@[go_sem] theorem ag30 : isAggT Tryz.prog 30 = some false := by kernel_rfl
@[go_sem] theorem by30 : byOf Tryz.prog 30 = some 8 := by kernel_rfl
@[go_sem] theorem zo30 : zeroOf Tryz.prog 30 = some [.i .i64 0] := by kernel_rfl
@[go_sem] theorem zv30 : zeroVal Tryz.prog 30 = some (.i .i64 0) := by kernel_rfl
@[go_sem] theorem un30 : Program.underlying Tryz.prog 30 = some (.int .i64) := by kernel_rfl
@[go_sem] theorem sz32 : szOf Tryz.prog 32 = some 6 := by kernel_rfl
@[go_sem] theorem ag32 : isAggT Tryz.prog 32 = some true := by kernel_rfl
@[go_sem] theorem by32 : byOf Tryz.prog 32 = some 96 := by kernel_rfl
@[go_sem] theorem zo32 : zeroOf Tryz.prog 32 = some [.i .i64 0, .i .i64 0, .s [], .s [], .e0, .e0] := by kernel_rfl
@[go_sem] theorem zv32 : zeroVal Tryz.prog 32 = some (.agg [.i .i64 0, .i .i64 0, .s [], .s [], .e0, .e0]) := by kernel_rfl
@[go_sem] theorem fo32_0 : fieldOf? Tryz.prog 32 0 = some (0, 30) := by kernel_rfl
@[go_sem] theorem fa32_0 : fieldAt? Tryz.prog 32 0 = some (0, some 1) := by kernel_rfl
@[go_sem] theorem fo32_1 : fieldOf? Tryz.prog 32 1 = some (1, 3) := by kernel_rfl
@[go_sem] theorem fa32_1 : fieldAt? Tryz.prog 32 1 = some (1, some 1) := by kernel_rfl
@[go_sem] theorem fo32_2 : fieldOf? Tryz.prog 32 2 = some (2, 9) := by kernel_rfl
@[go_sem] theorem fa32_2 : fieldAt? Tryz.prog 32 2 = some (2, some 1) := by kernel_rfl
@[go_sem] theorem fo32_3 : fieldOf? Tryz.prog 32 3 = some (3, 9) := by kernel_rfl
@[go_sem] theorem fa32_3 : fieldAt? Tryz.prog 32 3 = some (3, some 1) := by kernel_rfl
@[go_sem] theorem fo32_4 : fieldOf? Tryz.prog 32 4 = some (4, 27) := by kernel_rfl
@[go_sem] theorem fa32_4 : fieldAt? Tryz.prog 32 4 = some (4, some 1) := by kernel_rfl
@[go_sem] theorem fo32_5 : fieldOf? Tryz.prog 32 5 = some (5, 27) := by kernel_rfl
@[go_sem] theorem fa32_5 : fieldAt? Tryz.prog 32 5 = some (5, some 1) := by kernel_rfl
@[go_sem] theorem pl32 : placesOf Tryz.prog 32 = some [(0, 1), (1, 1), (2, 1), (3, 1), (4, 1), (5, 1)] := by kernel_rfl
@[go_sem] theorem sz33 : szOf Tryz.prog 33 = some 1 := by kernel_rfl
@[go_sem] theorem ag33 : isAggT Tryz.prog 33 = some false := by kernel_rfl
@[go_sem] theorem by33 : byOf Tryz.prog 33 = some 8 := by kernel_rfl
@[go_sem] theorem zo33 : zeroOf Tryz.prog 33 = some [.i .i64 0] := by kernel_rfl
@[go_sem] theorem zv33 : zeroVal Tryz.prog 33 = some (.i .i64 0) := by kernel_rfl
@[go_sem] theorem un33 : Program.underlying Tryz.prog 33 = some (.int .i64) := by kernel_rfl
@[go_sem] theorem sz36 : szOf Tryz.prog 36 = some 1 := by kernel_rfl
@[go_sem] theorem ag36 : isAggT Tryz.prog 36 = some false := by kernel_rfl
@[go_sem] theorem by36 : byOf Tryz.prog 36 = some 8 := by kernel_rfl
@[go_sem] theorem zo36 : zeroOf Tryz.prog 36 = some [.p .nilFunc] := by kernel_rfl
@[go_sem] theorem zv36 : zeroVal Tryz.prog 36 = some (.p .nilFunc) := by kernel_rfl
@[go_sem] theorem sz43 : szOf Tryz.prog 43 = some 1 := by kernel_rfl
@[go_sem] theorem ag43 : isAggT Tryz.prog 43 = some false := by kernel_rfl
@[go_sem] theorem by43 : byOf Tryz.prog 43 = some 8 := by kernel_rfl
@[go_sem] theorem zo43 : zeroOf Tryz.prog 43 = some [.p .nilFunc] := by kernel_rfl
@[go_sem] theorem zv43 : zeroVal Tryz.prog 43 = some (.p .nilFunc) := by kernel_rfl
@[go_sem] theorem sz46 : szOf Tryz.prog 46 = some 12 := by kernel_rfl
@[go_sem] theorem ag46 : isAggT Tryz.prog 46 = some true := by kernel_rfl
@[go_sem] theorem by46 : byOf Tryz.prog 46 = some 192 := by kernel_rfl
@[go_sem] theorem zo46 : zeroOf Tryz.prog 46 = some [.i .i64 0, .i .i64 0, .s [], .s [], .e0, .e0, .i .i64 0, .i .i64 0, .s [], .s [], .e0, .e0] := by kernel_rfl
@[go_sem] theorem zv46 : zeroVal Tryz.prog 46 = some (.agg [.i .i64 0, .i .i64 0, .s [], .s [], .e0, .e0, .i .i64 0, .i .i64 0, .s [], .s [], .e0, .e0]) := by kernel_rfl
@[go_sem] theorem un46 : Program.underlying Tryz.prog 46 = some (.array 2 32) := by kernel_rfl
@[go_sem] theorem sz53 : szOf Tryz.prog 53 = some 1 := by kernel_rfl
@[go_sem] theorem ag53 : isAggT Tryz.prog 53 = some false := by kernel_rfl
@[go_sem] theorem by53 : byOf Tryz.prog 53 = some 8 := by kernel_rfl
@[go_sem] theorem zo53 : zeroOf Tryz.prog 53 = some [.p .nilFunc] := by kernel_rfl
@[go_sem] theorem zv53 : zeroVal Tryz.prog 53 = some (.p .nilFunc) := by kernel_rfl
@[go_sem] theorem sz55 : szOf Tryz.prog 55 = some 18 := by kernel_rfl
@[go_sem] theorem ag55 : isAggT Tryz.prog 55 = some true := by kernel_rfl
@[go_sem] theorem by55 : byOf Tryz.prog 55 = some 288 := by kernel_rfl
@[go_sem] theorem zo55 : zeroOf Tryz.prog 55 = some [.i .i64 0, .i .i64 0, .s [], .s [], .e0, .e0, .i .i64 0, .i .i64 0, .s [], .s [], .e0, .e0, .i .i64 0, .i .i64 0, .s [], .s [], .e0, .e0] := by kernel_rfl
@[go_sem] theorem pl55 : placesOf Tryz.prog 55 = some [(0, 6), (6, 6), (12, 6)] := by kernel_rfl
@[go_sem] theorem zv55 : zeroVal Tryz.prog 55 = some (.agg [.i .i64 0, .i .i64 0, .s [], .s [], .e0, .e0, .i .i64 0, .i .i64 0, .s [], .s [], .e0, .e0, .i .i64 0, .i .i64 0, .s [], .s [], .e0, .e0]) := by kernel_rfl
@[go_sem] theorem un55 : Program.underlying Tryz.prog 55 = some (.array 3 32) := by kernel_rfl
@[go_sem] theorem sz61 : szOf Tryz.prog 61 = some 1 := by kernel_rfl
@[go_sem] theorem ag61 : isAggT Tryz.prog 61 = some false := by kernel_rfl
@[go_sem] theorem by61 : byOf Tryz.prog 61 = some 8 := by kernel_rfl
@[go_sem] theorem zo61 : zeroOf Tryz.prog 61 = some [.p (.pointer Option.none)] := by kernel_rfl
@[go_sem] theorem zv61 : zeroVal Tryz.prog 61 = some (.p (.pointer Option.none)) := by kernel_rfl
@[go_sem] theorem sz68 : szOf Tryz.prog 68 = some 1 := by kernel_rfl
@[go_sem] theorem ag68 : isAggT Tryz.prog 68 = some false := by kernel_rfl
@[go_sem] theorem by68 : byOf Tryz.prog 68 = some 24 := by kernel_rfl
@[go_sem] theorem zo68 : zeroOf Tryz.prog 68 = some [.e0] := by kernel_rfl
@[go_sem] theorem zv68 : zeroVal Tryz.prog 68 = some (.e0) := by kernel_rfl
@[go_sem] theorem un68 : Program.underlying Tryz.prog 68 = some (.slice 147) := by kernel_rfl
@[go_sem] theorem el68 : elemOf? Tryz.prog 68 = some 147 := by kernel_rfl
@[go_sem] theorem sz69 : szOf Tryz.prog 69 = some 1 := by kernel_rfl
@[go_sem] theorem ag69 : isAggT Tryz.prog 69 = some false := by kernel_rfl
@[go_sem] theorem by69 : byOf Tryz.prog 69 = some 8 := by kernel_rfl
@[go_sem] theorem zo69 : zeroOf Tryz.prog 69 = some [.i .i64 0] := by kernel_rfl
@[go_sem] theorem zv69 : zeroVal Tryz.prog 69 = some (.i .i64 0) := by kernel_rfl
@[go_sem] theorem un69 : Program.underlying Tryz.prog 69 = some (.int .i64) := by kernel_rfl
@[go_sem] theorem sz70 : szOf Tryz.prog 70 = some 1 := by kernel_rfl
@[go_sem] theorem ag70 : isAggT Tryz.prog 70 = some false := by kernel_rfl
@[go_sem] theorem by70 : byOf Tryz.prog 70 = some 24 := by kernel_rfl
@[go_sem] theorem zo70 : zeroOf Tryz.prog 70 = some [.e0] := by kernel_rfl
@[go_sem] theorem zv70 : zeroVal Tryz.prog 70 = some (.e0) := by kernel_rfl
@[go_sem] theorem un70 : Program.underlying Tryz.prog 70 = some (.slice 3) := by kernel_rfl
@[go_sem] theorem el70 : elemOf? Tryz.prog 70 = some 3 := by kernel_rfl
@[go_sem] theorem sz72 : szOf Tryz.prog 72 = some 7 := by kernel_rfl
@[go_sem] theorem ag72 : isAggT Tryz.prog 72 = some true := by kernel_rfl
@[go_sem] theorem by72 : byOf Tryz.prog 72 = some 120 := by kernel_rfl
@[go_sem] theorem zo72 : zeroOf Tryz.prog 72 = some [.s [], .e0, .s [], .e0, .i .i64 0, .i .i64 0, .e0] := by kernel_rfl
@[go_sem] theorem zv72 : zeroVal Tryz.prog 72 = some (.agg [.s [], .e0, .s [], .e0, .i .i64 0, .i .i64 0, .e0]) := by kernel_rfl
@[go_sem] theorem fo72_0 : fieldOf? Tryz.prog 72 0 = some (0, 9) := by kernel_rfl
@[go_sem] theorem fa72_0 : fieldAt? Tryz.prog 72 0 = some (0, some 1) := by kernel_rfl
@[go_sem] theorem fo72_1 : fieldOf? Tryz.prog 72 1 = some (1, 22) := by kernel_rfl
@[go_sem] theorem fa72_1 : fieldAt? Tryz.prog 72 1 = some (1, some 1) := by kernel_rfl
@[go_sem] theorem fo72_2 : fieldOf? Tryz.prog 72 2 = some (2, 9) := by kernel_rfl
@[go_sem] theorem fa72_2 : fieldAt? Tryz.prog 72 2 = some (2, some 1) := by kernel_rfl
@[go_sem] theorem fo72_3 : fieldOf? Tryz.prog 72 3 = some (3, 68) := by kernel_rfl
@[go_sem] theorem fa72_3 : fieldAt? Tryz.prog 72 3 = some (3, some 1) := by kernel_rfl
@[go_sem] theorem fo72_4 : fieldOf? Tryz.prog 72 4 = some (4, 3) := by kernel_rfl
@[go_sem] theorem fa72_4 : fieldAt? Tryz.prog 72 4 = some (4, some 1) := by kernel_rfl
@[go_sem] theorem fo72_5 : fieldOf? Tryz.prog 72 5 = some (5, 69) := by kernel_rfl
@[go_sem] theorem fa72_5 : fieldAt? Tryz.prog 72 5 = some (5, some 1) := by kernel_rfl
@[go_sem] theorem fo72_6 : fieldOf? Tryz.prog 72 6 = some (6, 70) := by kernel_rfl
@[go_sem] theorem fa72_6 : fieldAt? Tryz.prog 72 6 = some (6, some 1) := by kernel_rfl
@[go_sem] theorem pl72 : placesOf Tryz.prog 72 = some [(0, 1), (1, 1), (2, 1), (3, 1), (4, 1), (5, 1), (6, 1)] := by kernel_rfl
@[go_sem] theorem sz83 : szOf Tryz.prog 83 = some 2 := by kernel_rfl
@[go_sem] theorem ag83 : isAggT Tryz.prog 83 = some true := by kernel_rfl
@[go_sem] theorem by83 : byOf Tryz.prog 83 = some 32 := by kernel_rfl
@[go_sem] theorem zo83 : zeroOf Tryz.prog 83 = some [.s [], .s []] := by kernel_rfl
@[go_sem] theorem zv83 : zeroVal Tryz.prog 83 = some (.agg [.s [], .s []]) := by kernel_rfl
@[go_sem] theorem fo83_0 : fieldOf? Tryz.prog 83 0 = some (0, 9) := by kernel_rfl
@[go_sem] theorem fa83_0 : fieldAt? Tryz.prog 83 0 = some (0, some 1) := by kernel_rfl
@[go_sem] theorem fo83_1 : fieldOf? Tryz.prog 83 1 = some (1, 9) := by kernel_rfl
@[go_sem] theorem fa83_1 : fieldAt? Tryz.prog 83 1 = some (1, some 1) := by kernel_rfl
@[go_sem] theorem pl83 : placesOf Tryz.prog 83 = some [(0, 1), (1, 1)] := by kernel_rfl
@[go_sem] theorem lf83 : leafFields Tryz.prog 83 = some [9, 9] := by kernel_rfl
@[go_sem] theorem sz89 : szOf Tryz.prog 89 = some 1 := by kernel_rfl
@[go_sem] theorem ag89 : isAggT Tryz.prog 89 = some false := by kernel_rfl
@[go_sem] theorem by89 : byOf Tryz.prog 89 = some 8 := by kernel_rfl
@[go_sem] theorem zo89 : zeroOf Tryz.prog 89 = some [.p .nilFunc] := by kernel_rfl
@[go_sem] theorem zv89 : zeroVal Tryz.prog 89 = some (.p .nilFunc) := by kernel_rfl
@[go_sem] theorem sz91 : szOf Tryz.prog 91 = some 1 := by kernel_rfl
@[go_sem] theorem ag91 : isAggT Tryz.prog 91 = some false := by kernel_rfl
@[go_sem] theorem by91 : byOf Tryz.prog 91 = some 8 := by kernel_rfl
@[go_sem] theorem zo91 : zeroOf Tryz.prog 91 = some [.p .nilFunc] := by kernel_rfl
@[go_sem] theorem zv91 : zeroVal Tryz.prog 91 = some (.p .nilFunc) := by kernel_rfl
@[go_sem] theorem sz92 : szOf Tryz.prog 92 = some 1 := by kernel_rfl
@[go_sem] theorem ag92 : isAggT Tryz.prog 92 = some false := by kernel_rfl
@[go_sem] theorem by92 : byOf Tryz.prog 92 = some 8 := by kernel_rfl
@[go_sem] theorem zo92 : zeroOf Tryz.prog 92 = some [.p (.map Option.none)] := by kernel_rfl
@[go_sem] theorem zv92 : zeroVal Tryz.prog 92 = some (.p (.map Option.none)) := by kernel_rfl
@[go_sem] theorem un92 : Program.underlying Tryz.prog 92 = some (.map 9 22) := by kernel_rfl
@[go_sem] theorem sz93 : szOf Tryz.prog 93 = some 1 := by kernel_rfl
@[go_sem] theorem ag93 : isAggT Tryz.prog 93 = some false := by kernel_rfl
@[go_sem] theorem by93 : byOf Tryz.prog 93 = some 8 := by kernel_rfl
@[go_sem] theorem zo93 : zeroOf Tryz.prog 93 = some [.p (.map Option.none)] := by kernel_rfl
@[go_sem] theorem zv93 : zeroVal Tryz.prog 93 = some (.p (.map Option.none)) := by kernel_rfl
@[go_sem] theorem un93 : Program.underlying Tryz.prog 93 = some (.map 9 72) := by kernel_rfl
@[go_sem] theorem sz95 : szOf Tryz.prog 95 = some 8 := by kernel_rfl
@[go_sem] theorem ag95 : isAggT Tryz.prog 95 = some true := by kernel_rfl
@[go_sem] theorem by95 : byOf Tryz.prog 95 = some 144 := by kernel_rfl
@[go_sem] theorem zo95 : zeroOf Tryz.prog 95 = some [.e0, .e0, .e0, .e0, .e0, .p (.map Option.none), .p (.map Option.none), .p (.map Option.none)] := by kernel_rfl
@[go_sem] theorem zv95 : zeroVal Tryz.prog 95 = some (.agg [.e0, .e0, .e0, .e0, .e0, .p (.map Option.none), .p (.map Option.none), .p (.map Option.none)]) := by kernel_rfl
@[go_sem] theorem fo95_0 : fieldOf? Tryz.prog 95 0 = some (0, 26) := by kernel_rfl
@[go_sem] theorem fa95_0 : fieldAt? Tryz.prog 95 0 = some (0, some 5) := by kernel_rfl
@[go_sem] theorem fo95_1 : fieldOf? Tryz.prog 95 1 = some (5, 92) := by kernel_rfl
@[go_sem] theorem fa95_1 : fieldAt? Tryz.prog 95 1 = some (5, some 1) := by kernel_rfl
@[go_sem] theorem fo95_2 : fieldOf? Tryz.prog 95 2 = some (6, 93) := by kernel_rfl
@[go_sem] theorem fa95_2 : fieldAt? Tryz.prog 95 2 = some (6, some 1) := by kernel_rfl
@[go_sem] theorem fo95_3 : fieldOf? Tryz.prog 95 3 = some (7, 93) := by kernel_rfl
@[go_sem] theorem fa95_3 : fieldAt? Tryz.prog 95 3 = some (7, some 1) := by kernel_rfl
@[go_sem] theorem pl95 : placesOf Tryz.prog 95 = some [(0, 5), (5, 1), (6, 1), (7, 1)] := by kernel_rfl
@[go_sem] theorem sz109 : szOf Tryz.prog 109 = some 1 := by kernel_rfl
@[go_sem] theorem ag109 : isAggT Tryz.prog 109 = some false := by kernel_rfl
@[go_sem] theorem by109 : byOf Tryz.prog 109 = some 8 := by kernel_rfl
@[go_sem] theorem zo109 : zeroOf Tryz.prog 109 = some [.p (.map Option.none)] := by kernel_rfl
@[go_sem] theorem zv109 : zeroVal Tryz.prog 109 = some (.p (.map Option.none)) := by kernel_rfl
@[go_sem] theorem un109 : Program.underlying Tryz.prog 109 = some (.map 83 4) := by kernel_rfl
@[go_sem] theorem sz110 : szOf Tryz.prog 110 = some 1 := by kernel_rfl
@[go_sem] theorem ag110 : isAggT Tryz.prog 110 = some false := by kernel_rfl
@[go_sem] theorem by110 : byOf Tryz.prog 110 = some 8 := by kernel_rfl
@[go_sem] theorem zo110 : zeroOf Tryz.prog 110 = some [.p (.map Option.none)] := by kernel_rfl
@[go_sem] theorem zv110 : zeroVal Tryz.prog 110 = some (.p (.map Option.none)) := by kernel_rfl
@[go_sem] theorem un110 : Program.underlying Tryz.prog 110 = some (.map 9 4) := by kernel_rfl
@[go_sem] theorem sz116 : szOf Tryz.prog 116 = some 1 := by kernel_rfl
@[go_sem] theorem ag116 : isAggT Tryz.prog 116 = some false := by kernel_rfl
@[go_sem] theorem by116 : byOf Tryz.prog 116 = some 8 := by kernel_rfl
@[go_sem] theorem zo116 : zeroOf Tryz.prog 116 = some [.p .nilFunc] := by kernel_rfl
@[go_sem] theorem zv116 : zeroVal Tryz.prog 116 = some (.p .nilFunc) := by kernel_rfl
@[go_sem] theorem sz119 : szOf Tryz.prog 119 = some 1 := by kernel_rfl
@[go_sem] theorem ag119 : isAggT Tryz.prog 119 = some false := by kernel_rfl
@[go_sem] theorem by119 : byOf Tryz.prog 119 = some 24 := by kernel_rfl
@[go_sem] theorem zo119 : zeroOf Tryz.prog 119 = some [.e0] := by kernel_rfl
@[go_sem] theorem zv119 : zeroVal Tryz.prog 119 = some (.e0) := by kernel_rfl
@[go_sem] theorem un119 : Program.underlying Tryz.prog 119 = some (.slice 22) := by kernel_rfl
@[go_sem] theorem el119 : elemOf? Tryz.prog 119 = some 22 := by kernel_rfl
@[go_sem] theorem sz122 : szOf Tryz.prog 122 = some 2 := by kernel_rfl
@[go_sem] theorem ag122 : isAggT Tryz.prog 122 = some true := by kernel_rfl
@[go_sem] theorem by122 : byOf Tryz.prog 122 = some 16 := by kernel_rfl
@[go_sem] theorem zo122 : zeroOf Tryz.prog 122 = some [.i .i64 0, .b false] := by kernel_rfl
@[go_sem] theorem zv122 : zeroVal Tryz.prog 122 = some (.agg [.i .i64 0, .b false]) := by kernel_rfl
@[go_sem] theorem fo122_0 : fieldOf? Tryz.prog 122 0 = some (0, 3) := by kernel_rfl
@[go_sem] theorem fa122_0 : fieldAt? Tryz.prog 122 0 = some (0, some 1) := by kernel_rfl
@[go_sem] theorem fo122_1 : fieldOf? Tryz.prog 122 1 = some (1, 4) := by kernel_rfl
@[go_sem] theorem fa122_1 : fieldAt? Tryz.prog 122 1 = some (1, some 1) := by kernel_rfl
@[go_sem] theorem pl122 : placesOf Tryz.prog 122 = some [(0, 1), (1, 1)] := by kernel_rfl
@[go_sem] theorem lf122 : leafFields Tryz.prog 122 = some [3, 4] := by kernel_rfl
@[go_sem] theorem sz124 : szOf Tryz.prog 124 = some 1 := by kernel_rfl
@[go_sem] theorem ag124 : isAggT Tryz.prog 124 = some false := by kernel_rfl
@[go_sem] theorem by124 : byOf Tryz.prog 124 = some 8 := by kernel_rfl
@[go_sem] theorem zo124 : zeroOf Tryz.prog 124 = some [.p .nilFunc] := by kernel_rfl
@[go_sem] theorem zv124 : zeroVal Tryz.prog 124 = some (.p .nilFunc) := by kernel_rfl
@[go_sem] theorem sz136 : szOf Tryz.prog 136 = some 1 := by kernel_rfl
@[go_sem] theorem ag136 : isAggT Tryz.prog 136 = some false := by kernel_rfl
@[go_sem] theorem by136 : byOf Tryz.prog 136 = some 8 := by kernel_rfl
@[go_sem] theorem zo136 : zeroOf Tryz.prog 136 = some [.p (.pointer Option.none)] := by kernel_rfl
@[go_sem] theorem zv136 : zeroVal Tryz.prog 136 = some (.p (.pointer Option.none)) := by kernel_rfl
@[go_sem] theorem sz139 : szOf Tryz.prog 139 = some 256 := by kernel_rfl
@[go_sem] theorem ag139 : isAggT Tryz.prog 139 = some true := by kernel_rfl
@[go_sem] theorem by139 : byOf Tryz.prog 139 = some 256 := by kernel_rfl
@[go_sem] theorem zv139 : zeroVal Tryz.prog 139 = some (.agg [.i .u8 0, .i .u8 0, .i .u8 0, .i .u8 0, .i .u8 0, .i .u8 0, .i .u8 0, .i .u8 0, .i .u8 0, .i .u8 0, .i .u8 0, .i .u8 0, .i .u8 0, .i .u8 0, .i .u8 0, .i .u8 0, .i .u8 0, .i .u8 0, .i .u8 0, .i .u8 0, .i .u8 0, .i .u8 0, .i .u8 0, .i .u8 0, .i .u8 0, .i .u8 0, .i .u8 0, .i .u8 0, .i .u8 0, .i .u8 0, .i .u8 0, .i .u8 0, .i .u8 0, .i .u8 0, .i .u8 0, .i .u8 0, .i .u8 0, .i .u8 0, .i .u8 0, .i .u8 0, .i .u8 0, .i .u8 0, .i .u8 0, .i .u8 0, .i .u8 0, .i .u8 0, .i .u8 0, .i .u8 0, .i .u8 0, .i .u8 0, .i .u8 0, .i .u8 0, .i .u8 0, .i .u8 0, .i .u8 0, .i .u8 0, .i .u8 0, .i .u8 0, .i .u8 0, .i .u8 0, .i .u8 0, .i .u8 0, .i .u8 0, .i .u8 0, .i .u8 0, .i .u8 0, .i .u8 0, .i .u8 0, .i .u8 0, .i .u8 0, .i .u8 0, .i .u8 0, .i .u8 0, .i .u8 0, .i .u8 0, .i .u8 0, .i .u8 0, .i .u8 0, .i .u8 0, .i .u8 0, .i .u8 0, .i .u8 0, .i .u8 0, .i .u8 0, .i .u8 0, .i .u8 0, .i .u8 0, .i .u8 0, .i .u8 0, .i .u8 0, .i .u8 0, .i .u8 0, .i .u8 0, .i .u8 0, .i .u8 0, .i .u8 0, .i .u8 0, .i .u8 0, .i .u8 0, .i .u8 0, .i .u8 0, .i .u8 0, .i .u8 0, .i .u8 0, .i .u8 0, .i .u8 0, .i .u8 0, .i .u8 0, .i .u8 0, .i .u8 0, .i .u8 0, .i .u8 0, .i .u8 0, .i .u8 0, .i .u8 0, .i .u8 0, .i .u8 0, .i .u8 0, .i .u8 0, .i .u8 0, .i .u8 0, .i .u8 0, .i .u8 0, .i .u8 0, .i .u8 0, .i .u8 0, .i .u8 0, .i .u8 0, .i .u8 0, .i .u8 0, .i .u8 0, .i .u8 0, .i .u8 0, .i .u8 0, .i .u8 0, .i .u8 0, .i .u8 0, .i .u8 0, .i .u8 0, .i .u8 0, .i .u8 0, .i .u8 0, .i .u8 0, .i .u8 0, .i .u8 0, .i .u8 0, .i .u8 0, .i .u8 0, .i .u8 0, .i .u8 0, .i .u8 0, .i .u8 0, .i .u8 0, .i .u8 0, .i .u8 0, .i .u8 0, .i .u8 0, .i .u8 0, .i .u8 0, .i .u8 0, .i .u8 0, .i .u8 0, .i .u8 0, .i .u8 0, .i .u8 0, .i .u8 0, .i .u8 0, .i .u8 0, .i .u8 0, .i .u8 0, .i .u8 0, .i .u8 0, .i .u8 0, .i .u8 0, .i .u8 0, .i .u8 0, .i .u8 0, .i .u8 0, .i .u8 0, .i .u8 0, .i .u8 0, .i .u8 0, .i .u8 0, .i .u8 0, .i .u8 0, .i .u8 0, .i .u8 0, .i .u8 0, .i .u8 0, .i .u8 0, .i .u8 0, .i .u8 0, .i .u8 0, .i .u8 0, .i .u8 0, .i .u8 0, .i .u8 0, .i .u8 0, .i .u8 0, .i .u8 0, .i .u8 0, .i .u8 0, .i .u8 0, .i .u8 0, .i .u8 0, .i .u8 0, .i .u8 0, .i .u8 0, .i .u8 0, .i .u8 0, .i .u8 0, .i .u8 0, .i .u8 0, .i .u8 0, .i .u8 0, .i .u8 0, .i .u8 0, .i .u8 0, .i .u8 0, .i .u8 0, .i .u8 0, .i .u8 0, .i .u8 0, .i .u8 0, .i .u8 0, .i .u8 0, .i .u8 0, .i .u8 0, .i .u8 0, .i .u8 0, .i .u8 0, .i .u8 0, .i .u8 0, .i .u8 0, .i .u8 0, .i .u8 0, .i .u8 0, .i .u8 0, .i .u8 0, .i .u8 0, .i .u8 0, .i .u8 0, .i .u8 0, .i .u8 0, .i .u8 0, .i .u8 0, .i .u8 0, .i .u8 0, .i .u8 0, .i .u8 0, .i .u8 0, .i .u8 0, .i .u8 0, .i .u8 0, .i .u8 0, .i .u8 0]) := by kernel_rfl
@[go_sem] theorem un139 : Program.underlying Tryz.prog 139 = some (.array 256 5) := by kernel_rfl
@[go_sem] theorem sz141 : szOf Tryz.prog 141 = some 1 := by kernel_rfl
@[go_sem] theorem ag141 : isAggT Tryz.prog 141 = some false := by kernel_rfl
@[go_sem] theorem by141 : byOf Tryz.prog 141 = some 8 := by kernel_rfl
@[go_sem] theorem zo141 : zeroOf Tryz.prog 141 = some [.p .nilFunc] := by kernel_rfl
@[go_sem] theorem zv141 : zeroVal Tryz.prog 141 = some (.p .nilFunc) := by kernel_rfl
@[go_sem] theorem sz145 : szOf Tryz.prog 145 = some 1 := by kernel_rfl
@[go_sem] theorem ag145 : isAggT Tryz.prog 145 = some false := by kernel_rfl
@[go_sem] theorem by145 : byOf Tryz.prog 145 = some 8 := by kernel_rfl
@[go_sem] theorem zo145 : zeroOf Tryz.prog 145 = some [.p (.map Option.none)] := by kernel_rfl
@[go_sem] theorem zv145 : zeroVal Tryz.prog 145 = some (.p (.map Option.none)) := by kernel_rfl
@[go_sem] theorem un145 : Program.underlying Tryz.prog 145 = some (.map 3 4) := by kernel_rfl
@[go_sem] theorem sz147 : szOf Tryz.prog 147 = some 2 := by kernel_rfl
@[go_sem] theorem ag147 : isAggT Tryz.prog 147 = some true := by kernel_rfl
@[go_sem] theorem by147 : byOf Tryz.prog 147 = some 32 := by kernel_rfl
@[go_sem] theorem zo147 : zeroOf Tryz.prog 147 = some [.s [], .s []] := by kernel_rfl
@[go_sem] theorem zv147 : zeroVal Tryz.prog 147 = some (.agg [.s [], .s []]) := by kernel_rfl
@[go_sem] theorem fo147_0 : fieldOf? Tryz.prog 147 0 = some (0, 9) := by kernel_rfl
@[go_sem] theorem fa147_0 : fieldAt? Tryz.prog 147 0 = some (0, some 1) := by kernel_rfl
@[go_sem] theorem fo147_1 : fieldOf? Tryz.prog 147 1 = some (1, 9) := by kernel_rfl
@[go_sem] theorem fa147_1 : fieldAt? Tryz.prog 147 1 = some (1, some 1) := by kernel_rfl
@[go_sem] theorem pl147 : placesOf Tryz.prog 147 = some [(0, 1), (1, 1)] := by kernel_rfl
@[go_sem] theorem lf147 : leafFields Tryz.prog 147 = some [9, 9] := by kernel_rfl
@[go_sem] theorem sz149 : szOf Tryz.prog 149 = some 1 := by kernel_rfl
@[go_sem] theorem ag149 : isAggT Tryz.prog 149 = some false := by kernel_rfl
@[go_sem] theorem by149 : byOf Tryz.prog 149 = some 8 := by kernel_rfl
@[go_sem] theorem zo149 : zeroOf Tryz.prog 149 = some [.p (.pointer Option.none)] := by kernel_rfl
@[go_sem] theorem zv149 : zeroVal Tryz.prog 149 = some (.p (.pointer Option.none)) := by kernel_rfl
@[go_sem] theorem sz155 : szOf Tryz.prog 155 = some 1 := by kernel_rfl
@[go_sem] theorem ag155 : isAggT Tryz.prog 155 = some false := by kernel_rfl
@[go_sem] theorem by155 : byOf Tryz.prog 155 = some 24 := by kernel_rfl
@[go_sem] theorem zo155 : zeroOf Tryz.prog 155 = some [.e0] := by kernel_rfl
@[go_sem] theorem zv155 : zeroVal Tryz.prog 155 = some (.e0) := by kernel_rfl
@[go_sem] theorem un155 : Program.underlying Tryz.prog 155 = some (.slice 27) := by kernel_rfl
@[go_sem] theorem el155 : elemOf? Tryz.prog 155 = some 27 := by kernel_rfl
@[go_sem] theorem sz159 : szOf Tryz.prog 159 = some 1 := by kernel_rfl
@[go_sem] theorem ag159 : isAggT Tryz.prog 159 = some false := by kernel_rfl
@[go_sem] theorem by159 : byOf Tryz.prog 159 = some 24 := by kernel_rfl
@[go_sem] theorem zo159 : zeroOf Tryz.prog 159 = some [.e0] := by kernel_rfl
@[go_sem] theorem zv159 : zeroVal Tryz.prog 159 = some (.e0) := by kernel_rfl
@[go_sem] theorem un159 : Program.underlying Tryz.prog 159 = some (.slice 161) := by kernel_rfl
@[go_sem] theorem el159 : elemOf? Tryz.prog 159 = some 161 := by kernel_rfl
@[go_sem] theorem sz161 : szOf Tryz.prog 161 = some 2 := by kernel_rfl
@[go_sem] theorem ag161 : isAggT Tryz.prog 161 = some true := by kernel_rfl
@[go_sem] theorem by161 : byOf Tryz.prog 161 = some 16 := by kernel_rfl
@[go_sem] theorem zo161 : zeroOf Tryz.prog 161 = some [.i .i64 0, .i .i64 0] := by kernel_rfl
@[go_sem] theorem zv161 : zeroVal Tryz.prog 161 = some (.agg [.i .i64 0, .i .i64 0]) := by kernel_rfl
@[go_sem] theorem fo161_0 : fieldOf? Tryz.prog 161 0 = some (0, 3) := by kernel_rfl
@[go_sem] theorem fa161_0 : fieldAt? Tryz.prog 161 0 = some (0, some 1) := by kernel_rfl
@[go_sem] theorem fo161_1 : fieldOf? Tryz.prog 161 1 = some (1, 3) := by kernel_rfl
@[go_sem] theorem fa161_1 : fieldAt? Tryz.prog 161 1 = some (1, some 1) := by kernel_rfl
@[go_sem] theorem pl161 : placesOf Tryz.prog 161 = some [(0, 1), (1, 1)] := by kernel_rfl
@[go_sem] theorem lf161 : leafFields Tryz.prog 161 = some [3, 3] := by kernel_rfl
@[go_sem] theorem sz162 : szOf Tryz.prog 162 = some 1 := by kernel_rfl
@[go_sem] theorem ag162 : isAggT Tryz.prog 162 = some false := by kernel_rfl
@[go_sem] theorem by162 : byOf Tryz.prog 162 = some 4 := by kernel_rfl
@[go_sem] theorem zo162 : zeroOf Tryz.prog 162 = some [.i .u32 0] := by kernel_rfl
@[go_sem] theorem zv162 : zeroVal Tryz.prog 162 = some (.i .u32 0) := by kernel_rfl
@[go_sem] theorem un162 : Program.underlying Tryz.prog 162 = some (.int .u32) := by kernel_rfl
@[go_sem] theorem sz164 : szOf Tryz.prog 164 = some 1 := by kernel_rfl
@[go_sem] theorem ag164 : isAggT Tryz.prog 164 = some false := by kernel_rfl
@[go_sem] theorem by164 : byOf Tryz.prog 164 = some 8 := by kernel_rfl
@[go_sem] theorem zo164 : zeroOf Tryz.prog 164 = some [.p (.pointer Option.none)] := by kernel_rfl
@[go_sem] theorem zv164 : zeroVal Tryz.prog 164 = some (.p (.pointer Option.none)) := by kernel_rfl
@[go_sem] theorem sz171 : szOf Tryz.prog 171 = some 1 := by kernel_rfl
@[go_sem] theorem ag171 : isAggT Tryz.prog 171 = some false := by kernel_rfl
@[go_sem] theorem by171 : byOf Tryz.prog 171 = some 24 := by kernel_rfl
@[go_sem] theorem zo171 : zeroOf Tryz.prog 171 = some [.e0] := by kernel_rfl
@[go_sem] theorem zv171 : zeroVal Tryz.prog 171 = some (.e0) := by kernel_rfl
@[go_sem] theorem un171 : Program.underlying Tryz.prog 171 = some (.slice 177) := by kernel_rfl
@[go_sem] theorem el171 : elemOf? Tryz.prog 171 = some 177 := by kernel_rfl
@[go_sem] theorem sz172 : szOf Tryz.prog 172 = some 1 := by kernel_rfl
@[go_sem] theorem ag172 : isAggT Tryz.prog 172 = some false := by kernel_rfl
@[go_sem] theorem by172 : byOf Tryz.prog 172 = some 24 := by kernel_rfl
@[go_sem] theorem zo172 : zeroOf Tryz.prog 172 = some [.e0] := by kernel_rfl
@[go_sem] theorem zv172 : zeroVal Tryz.prog 172 = some (.e0) := by kernel_rfl
@[go_sem] theorem un172 : Program.underlying Tryz.prog 172 = some (.slice 180) := by kernel_rfl
@[go_sem] theorem el172 : elemOf? Tryz.prog 172 = some 180 := by kernel_rfl
@[go_sem] theorem sz174 : szOf Tryz.prog 174 = some 3 := by kernel_rfl
@[go_sem] theorem ag174 : isAggT Tryz.prog 174 = some true := by kernel_rfl
@[go_sem] theorem by174 : byOf Tryz.prog 174 = some 56 := by kernel_rfl
@[go_sem] theorem zo174 : zeroOf Tryz.prog 174 = some [.e0, .e0, .i .i64 0] := by kernel_rfl
@[go_sem] theorem zv174 : zeroVal Tryz.prog 174 = some (.agg [.e0, .e0, .i .i64 0]) := by kernel_rfl
@[go_sem] theorem fo174_0 : fieldOf? Tryz.prog 174 0 = some (0, 171) := by kernel_rfl
@[go_sem] theorem fa174_0 : fieldAt? Tryz.prog 174 0 = some (0, some 1) := by kernel_rfl
@[go_sem] theorem fo174_1 : fieldOf? Tryz.prog 174 1 = some (1, 172) := by kernel_rfl
@[go_sem] theorem fa174_1 : fieldAt? Tryz.prog 174 1 = some (1, some 1) := by kernel_rfl
@[go_sem] theorem fo174_2 : fieldOf? Tryz.prog 174 2 = some (2, 3) := by kernel_rfl
@[go_sem] theorem fa174_2 : fieldAt? Tryz.prog 174 2 = some (2, some 1) := by kernel_rfl
@[go_sem] theorem pl174 : placesOf Tryz.prog 174 = some [(0, 1), (1, 1), (2, 1)] := by kernel_rfl
@[go_sem] theorem sz175 : szOf Tryz.prog 175 = some 1 := by kernel_rfl
@[go_sem] theorem ag175 : isAggT Tryz.prog 175 = some false := by kernel_rfl
@[go_sem] theorem by175 : byOf Tryz.prog 175 = some 2 := by kernel_rfl
@[go_sem] theorem zo175 : zeroOf Tryz.prog 175 = some [.i .u16 0] := by kernel_rfl
@[go_sem] theorem zv175 : zeroVal Tryz.prog 175 = some (.i .u16 0) := by kernel_rfl
@[go_sem] theorem un175 : Program.underlying Tryz.prog 175 = some (.int .u16) := by kernel_rfl
@[go_sem] theorem sz177 : szOf Tryz.prog 177 = some 3 := by kernel_rfl
@[go_sem] theorem ag177 : isAggT Tryz.prog 177 = some true := by kernel_rfl
@[go_sem] theorem by177 : byOf Tryz.prog 177 = some 6 := by kernel_rfl
@[go_sem] theorem zo177 : zeroOf Tryz.prog 177 = some [.i .u16 0, .i .u16 0, .i .u16 0] := by kernel_rfl
@[go_sem] theorem zv177 : zeroVal Tryz.prog 177 = some (.agg [.i .u16 0, .i .u16 0, .i .u16 0]) := by kernel_rfl
@[go_sem] theorem fo177_0 : fieldOf? Tryz.prog 177 0 = some (0, 175) := by kernel_rfl
@[go_sem] theorem fa177_0 : fieldAt? Tryz.prog 177 0 = some (0, some 1) := by kernel_rfl
@[go_sem] theorem fo177_1 : fieldOf? Tryz.prog 177 1 = some (1, 175) := by kernel_rfl
@[go_sem] theorem fa177_1 : fieldAt? Tryz.prog 177 1 = some (1, some 1) := by kernel_rfl
@[go_sem] theorem fo177_2 : fieldOf? Tryz.prog 177 2 = some (2, 175) := by kernel_rfl
@[go_sem] theorem fa177_2 : fieldAt? Tryz.prog 177 2 = some (2, some 1) := by kernel_rfl
@[go_sem] theorem pl177 : placesOf Tryz.prog 177 = some [(0, 1), (1, 1), (2, 1)] := by kernel_rfl
@[go_sem] theorem lf177 : leafFields Tryz.prog 177 = some [175, 175, 175] := by kernel_rfl
@[go_sem] theorem sz180 : szOf Tryz.prog 180 = some 3 := by kernel_rfl
@[go_sem] theorem ag180 : isAggT Tryz.prog 180 = some true := by kernel_rfl
@[go_sem] theorem by180 : byOf Tryz.prog 180 = some 12 := by kernel_rfl
@[go_sem] theorem zo180 : zeroOf Tryz.prog 180 = some [.i .u32 0, .i .u32 0, .i .u32 0] := by kernel_rfl
@[go_sem] theorem zv180 : zeroVal Tryz.prog 180 = some (.agg [.i .u32 0, .i .u32 0, .i .u32 0]) := by kernel_rfl
@[go_sem] theorem fo180_0 : fieldOf? Tryz.prog 180 0 = some (0, 162) := by kernel_rfl
@[go_sem] theorem fa180_0 : fieldAt? Tryz.prog 180 0 = some (0, some 1) := by kernel_rfl
@[go_sem] theorem fo180_1 : fieldOf? Tryz.prog 180 1 = some (1, 162) := by kernel_rfl
@[go_sem] theorem fa180_1 : fieldAt? Tryz.prog 180 1 = some (1, some 1) := by kernel_rfl
@[go_sem] theorem fo180_2 : fieldOf? Tryz.prog 180 2 = some (2, 162) := by kernel_rfl
@[go_sem] theorem fa180_2 : fieldAt? Tryz.prog 180 2 = some (2, some 1) := by kernel_rfl
@[go_sem] theorem pl180 : placesOf Tryz.prog 180 = some [(0, 1), (1, 1), (2, 1)] := by kernel_rfl
@[go_sem] theorem lf180 : leafFields Tryz.prog 180 = some [162, 162, 162] := by kernel_rfl
@[go_sem] theorem sz182 : szOf Tryz.prog 182 = some 24 := by kernel_rfl
@[go_sem] theorem ag182 : isAggT Tryz.prog 182 = some true := by kernel_rfl
@[go_sem] theorem by182 : byOf Tryz.prog 182 = some 24 := by kernel_rfl
@[go_sem] theorem zv182 : zeroVal Tryz.prog 182 = some (.agg [.i .u8 0, .i .u8 0, .i .u8 0, .i .u8 0, .i .u8 0, .i .u8 0, .i .u8 0, .i .u8 0, .i .u8 0, .i .u8 0, .i .u8 0, .i .u8 0, .i .u8 0, .i .u8 0, .i .u8 0, .i .u8 0, .i .u8 0, .i .u8 0, .i .u8 0, .i .u8 0, .i .u8 0, .i .u8 0, .i .u8 0, .i .u8 0]) := by kernel_rfl
@[go_sem] theorem un182 : Program.underlying Tryz.prog 182 = some (.array 24 5) := by kernel_rfl
@[go_sem] theorem sz183 : szOf Tryz.prog 183 = some 1 := by kernel_rfl
@[go_sem] theorem ag183 : isAggT Tryz.prog 183 = some false := by kernel_rfl
@[go_sem] theorem by183 : byOf Tryz.prog 183 = some 8 := by kernel_rfl
@[go_sem] theorem zo183 : zeroOf Tryz.prog 183 = some [.i .u64 0] := by kernel_rfl
@[go_sem] theorem zv183 : zeroVal Tryz.prog 183 = some (.i .u64 0) := by kernel_rfl
@[go_sem] theorem un183 : Program.underlying Tryz.prog 183 = some (.int .u64) := by kernel_rfl
@[go_sem] theorem sz186 : szOf Tryz.prog 186 = some 1 := by kernel_rfl
@[go_sem] theorem ag186 : isAggT Tryz.prog 186 = some false := by kernel_rfl
@[go_sem] theorem by186 : byOf Tryz.prog 186 = some 24 := by kernel_rfl
@[go_sem] theorem zo186 : zeroOf Tryz.prog 186 = some [.e0] := by kernel_rfl
@[go_sem] theorem zv186 : zeroVal Tryz.prog 186 = some (.e0) := by kernel_rfl
@[go_sem] theorem un186 : Program.underlying Tryz.prog 186 = some (.slice 5) := by kernel_rfl
@[go_sem] theorem el186 : elemOf? Tryz.prog 186 = some 5 := by kernel_rfl
@[go_sem] theorem sz190 : szOf Tryz.prog 190 = some 1 := by kernel_rfl
@[go_sem] theorem ag190 : isAggT Tryz.prog 190 = some false := by kernel_rfl
@[go_sem] theorem by190 : byOf Tryz.prog 190 = some 8 := by kernel_rfl
@[go_sem] theorem zo190 : zeroOf Tryz.prog 190 = some [.i .u64 0] := by kernel_rfl
@[go_sem] theorem zv190 : zeroVal Tryz.prog 190 = some (.i .u64 0) := by kernel_rfl
@[go_sem] theorem un190 : Program.underlying Tryz.prog 190 = some (.int .u64) := by kernel_rfl
@[go_sem] theorem sz194 : szOf Tryz.prog 194 = some 20 := by kernel_rfl
@[go_sem] theorem ag194 : isAggT Tryz.prog 194 = some true := by kernel_rfl
@[go_sem] theorem by194 : byOf Tryz.prog 194 = some 160 := by kernel_rfl
@[go_sem] theorem zv194 : zeroVal Tryz.prog 194 = some (.agg [.i .u64 0, .i .u64 0, .i .u64 0, .i .u64 0, .i .u64 0, .i .u64 0, .i .u64 0, .i .u64 0, .i .u64 0, .i .u64 0, .i .u64 0, .i .u64 0, .i .u64 0, .i .u64 0, .i .u64 0, .i .u64 0, .i .u64 0, .i .u64 0, .i .u64 0, .i .u64 0]) := by kernel_rfl
@[go_sem] theorem un194 : Program.underlying Tryz.prog 194 = some (.array 20 183) := by kernel_rfl
@[go_sem] theorem sz195 : szOf Tryz.prog 195 = some 65 := by kernel_rfl
@[go_sem] theorem ag195 : isAggT Tryz.prog 195 = some true := by kernel_rfl
@[go_sem] theorem by195 : byOf Tryz.prog 195 = some 65 := by kernel_rfl
@[go_sem] theorem zv195 : zeroVal Tryz.prog 195 = some (.agg [.i .u8 0, .i .u8 0, .i .u8 0, .i .u8 0, .i .u8 0, .i .u8 0, .i .u8 0, .i .u8 0, .i .u8 0, .i .u8 0, .i .u8 0, .i .u8 0, .i .u8 0, .i .u8 0, .i .u8 0, .i .u8 0, .i .u8 0, .i .u8 0, .i .u8 0, .i .u8 0, .i .u8 0, .i .u8 0, .i .u8 0, .i .u8 0, .i .u8 0, .i .u8 0, .i .u8 0, .i .u8 0, .i .u8 0, .i .u8 0, .i .u8 0, .i .u8 0, .i .u8 0, .i .u8 0, .i .u8 0, .i .u8 0, .i .u8 0, .i .u8 0, .i .u8 0, .i .u8 0, .i .u8 0, .i .u8 0, .i .u8 0, .i .u8 0, .i .u8 0, .i .u8 0, .i .u8 0, .i .u8 0, .i .u8 0, .i .u8 0, .i .u8 0, .i .u8 0, .i .u8 0, .i .u8 0, .i .u8 0, .i .u8 0, .i .u8 0, .i .u8 0, .i .u8 0, .i .u8 0, .i .u8 0, .i .u8 0, .i .u8 0, .i .u8 0, .i .u8 0]) := by kernel_rfl
@[go_sem] theorem un195 : Program.underlying Tryz.prog 195 = some (.array 65 5) := by kernel_rfl
end Go.Proofs.YtpilgabbgflbhaaGreatDoor
namespace Go.Vo
theorem cE {P : Program} {G : Glob} {dr : Option Nat} {d : Option Nat} {os : List AOper} {K : List AV → List AObj → Prop} {env : List AV} {h : List AObj} {f : FuncId} {A A' : List AV} {r : AV} (s : Ctr P G f A' r)
 (k : awops P G dr os K (aput env d (mat r (hAfter r h A)).1) (mat r (hAfter r h A)).2) (hA : A.map (snap dep h) = A' := by (simp -implicitDefEqProofs (disch := omega) only [avs, avb, avi, avo, sigCells, opCells, pairCells, go_sem, ↓reduceIte, reduceAdd, reduceSub, reduceMul, reduceLeDiff, reduceLT, reduceEqDiff, reduceNeg, Nat.reduceBEq]; done)) : callF P G dr f A d os K env h := c_ctrE s hA k
end Go.Vo
namespace Go.Proofs.YtpilgabbgflbhaaGreatDoor
open Go Go.Vo
open Nat (reduceAdd reduceSub reduceMul reduceLeDiff reduceLT reduceEqDiff)
open Int (reduceNeg)
abbrev CT := Ctr Tryz.prog G0

def letter (n : Int) : Bool := decide (97 ≤ n) && decide (n ≤ 122) || decide (65 ≤ n) && decide (n ≤ 90)
def digit (n : Int) : Bool := decide (48 ≤ n) && decide (n ≤ 57)

theorem ctr96 (n : Int): CT 95 [.i .u8 n] (.b (letter n)) := by
 refine sem_introB mixed Tryz.func95 g0 ?_
 · skip
   repeat' (first | refine gT ?_ ?_ | refine gF ?_ ?_ | refine gC ?_ ?_ | (intro hc; simp -implicitDefEqProofs only [hc, go_sem]))
   all_goals (refine fin_eq ?_ (by rfl); simp_all [letter] <;> omega)
theorem ctr98 (n : Int): CT 160 [.i .u8 n] (.b (letter n)) := by
 refine sem_introB mixed Tryz.func160 g0 ?_
 · skip
   repeat' (first | refine gT ?_ ?_ | refine gF ?_ ?_ | refine gC ?_ ?_ | (intro hc; simp -implicitDefEqProofs only [hc, go_sem]))
   all_goals (refine fin_eq ?_ (by rfl); simp_all [letter] <;> omega)
theorem ctr99 (n : Int): CT 161 [.i .u8 n] (.b (digit n)) := by
 refine sem_introB mixed Tryz.func161 g0 ?_
 · skip
   repeat' (first | refine gT ?_ ?_ | refine gF ?_ ?_ | refine gC ?_ ?_ | (intro hc; simp -implicitDefEqProofs only [hc, go_sem]))
   all_goals (refine fin_eq ?_ (by rfl); simp_all [digit] <;> omega)
def part (n : Int) : Bool := letter n || digit n || decide (n = 95)
theorem ctr97 (n : Int): CT 96 [.i .u8 n] (.b (part n)) := by
 refine sem_introB mixed Tryz.func96 g0 ?_
 · skip
   repeat' (first | refine gT ?_ ?_ | refine gF ?_ ?_ | refine gC ?_ ?_ | refine c_ctr (ctr96 _) ?_; simp -implicitDefEqProofs only [go_sem] | (intro hc; simp -implicitDefEqProofs only [hc, go_sem]))
   all_goals (refine fin_eq ?_ (by rfl); simp_all [part, digit] <;> omega)

def at_ (s : Str) (k : Nat) : Int := ((s.getD k 0).toNat : Int)
def isName (s : Str) : Bool := !s.isEmpty && decide (s.length ≤ 40) && letter (at_ s 0) && s.all fun c => part c.toNat

theorem all_at {s : Str} {q : Int → Bool} (h : ∀ j, j < s.length → q (at_ s j) = true) : (s.all fun c => q c.toNat) = true := by
 rw [List.all_eq_true]
 intro c hc
 obtain ⟨j, hj, rfl⟩ := List.mem_iff_getElem.1 hc
 have := h j hj
 simpa [at_, hj] using this
theorem not_all_at {s : Str} {q : Int → Bool} {j : Nat} (hj : j < s.length) (h : q (at_ s j) = false) : (s.all fun c => q c.toNat) = false := by
 rw [List.all_eq_false]
 exact ⟨s[j], List.getElem_mem hj, by simpa [at_, hj] using h⟩

theorem ctr41 (s : Str) (hs : s.length ≤ 140737488355328): CT 55 [.s s] (.b (isName s)) := by
 refine sem_introB mixed Tryz.func55 g0 ?_
 · skip
   (repeat' (first | refine gT ?_ ?_ | refine gF ?_ ?_ | refine gC ?_ ?_ | (refine c_ctr (ctr96 _) ?_; simp -implicitDefEqProofs (disch := omega) only [go_sem, simprocAttr]) | refine And.intro (by omega) ?_ | (intro hr; have hc := hr; (try simp only [zda, zdb, zdc, zdd] at hc); simp -implicitDefEqProofs (disch := omega) only [hr, go_sem, simprocAttr]; (try clear hr))))
   any_goals (refine fin_eq ?_ (by rfl); simp_all [isName, at_] <;> omega)
   refine x_loopJ (fun (k : Nat) => [.k, .k, .j, .j, .k, .k, .k, .k, .k, .k, .k, .k, .k, .k, .k, .k, .k, .k, .k, .v (.i .i64 k), .j, .j, .j, .j, .j, .j, .j, .j]) (fun k => []) (fun k => k ≤ s.length ∧ ∀ j, j < k → part (at_ s j) = true) (fun k => s.length - k) (0) ⟨Nat.zero_le _, fun j h => by omega⟩ rfl (by simp [Fits]) ?_
   rintro k j ⟨hk, ha⟩
   simp -implicitDefEqProofs (disch := omega) only [go_sem, simprocAttr]
   (repeat' (first | refine gT ?_ ?_ | refine gF ?_ ?_ | refine gC ?_ ?_ | (refine c_ctr (ctr97 _) ?_; simp -implicitDefEqProofs (disch := omega) only [go_sem, simprocAttr]) | refine And.intro (by omega) ?_ | (intro hr; have hc := hr; (try simp only [zda, zdb, zdc, zdd] at hc); simp -implicitDefEqProofs (disch := omega) only [hr, go_sem, simprocAttr]; (try clear hr))))
   · refine fin_eq ?_ (by rfl)
     simp only [isName, not_all_at (show k < s.length by omega) (by simpa [at_] using hc), Bool.and_false]
   · exact ⟨k + 1, ⟨by omega, below_succ ha (by simpa [at_] using hc)⟩, by omega, by simp⟩
   · refine fin_eq ?_ (by rfl)
     have h1 : k = s.length := by omega
     simp only [isName, all_at (h1 ▸ ha)]
     simp_all [at_] <;> omega

def okAt (s : Str) (j : Nat) : Bool := letter (at_ s j) || (decide (j ≠ 0) && part (at_ s j))
theorem isName_ok {s : Str} (h : ∀ j, j < s.length → okAt s j = true) (h1 : 1 ≤ s.length) (h2 : s.length ≤ 40) : isName s = true := by
 have h0 := h 0 (by omega)
 have hp : (s.all fun c => part c.toNat) = true := all_at (fun j hj => by
   have := h j hj
   unfold okAt at this
   simp only [Bool.or_eq_true, Bool.and_eq_true] at this
   rcases this with h | h
   · simp [part, h]
   · exact h.2)
 have hl : letter (at_ s 0) = true := by simpa [okAt] using h0
 have hne : s ≠ [] := by intro h; simp [h] at h1
 simp [isName, hp, hl, h2, hne]
theorem isName_no {s : Str} {j : Nat} (hj : j < s.length) (h : okAt s j = false) : isName s = false := by
 unfold okAt at h
 simp only [Bool.or_eq_false_iff, Bool.and_eq_false_iff] at h
 rcases h with ⟨h1, h2 | h2⟩
 · have : j = 0 := by simpa using h2
   subst this
   simp [isName, h1]
 · simp [isName, not_all_at hj h2]

theorem ctr42 (s : Str) (hs : s.length ≤ 140737488355328): CT 127 [.s s] (.b (isName s)) := by
 refine sem_introB mixed Tryz.func127 g0 ?_
 · skip
   refine x_loopJ (fun (k : Nat) => [.k, .k, .j, .j, .k, .k, .v (.i .i64 k), .j, .j, .j, .j, .j, .j, .j, .j, .j, .j, .j, .j, .j, .j, .j, .j, .j, .j, .j, .j, .j, .j, .j, .j, .j, .k, .k, .k, .k, .k, .k, .k, .k]) (fun k => []) (fun k => k ≤ s.length ∧ ∀ j, j < k → okAt s j = true) (fun k => s.length - k) (0) ⟨Nat.zero_le _, fun j h => by omega⟩ rfl (by simp [Fits]) ?_
   rintro k j ⟨hk, ha⟩
   simp -implicitDefEqProofs (disch := omega) only [go_sem, ↓reduceIte, reduceAdd, reduceSub, reduceMul, reduceLeDiff, reduceLT, reduceEqDiff, reduceNeg, Nat.reduceBEq]
   (repeat' (first | refine gT ?_ ?_ | refine gF ?_ ?_ | refine gC ?_ ?_ | (refine c_ctr (ctr98 _) ?_; simp -implicitDefEqProofs (disch := omega) only [go_sem, ↓reduceIte, reduceAdd, reduceSub, reduceMul, reduceLeDiff, reduceLT, reduceEqDiff, reduceNeg, Nat.reduceBEq]) | (refine c_ctr (ctr99 _) ?_; simp -implicitDefEqProofs (disch := omega) only [go_sem, ↓reduceIte, reduceAdd, reduceSub, reduceMul, reduceLeDiff, reduceLT, reduceEqDiff, reduceNeg, Nat.reduceBEq]) | refine And.intro (by omega) ?_ | (intro hr; have hc := hr; (try simp only [zda, zdb, zdc, zdd] at hc); simp -implicitDefEqProofs (disch := omega) only [hr, go_sem, ↓reduceIte, reduceAdd, reduceSub, reduceMul, reduceLeDiff, reduceLT, reduceEqDiff, reduceNeg, Nat.reduceBEq]; (try clear hr))))
   all_goals first | refine Exists.intro (k + 1) ⟨⟨by omega, below_succ ha (by simp_all [okAt, at_, part] <;> omega)⟩, by omega, by simp⟩ | refine fin_eq ?_ (by rfl)
   · rw [isName_no (j := k) (by omega) (by simp_all [okAt, at_, part] <;> omega)]
   · rw [isName_no (j := k) (by omega) (by simp_all [okAt, at_, part] <;> omega)]
   · have h1 : k = s.length := by omega
     by_cases h2 : s.length ≤ 40
     · rw [isName_ok (h1 ▸ ha) (by omega) h2]; simp; omega
     · have e1 : isName s = false := by simp [isName, h2]
       rw [e1]; congr 1; symm; simp; omega
   · have : s = [] := List.eq_nil_of_length_eq_zero (by omega)
     simp [this, isName]
def isFrame (s : Str) : Bool := decide (2 < s.length) && decide (at_ s (s.length - 2) = 39) && decide (49 ≤ at_ s (s.length - 1)) && decide (at_ s (s.length - 1) ≤ 56)
def base (s : Str) : Str := if isFrame s then s.take (s.length - 2) else s
def frame (s : Str) : Str := if isFrame s then s.drop (s.length - 2) else []
theorem ctr109 (s : Str) (hs : s.length ≤ 140737488355328): CT 104 [.s s] (.tup [.s (base s), .s (frame s)]) := by
 refine sem_introB mixed Tryz.func104 g0 ?_
 · skip
   (repeat' (first | refine gT ?_ ?_ | refine gF ?_ ?_ | refine gC ?_ ?_ | refine And.intro (by omega) ?_ | (intro hr; have hc := hr; (try simp only [zda, zdb, zdc, zdd] at hc); simp -implicitDefEqProofs (disch := omega) only [hr, go_sem, ↓reduceIte, reduceAdd, reduceSub, reduceMul, reduceLeDiff, reduceLT, reduceEqDiff, reduceNeg, Nat.reduceBEq]; (try clear hr))))
   all_goals (refine fin_eq ?_ (by rfl))
   · have h : isFrame s = true := by simp_all [isFrame, at_] <;> omega
     simp [base, frame, h]
   all_goals (have h : isFrame s = false := by simp_all [isFrame, at_] <;> omega)
   all_goals simp [base, frame, h]
theorem ctr138 (s : Str) (hs : s.length ≤ 140737488355328): CT 162 [.s s] (.tup [.s (base s), .s (frame s)]) := by
 refine sem_introB mixed Tryz.func162 g0 ?_
 · skip
   (repeat' (first | refine gT ?_ ?_ | refine gF ?_ ?_ | refine gC ?_ ?_ | refine And.intro (by omega) ?_ | (intro hr; have hc := hr; (try simp only [zda, zdb, zdc, zdd] at hc); simp -implicitDefEqProofs (disch := omega) only [hr, go_sem, ↓reduceIte, reduceAdd, reduceSub, reduceMul, reduceLeDiff, reduceLT, reduceEqDiff, reduceNeg, Nat.reduceBEq]; (try clear hr))))
   all_goals (refine fin_eq ?_ (by rfl))
   · have h : isFrame s = true := by simp_all [isFrame, at_] <;> omega
     simp [base, frame, h]
   all_goals (have h : isFrame s = false := by simp_all [isFrame, at_] <;> omega)
   all_goals simp [base, frame, h]
theorem base_len (s : Str) : (base s).length ≤ s.length := by unfold base; split <;> simp <;> omega
theorem ctr115 (s : Str) (hs : s.length ≤ 140737488355328): CT 128 [.s s] (.b (isName (base s))) := by
 refine sem_introB mixed Tryz.func128 g0 ?_
 · skip
   (repeat' (first | refine gT ?_ ?_ | refine gF ?_ ?_ | refine gC ?_ ?_ | ((refine c_ctrE (ctr138 s hs) ?_ ?_; (focus (simp -implicitDefEqProofs (disch := omega) only [avs, avb, avi, avo, sigCells, opCells, pairCells, go_sem, ↓reduceIte, reduceAdd, reduceSub, reduceMul, reduceLeDiff, reduceLT, reduceEqDiff, reduceNeg, Nat.reduceBEq]; done))); simp -implicitDefEqProofs (disch := omega) only [go_sem, ↓reduceIte, reduceAdd, reduceSub, reduceMul, reduceLeDiff, reduceLT, reduceEqDiff, reduceNeg, Nat.reduceBEq]) | (refine c_ctr (ctr42 _ (Nat.le_trans (base_len s) hs)) ?_; simp -implicitDefEqProofs (disch := omega) only [go_sem, ↓reduceIte, reduceAdd, reduceSub, reduceMul, reduceLeDiff, reduceLT, reduceEqDiff, reduceNeg, Nat.reduceBEq]) | refine And.intro (by omega) ?_ | (intro hr; have hc := hr; (try simp only [zda, zdb, zdc, zdd] at hc); simp -implicitDefEqProofs (disch := omega) only [hr, go_sem, ↓reduceIte, reduceAdd, reduceSub, reduceMul, reduceLeDiff, reduceLT, reduceEqDiff, reduceNeg, Nat.reduceBEq]; (try clear hr))))
   refine fin_eq ?_ (by rfl); rfl
theorem contains_at {l : List Str} {s : Str} {k : Nat} (hk : k < l.length) (h : l.getD k [] = s) : l.contains s = true := by
 have h1 : l[k]? = some s := by simpa [List.getD, hk] using h
 simpa using List.mem_of_getElem? h1
theorem not_contains {l : List Str} {s : Str} (h : ∀ j, j < l.length → l.getD j [] ≠ s) : l.contains s = false := by
 have : s ∉ l := by
   intro hm
   obtain ⟨j, hj, he⟩ := List.mem_iff_getElem.1 hm
   exact h j hj (by simp [List.getD, hj, he])
 simpa using this
theorem ctr27 (l : List Str) (s : Str) (hl : l.length ≤ 140737488355328): CT 91 [avs l, .s s] (.b (l.contains s)) := by
 refine sem_introA mixed Tryz.func91 g0 ?_
 · simp -implicitDefEqProofs (disch := omega) only [Tryz.f91, go_sem, List.replicate, ↓reduceIte, reduceAdd, reduceSub, reduceMul, reduceLeDiff, reduceLT, reduceEqDiff, reduceNeg, Nat.reduceBEq, avs]
   refine x_loopJ (fun (k : Nat) => [.k, .k, .k, .k, .j, .k, .j, .k, .k, .v (.i .i64 k), .j, .j, .j, .j, .j, .j, .j]) (fun k => []) (fun k => k ≤ l.length ∧ ∀ j, j < k → l.getD j [] ≠ s) (fun k => l.length - k) (0) ⟨Nat.zero_le _, fun j h => by omega⟩ rfl (by simp [Fits]) ?_
   rintro k j ⟨hk, ha⟩
   simp -implicitDefEqProofs (disch := omega) only [go_sem, ↓reduceIte, reduceAdd, reduceSub, reduceMul, reduceLeDiff, reduceLT, reduceEqDiff, reduceNeg, Nat.reduceBEq]
   (repeat' (first | refine gT ?_ ?_ | refine gF ?_ ?_ | refine gC ?_ ?_ | refine And.intro (by omega) ?_ | (intro hr; have hc := hr; (try simp only [zda, zdb, zdc, zdd] at hc); simp -implicitDefEqProofs (disch := omega) only [hr, go_sem, ↓reduceIte, reduceAdd, reduceSub, reduceMul, reduceLeDiff, reduceLT, reduceEqDiff, reduceNeg, Nat.reduceBEq]; (try clear hr))))
   · refine fin_eq ?_ (by rfl)
     rw [contains_at (k := k) (by omega) (by assumption)]
   · exact ⟨k + 1, ⟨by omega, below_succ ha (by assumption)⟩, by omega, by simp⟩
   · refine fin_eq ?_ (by rfl)
     have h1 : k = l.length := by omega
     rw [not_contains (h1 ▸ ha)]

def alwaysA : List Str := [[65, 110, 121], [73, 110, 116], [66, 111, 111, 108], [84, 101, 120, 116], [73, 100], [76, 105, 115, 116], [77, 97, 112]]
theorem ctr48 : CT 57 [] (.own 1 (alwaysA.map .s) alwaysA.length) := by
 refine sem_introB mixed Tryz.func57 g0 ?_
 · skip
   exact fin_own rfl rfl rfl rfl rfl
def alwaysB : List Str := [[65, 110, 121], [66, 111, 111, 108], [73, 100], [73, 110, 116], [76, 105, 115, 116], [77, 97, 112], [84, 101, 120, 116]]
theorem ctr78 : CT 92 [] (.own 1 (alwaysB.map .s) alwaysB.length) := by
 refine sem_introB mixed Tryz.func92 g0 ?_
 · skip
   exact fin_own rfl rfl rfl rfl rfl

def idx {α : Type} (p : α → Bool) (l : List α) : Int := match l.findIdx? p with | some i => i | none => -1
theorem idx_some {α : Type} {p : α → Bool} {l : List α} {d : α} {k : Nat} (hk : k < l.length) (h : p (l.getD k d) = true) (hn : ∀ j, j < k → p (l.getD j d) = false) : idx p l = k := by
 have : l.findIdx? p = some k := by
   rw [List.findIdx?_eq_some_iff_getElem]
   refine ⟨hk, by simpa [List.getD, hk] using h, fun j hj => ?_⟩
   have := hn j hj
   simpa [List.getD, show j < l.length by omega] using this
 simp [idx, this]
theorem idx_none {α : Type} {p : α → Bool} {l : List α} {d : α} (hn : ∀ j, j < l.length → p (l.getD j d) = false) : idx p l = -1 := by
 have : l.findIdx? p = none := by
   rw [List.findIdx?_eq_none_iff]
   intro x hx
   obtain ⟨j, hj, rfl⟩ := List.mem_iff_getElem.1 hx
   have := hn j hj
   simpa [List.getD, hj] using this
 simp [idx, this]
theorem idx_any {α : Type} {p : α → Bool} {l : List α} : decide (0 ≤ idx p l) = l.any p := by
 unfold idx
 cases h : l.findIdx? p with
 | none =>
   rw [List.findIdx?_eq_none_iff] at h
   have : l.any p = false := by rw [List.any_eq_false]; intro x hx; simp [h x hx]
   rw [this]; rfl
 | some i =>
   rw [List.findIdx?_eq_some_iff_getElem] at h
   obtain ⟨hi, hp, _⟩ := h
   have : l.any p = true := List.any_eq_true.2 ⟨_, List.getElem_mem hi, hp⟩
   rw [this]; simp
theorem ctr100 (l : List Str) (s : Str) (hl : l.length ≤ 140737488355328): CT 97 [avs l, .s s] (.i .i64 (idx (fun x => decide (s = x)) l)) := by
 refine sem_introA mixed Tryz.func97 g0 ?_
 · simp -implicitDefEqProofs (disch := omega) only [Tryz.f97, go_sem, List.replicate, simprocAttr, avs]
   refine x_loopJ (fun (k : Nat) => [.k, .k, .k, .k, .j, .j, .k, .k, .v (.i .i64 k), .j, .j, .j, .j, .j, .j, .j, .j, .j, .j]) (fun k => []) (fun k => k ≤ l.length ∧ ∀ j, j < k → decide (s = l.getD j []) = false) (fun k => l.length - k) (0) ⟨Nat.zero_le _, fun j h => by omega⟩ rfl (by simp [Fits]) ?_
   rintro k j ⟨hk, ha⟩
   simp -implicitDefEqProofs (disch := omega) only [go_sem, simprocAttr]
   (repeat' (first | refine gT ?_ ?_ | refine gF ?_ ?_ | refine gC ?_ ?_ | refine And.intro (by omega) ?_ | (intro hr; have hc := hr; (try simp only [zda, zdb, zdc, zdd] at hc); simp -implicitDefEqProofs (disch := omega) only [hr, go_sem, simprocAttr]; (try clear hr))))
   · refine fin_eq ?_ (by rfl)
     rw [idx_some (d := []) (k := k) (by omega) (by simpa using hc) ha]
   · exact ⟨k + 1, ⟨by omega, below_succ ha (by simpa using hc)⟩, by omega, by simp⟩
   · refine fin_eq ?_ (by rfl)
     have h1 : k = l.length := by omega
     rw [idx_none (h1 ▸ ha)]
theorem idx_contains {s : Str} {l : List Str} : decide (0 ≤ idx (fun x => decide (s = x)) l) = l.contains s := by
 rw [idx_any, List.contains_eq_any_beq]
 congr 1
 funext x
 exact Bool.eq_iff_iff.2 (by simp)
theorem ctr47 (l : List Str) (s : Str) (hl : l.length ≤ 140737488355328): CT 56 [avs l, .s s] (.b (l.contains s)) := by
 refine sem_introA mixed Tryz.func56 g0 ?_
 · simp -implicitDefEqProofs (disch := omega) only [Tryz.f56, go_sem, List.replicate, simprocAttr, avs]
   (repeat' (first | refine gT ?_ ?_ | refine gF ?_ ?_ | refine gC ?_ ?_ | ((refine c_ctrE (ctr100 l s hl) ?_ ?_; (focus (simp -implicitDefEqProofs (disch := omega) only [avs, avb, avi, avo, sigCells, opCells, pairCells, go_sem, simprocAttr]; done))); simp -implicitDefEqProofs (disch := omega) only [go_sem, simprocAttr]) | refine And.intro (by omega) ?_ | (intro hr; have hc := hr; (try simp only [zda, zdb, zdc, zdd] at hc); simp -implicitDefEqProofs (disch := omega) only [hr, go_sem, simprocAttr]; (try clear hr))))
   refine fin_eq ?_ (by rfl)
   rw [idx_contains]
theorem same_all {l m : List Str} (hl : l.length = m.length) (h : ∀ j, j < l.length → l.getD j [] = m.getD j []) : l = m := by
 apply List.ext_getElem hl
 intro j h1 h2
 have := h j h1
 simpa [List.getD, h1, h2] using this
theorem ctr67 (l m : List Str) (hl : l.length ≤ 140737488355328) (hm : m.length ≤ 140737488355328): CT 164 [avs l, avs m] (.b (decide (l = m))) := by
 refine sem_introA mixed Tryz.func164 g0 ?_
 · simp -implicitDefEqProofs (disch := omega) only [Tryz.f164, go_sem, List.replicate, simprocAttr, avs]
   (repeat' (first | refine gT ?_ ?_ | refine gF ?_ ?_ | refine gC ?_ ?_ | refine And.intro (by omega) ?_ | (intro hr; have hc := hr; (try simp only [zda, zdb, zdc, zdd] at hc); simp -implicitDefEqProofs (disch := omega) only [hr, go_sem, simprocAttr]; (try clear hr))))
   · refine fin_eq ?_ (by rfl)
     have : l ≠ m := fun h => hc (by rw [h])
     rw [zf this]
   refine x_loopJ (fun (k : Nat) => [.k, .k, .k, .k, .j, .j, .k, .k, .k, .k, .k, .k, .k, .v (.i .i64 k), .j, .j, .j, .j, .j, .j, .j, .j, .j, .j, .j, .j]) (fun k => []) (fun k => k ≤ l.length ∧ ∀ j, j < k → l.getD j [] = m.getD j []) (fun k => l.length - k) (0) ⟨Nat.zero_le _, fun j h => by omega⟩ rfl (by simp [Fits]) ?_
   rintro k j ⟨hk, ha⟩
   simp -implicitDefEqProofs (disch := omega) only [go_sem, simprocAttr]
   (repeat' (first | refine gT ?_ ?_ | refine gF ?_ ?_ | refine gC ?_ ?_ | refine And.intro (by omega) ?_ | (intro hr; have hc := hr; (try simp only [zda, zdb, zdc, zdd] at hc); simp -implicitDefEqProofs (disch := omega) only [hr, go_sem, simprocAttr]; (try clear hr))))
   · refine fin_eq ?_ (by rfl)
     have : l ≠ m := fun h => by simp [h] at *
     rw [zf this]
   · exact ⟨k + 1, ⟨by omega, below_succ ha (by simpa using hc)⟩, by omega, by simp⟩
   · refine fin_eq ?_ (by rfl)
     have : l = m := same_all (by omega) (fun j hj => ha j (by omega))
     rw [zt this]
theorem ctr90 (l m : List Str) (hl : l.length ≤ 140737488355328) (hm : m.length ≤ 140737488355328): CT 147 [avs l, avs m] (.b (decide (l = m))) := by
 refine sem_introA mixed Tryz.func147 g0 ?_
 · simp -implicitDefEqProofs (disch := omega) only [Tryz.f147, go_sem, List.replicate, simprocAttr, avs]
   (repeat' (first | refine gT ?_ ?_ | refine gF ?_ ?_ | refine gC ?_ ?_ | refine And.intro (by omega) ?_ | (intro hr; have hc := hr; (try simp only [zda, zdb, zdc, zdd] at hc); simp -implicitDefEqProofs (disch := omega) only [hr, go_sem, simprocAttr]; (try clear hr))))
   · refine fin_eq ?_ (by rfl)
     have : l ≠ m := fun h => hc (by rw [h])
     rw [zf this]
   refine x_loopJ (fun (k : Nat) => [.k, .k, .k, .k, .j, .j, .k, .k, .k, .k, .k, .k, .k, .v (.i .i64 k), .j, .j, .j, .j, .j, .j, .j, .j, .j, .j, .j, .j]) (fun k => []) (fun k => k ≤ l.length ∧ ∀ j, j < k → l.getD j [] = m.getD j []) (fun k => l.length - k) (0) ⟨Nat.zero_le _, fun j h => by omega⟩ rfl (by simp [Fits]) ?_
   rintro k j ⟨hk, ha⟩
   simp -implicitDefEqProofs (disch := omega) only [go_sem, simprocAttr]
   (repeat' (first | refine gT ?_ ?_ | refine gF ?_ ?_ | refine gC ?_ ?_ | refine And.intro (by omega) ?_ | (intro hr; have hc := hr; (try simp only [zda, zdb, zdc, zdd] at hc); simp -implicitDefEqProofs (disch := omega) only [hr, go_sem, simprocAttr]; (try clear hr))))
   · refine fin_eq ?_ (by rfl)
     have : l ≠ m := fun h => by simp [h] at *
     rw [zf this]
   · exact ⟨k + 1, ⟨by omega, below_succ ha (by simpa using hc)⟩, by omega, by simp⟩
   · refine fin_eq ?_ (by rfl)
     have : l = m := same_all (by omega) (fun j hj => ha j (by omega))
     rw [zt this]
theorem nodup_no {l : List Str} {k : Nat} (hn : l.Nodup) (hk : k < l.length) : (l.take k).contains (l.getD k []) = false := by
 have : l.getD k [] ∉ l.take k := by
   intro hm
   obtain ⟨j, hj, he⟩ := List.mem_iff_getElem.1 hm

   have := (List.pairwise_iff_getElem.1 hn) j k (by simp at hj; omega) hk (by simp at hj; omega)
   simp [List.getD, hk] at he
   exact this he
 simpa using this
theorem nodup_of {l : List Str} (h : ∀ j, j < l.length → (l.take j).contains (l.getD j []) = false) : l.Nodup := by
 refine List.pairwise_iff_getElem.2 (fun i j hi hj hij he => ?_)
 have := h j hj
 have hm : l.getD j [] ∈ l.take j := by
   rw [List.mem_iff_getElem]
   exact ⟨i, by simp; omega, by simp [List.getD, hj, he]⟩
 have h2 : (l.take j).contains (l.getD j []) = true := by simpa using hm
 rw [h2] at this; cases this
theorem ctr62 (l : List Str) (hl : l.length ≤ 140737488355328): CT 84 [avs l] (.b (decide l.Nodup)) := by
 refine sem_introA mixed Tryz.func84 g0 ?_
 · simp -implicitDefEqProofs (disch := omega) only [Tryz.f84, go_sem, List.replicate, simprocAttr, avs]
   refine x_loopJ (fun (k : Nat) => [.k, .k, .j, .j, .k, .k, .v (.i .i64 k), .j, .j, .j, .j, .j, .j, .j, .j, .j, .j, .j]) (fun k => []) (fun k => k ≤ l.length ∧ ∀ j, j < k → (l.take j).contains (l.getD j []) = false) (fun k => l.length - k) (0) ⟨Nat.zero_le _, fun j h => by omega⟩ rfl (by simp [Fits]) ?_
   rintro k j ⟨hk, ha⟩
   simp -implicitDefEqProofs (disch := omega) only [go_sem, simprocAttr]
   (repeat' (first | refine gT ?_ ?_ | refine gF ?_ ?_ | refine gC ?_ ?_ | ((refine c_ctrE (ctr27 (l.take k) (l.getD k []) (by simp; omega)) ?_ ?_; (focus (simp -implicitDefEqProofs (disch := omega) only [avs, avb, avi, avo, sigCells, opCells, pairCells, go_sem, simprocAttr]; done))); simp -implicitDefEqProofs (disch := omega) only [go_sem, simprocAttr]) | refine And.intro (by omega) ?_ | (intro hr; have hc := hr; (try simp only [zda, zdb, zdc, zdd] at hc); simp -implicitDefEqProofs (disch := omega) only [hr, go_sem, simprocAttr]; (try clear hr))))
   · refine fin_eq ?_ (by rfl)
     rw [zf (fun hn => by rw [nodup_no hn (by omega)] at hc; cases hc)]
   · exact ⟨k + 1, ⟨by omega, below_succ ha hc⟩, by omega, by simp⟩
   · refine fin_eq ?_ (by rfl)
     have h1 : k = l.length := by omega
     rw [zt (nodup_of (h1 ▸ ha))]

def builtIns : List Str := [[97, 100, 100], [97, 110, 100], [99, 97, 116], [100, 101, 108], [100, 105, 118], [101, 113], [103, 101], [103, 101, 116], [103, 116], [104, 97, 115], [105, 115], [105, 115, 118, 97, 108, 117, 101], [106, 111, 105, 110], [107, 101, 121, 115], [108, 101], [108, 101, 110, 103, 116, 104], [108, 116], [109, 111, 100], [109, 117, 108], [110, 101], [110, 101, 103], [110, 111, 116], [111, 114], [112, 105, 99, 107], [112, 117, 116], [115, 105, 122, 101], [115, 117, 98], [116, 101, 120, 116]]
theorem ctr95 : CT 46 [] (.own 1 (builtIns.map .s) builtIns.length) := by
 refine sem_introB mixed Tryz.func46 g0 ?_
 · skip
   exact fin_own rfl rfl rfl rfl rfl
theorem ctr40 (s : Str): CT 48 [.s s] (.b (builtIns.contains s)) := by
 refine sem_introB mixed Tryz.func48 g0 ?_
 · skip
   (repeat' (first | refine gT ?_ ?_ | refine gF ?_ ?_ | refine gC ?_ ?_ | ((first | (refine c_ctrE (ctr95) ?_ ?_; (focus (simp -implicitDefEqProofs (disch := omega) only [avs, avb, avi, avo, sigCells, opCells, pairCells, go_sem, simprocAttr]; done))) | (refine c_ctrE (ctr27 builtIns s (by decide)) ?_ ?_; (focus (simp -implicitDefEqProofs (disch := omega) only [avs, avb, avi, avo, sigCells, opCells, pairCells, go_sem, simprocAttr]; done)))); simp -implicitDefEqProofs (disch := omega) only [go_sem, simprocAttr]) | refine And.intro (by omega) ?_ | (intro hr; have hc := hr; (try simp only [zda, zdb, zdc, zdd] at hc); simp -implicitDefEqProofs (disch := omega) only [hr, go_sem, simprocAttr]; (try clear hr))))
   refine fin_eq ?_ (by rfl)
   rfl
def existsB (s : LSig) (a : Str) : Bool := alwaysB.contains a || s.sorts.contains a
theorem ctr61 (s : LSig) (a : Str) (hs : s.sorts.length ≤ 140737488355328): CT 83 [.agg (sigCells s), .s a] (.b (existsB s a)) := by
 refine sem_introA mixed Tryz.func83 g0 ?_
 · simp -implicitDefEqProofs (disch := omega) only [Tryz.f83, go_sem, List.replicate, simprocAttr, sigCells, avs]
   (repeat' (first | refine gT ?_ ?_ | refine gF ?_ ?_ | refine gC ?_ ?_ | ((first | (refine c_ctrE (ctr78) ?_ ?_; (focus (simp -implicitDefEqProofs (disch := omega) only [avs, avb, avi, avo, sigCells, opCells, pairCells, go_sem, simprocAttr]; done))) | (refine c_ctrE (ctr27 alwaysB a (by decide)) ?_ ?_; (focus (simp -implicitDefEqProofs (disch := omega) only [avs, avb, avi, avo, sigCells, opCells, pairCells, go_sem, simprocAttr]; done))) | (refine c_ctrE (ctr27 s.sorts a hs) ?_ ?_; (focus (simp -implicitDefEqProofs (disch := omega) only [avs, avb, avi, avo, sigCells, opCells, pairCells, go_sem, simprocAttr]; done)))); simp -implicitDefEqProofs (disch := omega) only [go_sem, simprocAttr]) | refine And.intro (by omega) ?_ | (intro hr; have hc := hr; (try simp only [zda, zdb, zdc, zdd] at hc); simp -implicitDefEqProofs (disch := omega) only [hr, go_sem, simprocAttr]; (try clear hr))))
   all_goals (refine fin_eq ?_ (by rfl))
   all_goals simp_all [existsB]

theorem persL_of : ∀ {l : List AV}, persL l = true → ∀ x ∈ l, pers x = true := by
 intro l h x hx
 obtain ⟨j, hj, rfl⟩ := List.mem_iff_getElem.1 hx
 exact persL_mem h j _ (by simp [hj])
theorem snapL {h : List AObj} {l : List AV} (hl : persL l = true) : l.map (snap dep h) = l := by
 have : l.map (snap dep h) = l.map id := List.map_congr_left (fun x hx => by rw [snap_dep, if_pos (persL_of hl x hx)]; rfl)
 rw [this, List.map_id]
theorem ctr131 (l : List Str) (f : FuncId) (a b : List AV) (p : Str → Bool) (hl : l.length ≤ 140737488355328) (ha : persL a = true) (hb : persL b = true) (hw : ∀ k, k < l.length → CT f (a ++ [.s (l.getD k [])] ++ b) (.b (p (l.getD k [])))): CT 141 [avs l, .fn f a b] (.i .i64 (idx p l)) := by
 refine sem_introA mixed Tryz.func141 g0 ?_
 · simp -implicitDefEqProofs (disch := omega) only [Tryz.f141, go_sem, List.replicate, simprocAttr, avs]
   refine x_loopJ (fun (k : Nat) => [.k, .k, .k, .k, .j, .j, .k, .k, .v (.i .i64 k), .j, .j, .j, .j, .j, .j, .j, .j, .j, .j]) (fun k => []) (fun k => k ≤ l.length ∧ ∀ j, j < k → p (l.getD j []) = false) (fun k => l.length - k) (0) ⟨Nat.zero_le _, fun j h => by omega⟩ rfl (by simp [Fits]) ?_
   rintro k j ⟨hk, hn⟩
   simp -implicitDefEqProofs (disch := omega) only [go_sem, simprocAttr]
   (repeat' (first | refine gT ?_ ?_ | refine gF ?_ ?_ | refine gC ?_ ?_ | refine And.intro (by omega) ?_ | (intro hr; have hc := hr; (try simp only [zda, zdb, zdc, zdd] at hc); simp -implicitDefEqProofs (disch := omega) only [hr, go_sem, simprocAttr]; (try clear hr))))
   · refine c_ctrE (hw k (by omega)) ?_ ?_
     · simp -implicitDefEqProofs (disch := omega) only [List.map_append, snapL ha, snapL hb, go_sem, simprocAttr]
     · simp -implicitDefEqProofs (disch := omega) only [go_sem, simprocAttr]
       (repeat' (first | refine gT ?_ ?_ | refine gF ?_ ?_ | refine gC ?_ ?_ | refine And.intro (by omega) ?_ | (intro hr; have hc := hr; (try simp only [zda, zdb, zdc, zdd] at hc); simp -implicitDefEqProofs (disch := omega) only [hr, go_sem, simprocAttr]; (try clear hr))))
       · refine fin_eq ?_ (by rfl)
         rw [idx_some (d := []) (k := k) (by omega) hc hn]
       · exact ⟨k + 1, ⟨by omega, below_succ hn hc⟩, by omega, by simp⟩
   · refine fin_eq ?_ (by rfl)
     have h1 : k = l.length := by omega
     rw [idx_none (h1 ▸ hn)]
theorem ctr101 (l : List Str) (f : FuncId) (a b : List AV) (p : Str → Bool) (hl : l.length ≤ 140737488355328) (ha : persL a = true) (hb : persL b = true) (hw : ∀ k, k < l.length → CT f (a ++ [.s (l.getD k [])] ++ b) (.b (p (l.getD k [])))): CT 98 [avs l, .fn f a b] (.b (l.any p)) := by
 refine sem_introA mixed Tryz.func98 g0 ?_
 · simp -implicitDefEqProofs (disch := omega) only [Tryz.f98, go_sem, List.replicate, simprocAttr, avs]
   refine c_ctrE (ctr131 l f a b p hl ha hb hw) ?_ ?_
   · simp -implicitDefEqProofs (disch := omega) only [avs, ha, hb, go_sem, simprocAttr]
   · simp -implicitDefEqProofs (disch := omega) only [go_sem, simprocAttr]
     refine fin_eq ?_ (by rfl)
     rw [idx_any]

theorem ctr102 (x : Str) (f : FuncId) (a b : List AV) (p : Bool) (ha : persL a = true) (hb : persL b = true) (hw : CT f (a ++ [.s x] ++ b) (.b p)): CT 99 [.s x, .box [.fn f a b] 0] (.b (!p)) := by
 refine sem_introB mixed Tryz.func99 g0 ?_
 · skip
   refine c_ctrE hw ?_ ?_
   · simp -implicitDefEqProofs (disch := omega) only [List.map_append, snapL ha, snapL hb, go_sem, ↓reduceIte, reduceAdd, reduceSub, reduceMul, reduceLeDiff, reduceLT, reduceEqDiff, reduceNeg, Nat.reduceBEq]
   · simp -implicitDefEqProofs (disch := omega) only [go_sem, ↓reduceIte, reduceAdd, reduceSub, reduceMul, reduceLeDiff, reduceLT, reduceEqDiff, reduceNeg, Nat.reduceBEq]
     refine fin_eq ?_ (by rfl)
     rfl
theorem ctr49 (l : List Str) (f : FuncId) (a b : List AV) (p : Str → Bool) (hl : l.length ≤ 140737488355328) (ha : persL a = true) (hb : persL b = true) (hw : ∀ k, k < l.length → CT f (a ++ [.s (l.getD k [])] ++ b) (.b (p (l.getD k [])))): CT 58 [avs l, .fn f a b] (.b (l.all p)) := by
 refine sem_introA mixed Tryz.func58 g0 ?_
 · simp -implicitDefEqProofs (disch := omega) only [Tryz.f58, go_sem, List.replicate, ↓reduceIte, reduceAdd, reduceSub, reduceMul, reduceLeDiff, reduceLT, reduceEqDiff, reduceNeg, Nat.reduceBEq, avs]
   refine c_ctrE (ctr101 l 99 [] [.box [.fn f a b] 0] (fun x => !p x) hl rfl (by simp [persL, pers, ha, hb]) (fun k hk => ctr102 _ f a b _ ha hb (hw k hk))) ?_ ?_
   · simp -implicitDefEqProofs (disch := omega) only [avs, ha, hb, go_sem, ↓reduceIte, reduceAdd, reduceSub, reduceMul, reduceLeDiff, reduceLT, reduceEqDiff, reduceNeg, Nat.reduceBEq]
   · simp -implicitDefEqProofs (disch := omega) only [ha, hb, go_sem, ↓reduceIte, reduceAdd, reduceSub, reduceMul, reduceLeDiff, reduceLT, reduceEqDiff, reduceNeg, Nat.reduceBEq]
     refine fin_eq ?_ (by rfl)
     rw [List.all_eq_not_any_not]

theorem ctr46 (s : Str) (hs : s.length ≤ 140737488355328): CT 54 [.s s] (.b (isName s && !alwaysA.contains s)) := by
 refine sem_introB mixed Tryz.func54 g0 ?_
 · skip
   (repeat' (first | refine gT ?_ ?_ | refine gF ?_ ?_ | refine gC ?_ ?_ | ((first | (refine c_ctrE (ctr41 s hs) ?_ ?_; (focus (simp -implicitDefEqProofs (disch := omega) only [avs, avb, avi, avo, sigCells, opCells, pairCells, go_sem, simprocAttr]; done))) | (refine c_ctrE (ctr48) ?_ ?_; (focus (simp -implicitDefEqProofs (disch := omega) only [avs, avb, avi, avo, sigCells, opCells, pairCells, go_sem, simprocAttr]; done))) | (refine c_ctrE (ctr47 alwaysA s (by decide)) ?_ ?_; (focus (simp -implicitDefEqProofs (disch := omega) only [avs, avb, avi, avo, sigCells, opCells, pairCells, go_sem, simprocAttr]; done)))); simp -implicitDefEqProofs (disch := omega) only [go_sem, simprocAttr]) | refine And.intro (by omega) ?_ | (intro hr; have hc := hr; (try simp only [zda, zdb, zdc, zdd] at hc); simp -implicitDefEqProofs (disch := omega) only [hr, go_sem, simprocAttr]; (try clear hr))))
   all_goals (refine fin_eq ?_ (by rfl))
   all_goals simp_all

theorem akeyFind_s {P : Program} {T : TypeId} (hT : P.underlying T = some .string) {x : Str} : ∀ (l : List Str), akeyFind P T (.s x) (l.map .s) = some (l.findIdx? fun y => decide (x = y))
 | [] => rfl
 | y :: l => by
   simp only [List.map_cons, akeyFind, aEq, leafEqT, hT, akeyFind_s hT l, List.findIdx?_cons]
   cases h : decide (x = y) <;> simp
theorem findIdx_no {x : Str} {l : List Str} (h : l.contains x = false) : (l.findIdx? fun y => decide (x = y)) = none := by
 rw [List.findIdx?_eq_none_iff]
 intro y hy
 have : x ∉ l := by simpa using h
 simp only [decide_eq_false_iff_not]
 exact fun he => this (he ▸ hy)
theorem key9 (x : Str) (l : List Str) : akeyFind Tryz.prog 9 (.s x) (l.map .s) = some (l.findIdx? fun y => decide (x = y)) := akeyFind_s un9 l
theorem findIdx_yes {x : Str} {l : List Str} (h : l.contains x = true) : ∃ i, i < l.length ∧ (l.findIdx? fun y => decide (x = y)) = some i := by
 cases hf : l.findIdx? fun y => decide (x = y) with
 | none =>
   rw [List.findIdx?_eq_none_iff] at hf
   have hm : x ∈ l := by simpa using h
   have := hf x hm
   simp at this
 | some i =>
   rw [List.findIdx?_eq_some_iff_getElem] at hf
   exact ⟨i, hf.1, rfl⟩
theorem take_next {l : List Str} {k : Nat} (h : k < l.length) : l.take (k + 1) = l.take k ++ [l.getD k []] := by
 rw [List.take_succ_eq_append_getElem h]; simp [List.getD, h]
theorem rep_get {n i : Nat} {a : AV} (h : i < n) : (List.replicate n a)[i]? = some a := by simp [h]
theorem ctr45 (l : List Str) (hl : l.length ≤ 140737488355328): CT 53 [avs l] (.b (decide l.Nodup)) := by
 refine sem_introA mixed Tryz.func53 g0 ?_
 · simp -implicitDefEqProofs (disch := omega) only [Tryz.f53, go_sem, List.replicate, simprocAttr, avs]
   refine x_loopJ (fun (k : Nat) => [.k, .k, .j, .k, .k, .j, .k, .k, .k, .v (.i .i64 k), .j, .j, .j, .j, .j, .j, .j, .j, .j]) (fun k => [.map false ((l.take k).map .s) (List.replicate k (.b true))]) (fun k => k ≤ l.length ∧ ∀ j, j < k → (l.take j).contains (l.getD j []) = false) (fun k => l.length - k) (0) ⟨Nat.zero_le _, fun j h => by omega⟩ rfl (by simp [Fits]) ?_
   rintro k j ⟨hk, ha⟩
   simp -implicitDefEqProofs (disch := omega) only [go_sem, simprocAttr]
   (repeat' (first | refine gT ?_ ?_ | refine gF ?_ ?_ | refine gC ?_ ?_ | refine And.intro (by omega) ?_ | (intro hr; have hc := hr; (try simp only [zda, zdb, zdc, zdd] at hc); simp -implicitDefEqProofs (disch := omega) only [hr, go_sem, simprocAttr]; (try clear hr))))
   · by_cases hx : (l.take k).contains (l.getD k []) = true
     · obtain ⟨i, hi, hf⟩ := findIdx_yes hx
       have hi' : i < k := by simp at hi; omega
       simp -implicitDefEqProofs (disch := omega) only [keyOK, key9, hf, rep_get hi', go_sem, simprocAttr]
       refine fin_eq ?_ (by rfl)
       rw [zf (fun hn => by rw [nodup_no hn (by omega)] at hx; cases hx)]
     · have hx := Bool.eq_false_iff.2 hx
       simp -implicitDefEqProofs (disch := omega) only [keyOK, key9, findIdx_no hx, go_sem, simprocAttr]
       refine ⟨k + 1, ⟨by omega, below_succ ha hx⟩, by omega, ?_, by simp⟩
       rw [take_next (by omega), List.map_append, List.replicate_succ']; rfl
   · refine fin_eq ?_ (by rfl)
     have h1 : k = l.length := by omega
     rw [zt (nodup_of (h1 ▸ ha))]

def elB (x : Str × Str) : AV := .agg (pairCells x)
def elO (x : LOp) : AV := .agg (opCells x)
attribute [go_sem] elB elO
theorem ctr133 (l : List (Str × Str)) (f : FuncId) (a b : List AV) (p : Str × Str → Bool) (hl : l.length ≤ 140737488355328) (ha : persL a = true) (hb : persL b = true) (hw : ∀ k, k < l.length → CT f (a ++ [elB (l.getD k ([], []))] ++ b) (.b (p (l.getD k ([], []))))): CT 142 [avb l, .fn f a b] (.i .i64 (idx p l)) := by
 refine sem_introB mixed Tryz.func142 g0 ?_
 · skip
   refine x_loopJ (fun (k : Nat) => [.k, .k, .k, .k, .j, .j, .k, .k, .v (.i .i64 k), .j, .j, .j, .j, .j, .j, .j, .j, .j, .j]) (fun k => []) (fun k => k ≤ l.length ∧ ∀ j, j < k → p (l.getD j ([], [])) = false) (fun k => l.length - k) (0) ⟨Nat.zero_le _, fun j h => by omega⟩ rfl (by simp [Fits]) ?_
   rintro k j ⟨hk, hn⟩
   simp -implicitDefEqProofs (disch := omega) only [go_sem, simprocAttr]
   (repeat' (first | refine gT ?_ ?_ | refine gF ?_ ?_ | refine gC ?_ ?_ | refine And.intro (by omega) ?_ | (intro hr; have hc := hr; (try simp only [zda, zdb, zdc, zdd] at hc); simp -implicitDefEqProofs (disch := omega) only [hr, go_sem, simprocAttr]; (try clear hr))))
   · refine c_ctrE (hw k (by omega)) ?_ ?_
     · simp -implicitDefEqProofs (disch := omega) only [List.map_append, snapL ha, snapL hb, go_sem, simprocAttr]
     · simp -implicitDefEqProofs (disch := omega) only [go_sem, simprocAttr]
       (repeat' (first | refine gT ?_ ?_ | refine gF ?_ ?_ | refine gC ?_ ?_ | refine And.intro (by omega) ?_ | (intro hr; have hc := hr; (try simp only [zda, zdb, zdc, zdd] at hc); simp -implicitDefEqProofs (disch := omega) only [hr, go_sem, simprocAttr]; (try clear hr))))
       · refine fin_eq ?_ (by rfl)
         rw [idx_some (d := ([], [])) (k := k) (by omega) hc hn]
       · exact ⟨k + 1, ⟨by omega, below_succ hn hc⟩, by omega, by simp⟩
   · refine fin_eq ?_ (by rfl)
     have h1 : k = l.length := by omega
     rw [idx_none (h1 ▸ hn)]
theorem ctr134 (l : List (LOp)) (f : FuncId) (a b : List AV) (p : LOp → Bool) (hl : l.length ≤ 140737488355328) (ha : persL a = true) (hb : persL b = true) (hw : ∀ k, k < l.length → CT f (a ++ [elO (l.getD k default)] ++ b) (.b (p (l.getD k default)))): CT 143 [avo l, .fn f a b] (.i .i64 (idx p l)) := by
 refine sem_introB mixed Tryz.func143 g0 ?_
 · skip
   refine x_loopJ (fun (k : Nat) => [.k, .k, .k, .k, .j, .j, .k, .k, .v (.i .i64 k), .j, .j, .j, .j, .j, .j, .j, .j, .j, .j]) (fun k => []) (fun k => k ≤ l.length ∧ ∀ j, j < k → p (l.getD j default) = false) (fun k => l.length - k) (0) ⟨Nat.zero_le _, fun j h => by omega⟩ rfl (by simp [Fits]) ?_
   rintro k j ⟨hk, hn⟩
   simp -implicitDefEqProofs (disch := omega) only [go_sem, simprocAttr]
   (repeat' (first | refine gT ?_ ?_ | refine gF ?_ ?_ | refine gC ?_ ?_ | refine And.intro (by omega) ?_ | (intro hr; have hc := hr; (try simp only [zda, zdb, zdc, zdd] at hc); simp -implicitDefEqProofs (disch := omega) only [hr, go_sem, simprocAttr]; (try clear hr))))
   · refine c_ctrE (hw k (by omega)) ?_ ?_
     · simp -implicitDefEqProofs (disch := omega) only [List.map_append, snapL ha, snapL hb, go_sem, simprocAttr]
     · simp -implicitDefEqProofs (disch := omega) only [go_sem, simprocAttr]
       (repeat' (first | refine gT ?_ ?_ | refine gF ?_ ?_ | refine gC ?_ ?_ | refine And.intro (by omega) ?_ | (intro hr; have hc := hr; (try simp only [zda, zdb, zdc, zdd] at hc); simp -implicitDefEqProofs (disch := omega) only [hr, go_sem, simprocAttr]; (try clear hr))))
       · refine fin_eq ?_ (by rfl)
         rw [idx_some (d := default) (k := k) (by omega) hc hn]
       · exact ⟨k + 1, ⟨by omega, below_succ hn hc⟩, by omega, by simp⟩
   · refine fin_eq ?_ (by rfl)
     have h1 : k = l.length := by omega
     rw [idx_none (h1 ▸ hn)]
theorem ctr146 (l : List (Int)) (f : FuncId) (a b : List AV) (p : Int → Bool) (hl : l.length ≤ 140737488355328) (ha : persL a = true) (hb : persL b = true) (hw : ∀ k, k < l.length → CT f (a ++ [.i .i64 (l.getD k 0)] ++ b) (.b (p (l.getD k 0)))): CT 175 [avi l, .fn f a b] (.i .i64 (idx p l)) := by
 refine sem_introB mixed Tryz.func175 g0 ?_
 · skip
   refine x_loopJ (fun (k : Nat) => [.k, .k, .k, .k, .j, .j, .k, .k, .v (.i .i64 k), .j, .j, .j, .j, .j, .j, .j, .j, .j, .j]) (fun k => []) (fun k => k ≤ l.length ∧ ∀ j, j < k → p (l.getD j 0) = false) (fun k => l.length - k) (0) ⟨Nat.zero_le _, fun j h => by omega⟩ rfl (by simp [Fits]) ?_
   rintro k j ⟨hk, hn⟩
   simp -implicitDefEqProofs (disch := omega) only [go_sem, simprocAttr]
   (repeat' (first | refine gT ?_ ?_ | refine gF ?_ ?_ | refine gC ?_ ?_ | refine And.intro (by omega) ?_ | (intro hr; have hc := hr; (try simp only [zda, zdb, zdc, zdd] at hc); simp -implicitDefEqProofs (disch := omega) only [hr, go_sem, simprocAttr]; (try clear hr))))
   · refine c_ctrE (hw k (by omega)) ?_ ?_
     · simp -implicitDefEqProofs (disch := omega) only [List.map_append, snapL ha, snapL hb, go_sem, simprocAttr]
     · simp -implicitDefEqProofs (disch := omega) only [go_sem, simprocAttr]
       (repeat' (first | refine gT ?_ ?_ | refine gF ?_ ?_ | refine gC ?_ ?_ | refine And.intro (by omega) ?_ | (intro hr; have hc := hr; (try simp only [zda, zdb, zdc, zdd] at hc); simp -implicitDefEqProofs (disch := omega) only [hr, go_sem, simprocAttr]; (try clear hr))))
       · refine fin_eq ?_ (by rfl)
         rw [idx_some (d := 0) (k := k) (by omega) hc hn]
       · exact ⟨k + 1, ⟨by omega, below_succ hn hc⟩, by omega, by simp⟩
   · refine fin_eq ?_ (by rfl)
     have h1 : k = l.length := by omega
     rw [idx_none (h1 ▸ hn)]

theorem ctr105 (l : List (Str × Str)) (f : FuncId) (a b : List AV) (p : Str × Str → Bool) (hl : l.length ≤ 140737488355328) (ha : persL a = true) (hb : persL b = true) (hw : ∀ k, k < l.length → CT f (a ++ [elB (l.getD k ([], []))] ++ b) (.b (p (l.getD k ([], []))))): CT 100 [avb l, .fn f a b] (.b (l.any p)) := by
 refine sem_introB mixed Tryz.func100 g0 ?_
 · skip
   refine c_ctrE (ctr133 l f a b p hl ha hb hw) ?_ ?_
   · simp -implicitDefEqProofs (disch := omega) only [ha, hb, go_sem, simprocAttr]
   · simp -implicitDefEqProofs (disch := omega) only [go_sem, simprocAttr]
     refine fin_eq ?_ (by rfl)
     rw [idx_any]
theorem ctr107 (l : List (LOp)) (f : FuncId) (a b : List AV) (p : LOp → Bool) (hl : l.length ≤ 140737488355328) (ha : persL a = true) (hb : persL b = true) (hw : ∀ k, k < l.length → CT f (a ++ [elO (l.getD k default)] ++ b) (.b (p (l.getD k default)))): CT 102 [avo l, .fn f a b] (.b (l.any p)) := by
 refine sem_introB mixed Tryz.func102 g0 ?_
 · skip
   refine c_ctrE (ctr134 l f a b p hl ha hb hw) ?_ ?_
   · simp -implicitDefEqProofs (disch := omega) only [ha, hb, go_sem, simprocAttr]
   · simp -implicitDefEqProofs (disch := omega) only [go_sem, simprocAttr]
     refine fin_eq ?_ (by rfl)
     rw [idx_any]
theorem ctr135 (l : List (Int)) (f : FuncId) (a b : List AV) (p : Int → Bool) (hl : l.length ≤ 140737488355328) (ha : persL a = true) (hb : persL b = true) (hw : ∀ k, k < l.length → CT f (a ++ [.i .i64 (l.getD k 0)] ++ b) (.b (p (l.getD k 0)))): CT 144 [avi l, .fn f a b] (.b (l.any p)) := by
 refine sem_introB mixed Tryz.func144 g0 ?_
 · skip
   refine c_ctrE (ctr146 l f a b p hl ha hb hw) ?_ ?_
   · simp -implicitDefEqProofs (disch := omega) only [ha, hb, go_sem, simprocAttr]
   · simp -implicitDefEqProofs (disch := omega) only [go_sem, simprocAttr]
     refine fin_eq ?_ (by rfl)
     rw [idx_any]

theorem ctr106 (x : Str × Str) (f : FuncId) (a b : List AV) (p : Bool) (ha : persL a = true) (hb : persL b = true) (hw : CT f (a ++ [elB x] ++ b) (.b p)): CT 101 [elB x, .box [.fn f a b] 0] (.b (!p)) := by
 refine sem_introB mixed Tryz.func101 g0 ?_
 · skip
   refine c_ctrE hw ?_ ?_
   · simp -implicitDefEqProofs (disch := omega) only [List.map_append, snapL ha, snapL hb, go_sem, simprocAttr]
   · simp -implicitDefEqProofs (disch := omega) only [go_sem, simprocAttr]
     refine fin_eq ?_ (by rfl)
     rfl
theorem ctr108 (x : LOp) (f : FuncId) (a b : List AV) (p : Bool) (ha : persL a = true) (hb : persL b = true) (hw : CT f (a ++ [elO x] ++ b) (.b p)): CT 103 [elO x, .box [.fn f a b] 0] (.b (!p)) := by
 refine sem_introB mixed Tryz.func103 g0 ?_
 · skip
   refine c_ctrE hw ?_ ?_
   · simp -implicitDefEqProofs (disch := omega) only [List.map_append, snapL ha, snapL hb, go_sem, simprocAttr]
   · simp -implicitDefEqProofs (disch := omega) only [go_sem, simprocAttr]
     refine fin_eq ?_ (by rfl)
     rfl
theorem ctr136 (x : Int) (f : FuncId) (a b : List AV) (p : Bool) (ha : persL a = true) (hb : persL b = true) (hw : CT f (a ++ [.i .i64 x] ++ b) (.b p)): CT 145 [.i .i64 x, .box [.fn f a b] 0] (.b (!p)) := by
 refine sem_introB mixed Tryz.func145 g0 ?_
 · skip
   refine c_ctrE hw ?_ ?_
   · simp -implicitDefEqProofs (disch := omega) only [List.map_append, snapL ha, snapL hb, go_sem, simprocAttr]
   · simp -implicitDefEqProofs (disch := omega) only [go_sem, simprocAttr]
     refine fin_eq ?_ (by rfl)
     rfl

theorem ctr52 (l : List (Str × Str)) (f : FuncId) (a b : List AV) (p : Str × Str → Bool) (hl : l.length ≤ 140737488355328) (ha : persL a = true) (hb : persL b = true) (hw : ∀ k, k < l.length → CT f (a ++ [elB (l.getD k ([], []))] ++ b) (.b (p (l.getD k ([], []))))): CT 60 [avb l, .fn f a b] (.b (l.all p)) := by
 refine sem_introB mixed Tryz.func60 g0 ?_
 · skip
   refine c_ctrE (ctr105 l 101 [] [.box [.fn f a b] 0] (fun x => !p x) hl rfl (by simp [persL, pers, ha, hb]) (fun k hk => ctr106 _ f a b _ ha hb (hw k hk))) ?_ ?_
   · simp -implicitDefEqProofs (disch := omega) only [ha, hb, go_sem, simprocAttr]
   · simp -implicitDefEqProofs (disch := omega) only [ha, hb, go_sem, simprocAttr]
     refine fin_eq ?_ (by rfl)
     rw [List.all_eq_not_any_not]
theorem ctr55 (l : List (LOp)) (f : FuncId) (a b : List AV) (p : LOp → Bool) (hl : l.length ≤ 140737488355328) (ha : persL a = true) (hb : persL b = true) (hw : ∀ k, k < l.length → CT f (a ++ [elO (l.getD k default)] ++ b) (.b (p (l.getD k default)))): CT 63 [avo l, .fn f a b] (.b (l.all p)) := by
 refine sem_introB mixed Tryz.func63 g0 ?_
 · skip
   refine c_ctrE (ctr107 l 103 [] [.box [.fn f a b] 0] (fun x => !p x) hl rfl (by simp [persL, pers, ha, hb]) (fun k hk => ctr108 _ f a b _ ha hb (hw k hk))) ?_ ?_
   · simp -implicitDefEqProofs (disch := omega) only [ha, hb, go_sem, simprocAttr]
   · simp -implicitDefEqProofs (disch := omega) only [ha, hb, go_sem, simprocAttr]
     refine fin_eq ?_ (by rfl)
     rw [List.all_eq_not_any_not]
theorem ctr111 (l : List (Int)) (f : FuncId) (a b : List AV) (p : Int → Bool) (hl : l.length ≤ 140737488355328) (ha : persL a = true) (hb : persL b = true) (hw : ∀ k, k < l.length → CT f (a ++ [.i .i64 (l.getD k 0)] ++ b) (.b (p (l.getD k 0)))): CT 106 [avi l, .fn f a b] (.b (l.all p)) := by
 refine sem_introB mixed Tryz.func106 g0 ?_
 · skip
   refine c_ctrE (ctr135 l 145 [] [.box [.fn f a b] 0] (fun x => !p x) hl rfl (by simp [persL, pers, ha, hb]) (fun k hk => ctr136 _ f a b _ ha hb (hw k hk))) ?_ ?_
   · simp -implicitDefEqProofs (disch := omega) only [ha, hb, go_sem, simprocAttr]
   · simp -implicitDefEqProofs (disch := omega) only [ha, hb, go_sem, simprocAttr]
     refine fin_eq ?_ (by rfl)
     rw [List.all_eq_not_any_not]

theorem akeyFind_of {α : Type} [DecidableEq α] {P : Program} {T : TypeId} {el : α → AV} (hT : ∀ x y, aEq P T (el x) (el y) = some (decide (x = y))) {x : α} : ∀ (l : List α), akeyFind P T (el x) (l.map el) = some (l.findIdx? fun y => decide (x = y))
 | [] => rfl
 | y :: l => by
   simp only [List.map_cons, akeyFind, hT, akeyFind_of hT l, List.findIdx?_cons]
   cases h : decide (x = y) <;> simp
theorem keyB (x : Str × Str) (l : List (Str × Str)) : akeyFind Tryz.prog 83 (elB x) (l.map elB) = some (l.findIdx? fun y => decide (x = y)) := akeyFind_of (fun x y => by
 simp only [elB, pairCells, aEq, lf83, leavesEq, leafEqT, un9, Option.some.injEq]
 rw [Bool.eq_iff_iff]; simp [Prod.ext_iff]) l
theorem keyI (x : Int) (l : List Int) : akeyFind Tryz.prog 3 (.i .i64 x) (l.map (.i .i64)) = some (l.findIdx? fun y => decide (x = y)) := akeyFind_of (fun x y => by
 simp [aEq, leafEqT, un3]) l
theorem findIdx_noG {α : Type} [BEq α] [LawfulBEq α] [DecidableEq α] {x : α} {l : List α} (h : l.contains x = false) : (l.findIdx? fun y => decide (x = y)) = none := by
 rw [List.findIdx?_eq_none_iff]
 intro y hy
 have : x ∉ l := by simpa using h
 simp only [decide_eq_false_iff_not]
 exact fun he => this (he ▸ hy)
theorem findIdx_yesG {α : Type} [BEq α] [LawfulBEq α] [DecidableEq α] {x : α} {l : List α} (h : l.contains x = true) : ∃ i, i < l.length ∧ (l.findIdx? fun y => decide (x = y)) = some i := by
 cases hf : l.findIdx? fun y => decide (x = y) with
 | none =>
   rw [List.findIdx?_eq_none_iff] at hf
   have hm : x ∈ l := by simpa using h
   have := hf x hm
   simp at this
 | some i =>
   rw [List.findIdx?_eq_some_iff_getElem] at hf
   exact ⟨i, hf.1, rfl⟩
theorem nodup_noG {α : Type} [BEq α] [LawfulBEq α] [DecidableEq α] {l : List α} {k : Nat} {d : α} (hn : l.Nodup) (hk : k < l.length) : (l.take k).contains (l.getD k d) = false := by
 have : l.getD k d ∉ l.take k := by
   intro hm
   obtain ⟨j, hj, he⟩ := List.mem_iff_getElem.1 hm
   have := (List.pairwise_iff_getElem.1 hn) j k (by simp at hj; omega) hk (by simp at hj; omega)
   simp [List.getD, hk] at he
   exact this he
 simpa using this
theorem nodup_ofG {α : Type} [BEq α] [LawfulBEq α] [DecidableEq α] {l : List α} {d : α} (h : ∀ j, j < l.length → (l.take j).contains (l.getD j d) = false) : l.Nodup := by
 refine List.pairwise_iff_getElem.2 (fun i j hi hj hij he => ?_)
 have := h j hj
 have hm : l.getD j d ∈ l.take j := by
   rw [List.mem_iff_getElem]
   exact ⟨i, by simp; omega, by simp [List.getD, hj, he]⟩
 have h2 : (l.take j).contains (l.getD j d) = true := by simpa using hm
 rw [h2] at this; cases this

theorem ctr44 (l : List (Str × Str)) (hl : l.length ≤ 140737488355328): CT 52 [avb l] (.b (decide l.Nodup)) := by
 refine sem_introB mixed Tryz.func52 g0 ?_
 · skip
   refine x_loopG (fun (k : Nat) => [.k, .k, .j, .k, .k, .j, .k, .k, .k, .v (.i .i64 k), .j, .j, .j, .j, .j, .j, .j, .j, .j]) (fun k => [.map false ((l.take k).map elB) (List.replicate k (.b true))]) (fun k => k ≤ l.length ∧ ∀ j, j < k → (l.take j).contains (l.getD j ([], [])) = false) (fun k => l.length - k) (0) _ ⟨Nat.zero_le _, fun j h => by omega⟩ rfl (by simp [Fits]) ?_
   rintro k g j ⟨hk, ha⟩
   simp -implicitDefEqProofs (disch := omega) only [go_sem, ↓reduceIte, reduceAdd, reduceSub, reduceMul, reduceLeDiff, reduceLT, reduceEqDiff, reduceNeg, Nat.reduceBEq]
   (repeat' (first | refine gT ?_ ?_ | refine gF ?_ ?_ | refine gC ?_ ?_ | refine And.intro (by omega) ?_ | (intro hr; have hc := hr; (try simp only [zda, zdb, zdc, zdd] at hc); simp -implicitDefEqProofs (disch := omega) only [hr, go_sem, ↓reduceIte, reduceAdd, reduceSub, reduceMul, reduceLeDiff, reduceLT, reduceEqDiff, reduceNeg, Nat.reduceBEq]; (try clear hr))))
   · by_cases hx : (l.take k).contains (l.getD k ([], [])) = true
     · obtain ⟨i, hi, hf⟩ := findIdx_yesG hx
       have hi' : i < k := by simp at hi; omega
       have hk2 := keyB (l.getD k ([], [])) (l.take k)
       simp only [elB, pairCells] at hk2
       simp -implicitDefEqProofs (disch := omega) only [keyOK, hk2, hf, rep_get hi', go_sem, ↓reduceIte, reduceAdd, reduceSub, reduceMul, reduceLeDiff, reduceLT, reduceEqDiff, reduceNeg, Nat.reduceBEq]
       refine fin_eq ?_ (by rfl)
       rw [zf (fun hn => by rw [nodup_noG hn (by omega)] at hx; cases hx)]
     · have hx := Bool.eq_false_iff.2 hx
       have hk2 := keyB (l.getD k ([], [])) (l.take k)
       simp only [elB, pairCells] at hk2
       simp -implicitDefEqProofs (disch := omega) only [keyOK, hk2, findIdx_noG hx, go_sem, ↓reduceIte, reduceAdd, reduceSub, reduceMul, reduceLeDiff, reduceLT, reduceEqDiff, reduceNeg, Nat.reduceBEq]
       refine ⟨k + 1, _, ⟨by omega, below_succ ha hx⟩, by omega, congr (congrArg List.cons ?_) rfl, by simp⟩
       rw [take_getD (d := ([], [])) (by omega), List.map_append, List.replicate_succ']; rfl
   · refine fin_eq ?_ (by rfl)
     have h1 : k = l.length := by omega
     rw [zt (nodup_ofG (h1 ▸ ha))]
theorem ctr112 (l : List Int) (hl : l.length ≤ 140737488355328): CT 107 [avi l] (.b (decide l.Nodup)) := by
 refine sem_introB mixed Tryz.func107 g0 ?_
 · skip
   refine x_loopJ (fun (k : Nat) => [.k, .k, .j, .k, .k, .j, .k, .k, .k, .v (.i .i64 k), .j, .j, .j, .j, .j, .j, .j, .j, .j]) (fun k => [.map false ((l.take k).map (.i .i64)) (List.replicate k (.b true))]) (fun k => k ≤ l.length ∧ ∀ j, j < k → (l.take j).contains (l.getD j 0) = false) (fun k => l.length - k) (0) ⟨Nat.zero_le _, fun j h => by omega⟩ rfl (by simp [Fits]) ?_
   rintro k j ⟨hk, ha⟩
   simp -implicitDefEqProofs (disch := omega) only [go_sem, ↓reduceIte, reduceAdd, reduceSub, reduceMul, reduceLeDiff, reduceLT, reduceEqDiff, reduceNeg, Nat.reduceBEq]
   (repeat' (first | refine gT ?_ ?_ | refine gF ?_ ?_ | refine gC ?_ ?_ | refine And.intro (by omega) ?_ | (intro hr; have hc := hr; (try simp only [zda, zdb, zdc, zdd] at hc); simp -implicitDefEqProofs (disch := omega) only [hr, go_sem, ↓reduceIte, reduceAdd, reduceSub, reduceMul, reduceLeDiff, reduceLT, reduceEqDiff, reduceNeg, Nat.reduceBEq]; (try clear hr))))
   · by_cases hx : (l.take k).contains (l.getD k 0) = true
     · obtain ⟨i, hi, hf⟩ := findIdx_yesG hx
       have hi' : i < k := by simp at hi; omega
       simp -implicitDefEqProofs (disch := omega) only [keyOK, keyI, hf, rep_get hi', go_sem, ↓reduceIte, reduceAdd, reduceSub, reduceMul, reduceLeDiff, reduceLT, reduceEqDiff, reduceNeg, Nat.reduceBEq]
       refine fin_eq ?_ (by rfl)
       rw [zf (fun hn => by rw [nodup_noG hn (by omega)] at hx; cases hx)]
     · have hx := Bool.eq_false_iff.2 hx
       simp -implicitDefEqProofs (disch := omega) only [keyOK, keyI, findIdx_noG hx, go_sem, ↓reduceIte, reduceAdd, reduceSub, reduceMul, reduceLeDiff, reduceLT, reduceEqDiff, reduceNeg, Nat.reduceBEq]
       refine ⟨k + 1, ⟨by omega, below_succ ha hx⟩, by omega, ?_, by simp⟩
       rw [take_getD (d := 0) (by omega), List.map_append, List.replicate_succ']; rfl
   · refine fin_eq ?_ (by rfl)
     have h1 : k = l.length := by omega
     rw [zt (nodup_ofG (h1 ▸ ha))]

def mx : Nat := 140737488355328
structure OkO (o : LOp) : Prop where
 name : o.name.length ≤ 140737488355328
 args : o.args.length ≤ 140737488355328
 argsS : ∀ x ∈ o.args, x.length ≤ 140737488355328
 sort : o.sort.length ≤ 140737488355328
 pieces : o.pieces.length ≤ 140737488355328
 piecesS : ∀ x ∈ o.pieces, x.1.length ≤ 140737488355328 ∧ x.2.length ≤ 140737488355328
 strict : o.strict.length ≤ 140737488355328
 piecesT : o.pieces.length ≤ 4398046511104
 argsT : o.args.length ≤ 8796093022208
 strictT : o.strict.length ≤ 17592186044416
structure OkS (s : LSig) : Prop where
 sorts : s.sorts.length ≤ 140737488355328
 sortsS : ∀ x ∈ s.sorts, x.length ≤ 140737488355328
 below : s.below.length ≤ 140737488355328
 belowS : ∀ x ∈ s.below, x.1.length ≤ 140737488355328 ∧ x.2.length ≤ 140737488355328
 ops : s.ops.length ≤ 140737488355328
 opsO : ∀ x ∈ s.ops, OkO x
 funs : s.funs.length ≤ 140737488355328
 funsO : ∀ x ∈ s.funs, OkO x
 values : s.values.length ≤ 140737488355328
 opsT : s.ops.length ≤ 1172812402961
 funsT : s.funs.length ≤ 1172812402961
 valuesS : ∀ x ∈ s.values, x.length ≤ 140737488355328
theorem mem_getD {α : Type} {l : List α} {d : α} {k : Nat} (h : k < l.length) : l.getD k d ∈ l := by simp [List.getD, h]

end Go.Proofs.YtpilgabbgflbhaaGreatDoor

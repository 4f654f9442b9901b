/-
  The types of the program, as far as its code asks; no condition.
-/
import Derived.Test.YtnjnjdebgkjfhaaGreatDoorProg
import Derived.Test.YtnjnjdebgkjfhaaGreatDoorVoP55
import Derived.Lib.Space
import Derived.Lib.ItoaNum
import Derived.Test.YtnjnjdebgkjfhaaGreatDoorSoP51
set_option linter.unusedVariables false
set_option maxRecDepth 100000
set_option linter.unusedSimpArgs false
set_option maxHeartbeats 4000000
namespace Go.Proofs.YtnjnjdebgkjfhaaGreatDoor
open Go Go.Vo
open Nat (reduceAdd reduceSub reduceMul reduceLeDiff reduceLT reduceEqDiff)
open Int (reduceNeg)
theorem mixed : Tryz.prog.follows .mixedOrders = true := by kernel_rfl
def asciiCells : List AV := Lib.asciiSpaceTab.map (.i .u8)
def powCells : List AV := Lib.pow10Tab.map (.i .u64)
def G0 : Glob := fun g => if g = 0 then some (.box asciiCells 0) else if g = 2 then some (.box powCells 0) else none
theorem g0 : GPers G0 := fun k a h => by
 unfold G0 at h
 split at h
 · cases h; simp only [pers, asciiCells, persL_i]
 · split at h
   · cases h; simp only [pers, powCells, persL_i]
   · cases h
@[go_sem] theorem az3 : arrSz Tryz.prog 3 = none := by kernel_rfl
@[go_sem] theorem az9 : arrSz Tryz.prog 9 = none := by kernel_rfl
@[go_sem] theorem az22 : arrSz Tryz.prog 22 = none := by kernel_rfl
@[go_sem] theorem az26 : arrSz Tryz.prog 26 = none := by kernel_rfl
@[go_sem] theorem az30 : arrSz Tryz.prog 30 = none := by kernel_rfl
@[go_sem] theorem az48 : arrSz Tryz.prog 48 = some 6 := by kernel_rfl
@[go_sem] theorem az50 : arrSz Tryz.prog 50 = some 1 := by kernel_rfl
@[go_sem] theorem az59 : arrSz Tryz.prog 59 = some 6 := by kernel_rfl
@[go_sem] theorem az67 : arrSz Tryz.prog 67 = none := by kernel_rfl
@[go_sem] theorem az72 : arrSz Tryz.prog 72 = none := by kernel_rfl
@[go_sem] theorem az77 : arrSz Tryz.prog 77 = none := by kernel_rfl
@[go_sem] theorem az82 : arrSz Tryz.prog 82 = none := by kernel_rfl
@[go_sem] theorem az95 : arrSz Tryz.prog 95 = none := by kernel_rfl
@[go_sem] theorem az100 : arrSz Tryz.prog 100 = none := by kernel_rfl
@[go_sem] theorem az109 : arrSz Tryz.prog 109 = none := by kernel_rfl
@[go_sem] theorem az111 : arrSz Tryz.prog 111 = none := by kernel_rfl
@[go_sem] theorem az118 : arrSz Tryz.prog 118 = none := by kernel_rfl
@[go_sem] theorem az139 : arrSz Tryz.prog 139 = none := by kernel_rfl
@[go_sem] theorem az149 : arrSz Tryz.prog 149 = none := by kernel_rfl
@[go_sem] theorem az187 : arrSz Tryz.prog 187 = none := by kernel_rfl
@[go_sem] theorem az206 : arrSz Tryz.prog 206 = none := by kernel_rfl
@[go_sem] theorem az216 : arrSz Tryz.prog 216 = none := by kernel_rfl
@[go_sem] theorem az222 : arrSz Tryz.prog 222 = some 1 := by kernel_rfl
@[go_sem] theorem az229 : arrSz Tryz.prog 229 = none := by kernel_rfl
@[go_sem] theorem az235 : arrSz Tryz.prog 235 = none := by kernel_rfl
@[go_sem] theorem az240 : arrSz Tryz.prog 240 = some 1 := by kernel_rfl
@[go_sem] theorem sz2 : szOf Tryz.prog 2 = some 1 := by kernel_rfl
@[go_sem] theorem ag2 : isAggT Tryz.prog 2 = some false := by kernel_rfl
@[go_sem] theorem by2 : byOf Tryz.prog 2 = some 8 := by kernel_rfl
@[go_sem] theorem zo2 : zeroOf Tryz.prog 2 = some [.i .i64 0] := by kernel_rfl
@[go_sem] theorem zv2 : zeroVal Tryz.prog 2 = some (.i .i64 0) := by kernel_rfl
@[go_sem] theorem un2 : Program.underlying Tryz.prog 2 = some (.int .i64) := by kernel_rfl
@[go_sem] theorem sz3 : szOf Tryz.prog 3 = some 1 := by kernel_rfl
@[go_sem] theorem ag3 : isAggT Tryz.prog 3 = some false := by kernel_rfl
@[go_sem] theorem by3 : byOf Tryz.prog 3 = some 8 := by kernel_rfl
@[go_sem] theorem zo3 : zeroOf Tryz.prog 3 = some [.i .i64 0] := by kernel_rfl
@[go_sem] theorem zv3 : zeroVal Tryz.prog 3 = some (.i .i64 0) := by kernel_rfl
@[go_sem] theorem un3 : Program.underlying Tryz.prog 3 = some (.int .i64) := by kernel_rfl
@[go_sem] theorem sz4 : szOf Tryz.prog 4 = some 1 := by kernel_rfl
@[go_sem] theorem ag4 : isAggT Tryz.prog 4 = some false := by kernel_rfl
@[go_sem] theorem by4 : byOf Tryz.prog 4 = some 1 := by kernel_rfl
@[go_sem] theorem zo4 : zeroOf Tryz.prog 4 = some [.b false] := by kernel_rfl
@[go_sem] theorem zv4 : zeroVal Tryz.prog 4 = some (.b false) := by kernel_rfl
@[go_sem] theorem un4 : Program.underlying Tryz.prog 4 = some .bool := by kernel_rfl
@[go_sem] theorem sz5 : szOf Tryz.prog 5 = some 1 := by kernel_rfl
@[go_sem] theorem ag5 : isAggT Tryz.prog 5 = some false := by kernel_rfl
@[go_sem] theorem by5 : byOf Tryz.prog 5 = some 1 := by kernel_rfl
@[go_sem] theorem zo5 : zeroOf Tryz.prog 5 = some [.i .u8 0] := by kernel_rfl
@[go_sem] theorem zv5 : zeroVal Tryz.prog 5 = some (.i .u8 0) := by kernel_rfl
@[go_sem] theorem un5 : Program.underlying Tryz.prog 5 = some (.int .u8) := by kernel_rfl
@[go_sem] theorem sz9 : szOf Tryz.prog 9 = some 1 := by kernel_rfl
@[go_sem] theorem ag9 : isAggT Tryz.prog 9 = some false := by kernel_rfl
@[go_sem] theorem by9 : byOf Tryz.prog 9 = some 16 := by kernel_rfl
@[go_sem] theorem zo9 : zeroOf Tryz.prog 9 = some [.s []] := by kernel_rfl
@[go_sem] theorem zv9 : zeroVal Tryz.prog 9 = some (.s []) := by kernel_rfl
@[go_sem] theorem un9 : Program.underlying Tryz.prog 9 = some .string := by kernel_rfl
@[go_sem] theorem sz21 : szOf Tryz.prog 21 = some 1 := by kernel_rfl
@[go_sem] theorem ag21 : isAggT Tryz.prog 21 = some false := by kernel_rfl
@[go_sem] theorem by21 : byOf Tryz.prog 21 = some 4 := by kernel_rfl
@[go_sem] theorem zo21 : zeroOf Tryz.prog 21 = some [.i .i32 0] := by kernel_rfl
@[go_sem] theorem zv21 : zeroVal Tryz.prog 21 = some (.i .i32 0) := by kernel_rfl
@[go_sem] theorem un21 : Program.underlying Tryz.prog 21 = some (.int .i32) := by kernel_rfl
@[go_sem] theorem sz22 : szOf Tryz.prog 22 = some 1 := by kernel_rfl
@[go_sem] theorem ag22 : isAggT Tryz.prog 22 = some false := by kernel_rfl
@[go_sem] theorem by22 : byOf Tryz.prog 22 = some 24 := by kernel_rfl
@[go_sem] theorem zo22 : zeroOf Tryz.prog 22 = some [.e0] := by kernel_rfl
@[go_sem] theorem zv22 : zeroVal Tryz.prog 22 = some (.e0) := by kernel_rfl
@[go_sem] theorem un22 : Program.underlying Tryz.prog 22 = some (.slice 9) := by kernel_rfl
@[go_sem] theorem el22 : elemOf? Tryz.prog 22 = some 9 := by kernel_rfl
@[go_sem] theorem sz23 : szOf Tryz.prog 23 = some 1 := by kernel_rfl
@[go_sem] theorem ag23 : isAggT Tryz.prog 23 = some false := by kernel_rfl
@[go_sem] theorem by23 : byOf Tryz.prog 23 = some 24 := by kernel_rfl
@[go_sem] theorem zo23 : zeroOf Tryz.prog 23 = some [.e0] := by kernel_rfl
@[go_sem] theorem zv23 : zeroVal Tryz.prog 23 = some (.e0) := by kernel_rfl
@[go_sem] theorem un23 : Program.underlying Tryz.prog 23 = some (.slice 100) := by kernel_rfl
@[go_sem] theorem el23 : elemOf? Tryz.prog 23 = some 100 := by kernel_rfl
@[go_sem] theorem sz24 : szOf Tryz.prog 24 = some 1 := by kernel_rfl
@[go_sem] theorem ag24 : isAggT Tryz.prog 24 = some false := by kernel_rfl
@[go_sem] theorem by24 : byOf Tryz.prog 24 = some 24 := by kernel_rfl
@[go_sem] theorem zo24 : zeroOf Tryz.prog 24 = some [.e0] := by kernel_rfl
@[go_sem] theorem zv24 : zeroVal Tryz.prog 24 = some (.e0) := by kernel_rfl
@[go_sem] theorem un24 : Program.underlying Tryz.prog 24 = some (.slice 67) := by kernel_rfl
@[go_sem] theorem el24 : elemOf? Tryz.prog 24 = some 67 := by kernel_rfl
@[go_sem] theorem sz26 : szOf Tryz.prog 26 = some 5 := by kernel_rfl
@[go_sem] theorem ag26 : isAggT Tryz.prog 26 = some true := by kernel_rfl
@[go_sem] theorem by26 : byOf Tryz.prog 26 = some 120 := by kernel_rfl
@[go_sem] theorem zo26 : zeroOf Tryz.prog 26 = some [.e0, .e0, .e0, .e0, .e0] := by kernel_rfl
@[go_sem] theorem zv26 : zeroVal Tryz.prog 26 = some (.agg [.e0, .e0, .e0, .e0, .e0]) := by kernel_rfl
@[go_sem] theorem fo26_0 : fieldOf? Tryz.prog 26 0 = some (0, 22) := by kernel_rfl
@[go_sem] theorem fa26_0 : fieldAt? Tryz.prog 26 0 = some (0, some 1) := by kernel_rfl
@[go_sem] theorem fo26_1 : fieldOf? Tryz.prog 26 1 = some (1, 23) := by kernel_rfl
@[go_sem] theorem fa26_1 : fieldAt? Tryz.prog 26 1 = some (1, some 1) := by kernel_rfl
@[go_sem] theorem fo26_2 : fieldOf? Tryz.prog 26 2 = some (2, 24) := by kernel_rfl
@[go_sem] theorem fa26_2 : fieldAt? Tryz.prog 26 2 = some (2, some 1) := by kernel_rfl
@[go_sem] theorem fo26_3 : fieldOf? Tryz.prog 26 3 = some (3, 24) := by kernel_rfl
@[go_sem] theorem fa26_3 : fieldAt? Tryz.prog 26 3 = some (3, some 1) := by kernel_rfl
@[go_sem] theorem fo26_4 : fieldOf? Tryz.prog 26 4 = some (4, 22) := by kernel_rfl
@[go_sem] theorem fa26_4 : fieldAt? Tryz.prog 26 4 = some (4, some 1) := by kernel_rfl
@[go_sem] theorem pl26 : placesOf Tryz.prog 26 = some [(0, 1), (1, 1), (2, 1), (3, 1), (4, 1)] := by kernel_rfl
@[go_sem] theorem sz27 : szOf Tryz.prog 27 = some 1 := by kernel_rfl
@[go_sem] theorem ag27 : isAggT Tryz.prog 27 = some false := by kernel_rfl
@[go_sem] theorem by27 : byOf Tryz.prog 27 = some 8 := by kernel_rfl
@[go_sem] theorem zo27 : zeroOf Tryz.prog 27 = some [.i .i64 0] := by kernel_rfl
@[go_sem] theorem zv27 : zeroVal Tryz.prog 27 = some (.i .i64 0) := by kernel_rfl
@[go_sem] theorem un27 : Program.underlying Tryz.prog 27 = some (.int .i64) := by kernel_rfl
@[go_sem] theorem sz28 : szOf Tryz.prog 28 = some 1 := by kernel_rfl
@[go_sem] theorem ag28 : isAggT Tryz.prog 28 = some false := by kernel_rfl
@[go_sem] theorem by28 : byOf Tryz.prog 28 = some 24 := by kernel_rfl
@[go_sem] theorem zo28 : zeroOf Tryz.prog 28 = some [.e0] := by kernel_rfl
@[go_sem] theorem zv28 : zeroVal Tryz.prog 28 = some (.e0) := by kernel_rfl
@[go_sem] theorem un28 : Program.underlying Tryz.prog 28 = some (.slice 30) := by kernel_rfl
@[go_sem] theorem el28 : elemOf? Tryz.prog 28 = some 30 := by kernel_rfl
@[go_sem] theorem sz30 : szOf Tryz.prog 30 = some 6 := by kernel_rfl
@[go_sem] theorem ag30 : isAggT Tryz.prog 30 = some true := by kernel_rfl
@[go_sem] theorem by30 : byOf Tryz.prog 30 = some 96 := by kernel_rfl
@[go_sem] theorem zo30 : zeroOf Tryz.prog 30 = some [.i .i64 0, .i .i64 0, .s [], .s [], .e0, .e0] := by kernel_rfl
@[go_sem] theorem zv30 : zeroVal Tryz.prog 30 = some (.agg [.i .i64 0, .i .i64 0, .s [], .s [], .e0, .e0]) := by kernel_rfl
@[go_sem] theorem fo30_0 : fieldOf? Tryz.prog 30 0 = some (0, 27) := by kernel_rfl
@[go_sem] theorem fa30_0 : fieldAt? Tryz.prog 30 0 = some (0, some 1) := by kernel_rfl
@[go_sem] theorem fo30_1 : fieldOf? Tryz.prog 30 1 = some (1, 3) := by kernel_rfl
@[go_sem] theorem fa30_1 : fieldAt? Tryz.prog 30 1 = some (1, some 1) := by kernel_rfl
@[go_sem] theorem fo30_2 : fieldOf? Tryz.prog 30 2 = some (2, 9) := by kernel_rfl
@[go_sem] theorem fa30_2 : fieldAt? Tryz.prog 30 2 = some (2, some 1) := by kernel_rfl
@[go_sem] theorem fo30_3 : fieldOf? Tryz.prog 30 3 = some (3, 9) := by kernel_rfl
@[go_sem] theorem fa30_3 : fieldAt? Tryz.prog 30 3 = some (3, some 1) := by kernel_rfl
@[go_sem] theorem fo30_4 : fieldOf? Tryz.prog 30 4 = some (4, 28) := by kernel_rfl
@[go_sem] theorem fa30_4 : fieldAt? Tryz.prog 30 4 = some (4, some 1) := by kernel_rfl
@[go_sem] theorem fo30_5 : fieldOf? Tryz.prog 30 5 = some (5, 28) := by kernel_rfl
@[go_sem] theorem fa30_5 : fieldAt? Tryz.prog 30 5 = some (5, some 1) := by kernel_rfl
@[go_sem] theorem pl30 : placesOf Tryz.prog 30 = some [(0, 1), (1, 1), (2, 1), (3, 1), (4, 1), (5, 1)] := by kernel_rfl
@[go_sem] theorem sz36 : szOf Tryz.prog 36 = some 1 := by kernel_rfl
@[go_sem] theorem ag36 : isAggT Tryz.prog 36 = some false := by kernel_rfl
@[go_sem] theorem by36 : byOf Tryz.prog 36 = some 8 := by kernel_rfl
@[go_sem] theorem zo36 : zeroOf Tryz.prog 36 = some [.i .i64 0] := by kernel_rfl
@[go_sem] theorem zv36 : zeroVal Tryz.prog 36 = some (.i .i64 0) := by kernel_rfl
@[go_sem] theorem un36 : Program.underlying Tryz.prog 36 = some (.int .i64) := by kernel_rfl
@[go_sem] theorem sz43 : szOf Tryz.prog 43 = some 1 := by kernel_rfl
@[go_sem] theorem ag43 : isAggT Tryz.prog 43 = some false := by kernel_rfl
@[go_sem] theorem by43 : byOf Tryz.prog 43 = some 8 := by kernel_rfl
@[go_sem] theorem zo43 : zeroOf Tryz.prog 43 = some [.p .nilFunc] := by kernel_rfl
@[go_sem] theorem zv43 : zeroVal Tryz.prog 43 = some (.p .nilFunc) := by kernel_rfl
@[go_sem] theorem sz48 : szOf Tryz.prog 48 = some 12 := by kernel_rfl
@[go_sem] theorem ag48 : isAggT Tryz.prog 48 = some true := by kernel_rfl
@[go_sem] theorem by48 : byOf Tryz.prog 48 = some 192 := by kernel_rfl
@[go_sem] theorem zo48 : zeroOf Tryz.prog 48 = some [.i .i64 0, .i .i64 0, .s [], .s [], .e0, .e0, .i .i64 0, .i .i64 0, .s [], .s [], .e0, .e0] := by kernel_rfl
@[go_sem] theorem zv48 : zeroVal Tryz.prog 48 = some (.agg [.i .i64 0, .i .i64 0, .s [], .s [], .e0, .e0, .i .i64 0, .i .i64 0, .s [], .s [], .e0, .e0]) := by kernel_rfl
@[go_sem] theorem un48 : Program.underlying Tryz.prog 48 = some (.array 2 30) := by kernel_rfl
@[go_sem] theorem sz49 : szOf Tryz.prog 49 = some 1 := by kernel_rfl
@[go_sem] theorem ag49 : isAggT Tryz.prog 49 = some false := by kernel_rfl
@[go_sem] theorem by49 : byOf Tryz.prog 49 = some 24 := by kernel_rfl
@[go_sem] theorem zo49 : zeroOf Tryz.prog 49 = some [.e0] := by kernel_rfl
@[go_sem] theorem zv49 : zeroVal Tryz.prog 49 = some (.e0) := by kernel_rfl
@[go_sem] theorem un49 : Program.underlying Tryz.prog 49 = some (.slice 3) := by kernel_rfl
@[go_sem] theorem el49 : elemOf? Tryz.prog 49 = some 3 := by kernel_rfl
@[go_sem] theorem sz50 : szOf Tryz.prog 50 = some 2 := by kernel_rfl
@[go_sem] theorem ag50 : isAggT Tryz.prog 50 = some true := by kernel_rfl
@[go_sem] theorem by50 : byOf Tryz.prog 50 = some 32 := by kernel_rfl
@[go_sem] theorem zo50 : zeroOf Tryz.prog 50 = some [.s [], .s []] := by kernel_rfl
@[go_sem] theorem zv50 : zeroVal Tryz.prog 50 = some (.agg [.s [], .s []]) := by kernel_rfl
@[go_sem] theorem un50 : Program.underlying Tryz.prog 50 = some (.array 2 9) := by kernel_rfl
@[go_sem] theorem sz59 : szOf Tryz.prog 59 = some 18 := by kernel_rfl
@[go_sem] theorem ag59 : isAggT Tryz.prog 59 = some true := by kernel_rfl
@[go_sem] theorem by59 : byOf Tryz.prog 59 = some 288 := by kernel_rfl
@[go_sem] theorem zv59 : zeroVal Tryz.prog 59 = some (.agg [.i .i64 0, .i .i64 0, .s [], .s [], .e0, .e0, .i .i64 0, .i .i64 0, .s [], .s [], .e0, .e0, .i .i64 0, .i .i64 0, .s [], .s [], .e0, .e0]) := by kernel_rfl
@[go_sem] theorem un59 : Program.underlying Tryz.prog 59 = some (.array 3 30) := by kernel_rfl
@[go_sem] theorem sz64 : szOf Tryz.prog 64 = some 1 := by kernel_rfl
@[go_sem] theorem ag64 : isAggT Tryz.prog 64 = some false := by kernel_rfl
@[go_sem] theorem by64 : byOf Tryz.prog 64 = some 24 := by kernel_rfl
@[go_sem] theorem zo64 : zeroOf Tryz.prog 64 = some [.e0] := by kernel_rfl
@[go_sem] theorem zv64 : zeroVal Tryz.prog 64 = some (.e0) := by kernel_rfl
@[go_sem] theorem un64 : Program.underlying Tryz.prog 64 = some (.slice 187) := by kernel_rfl
@[go_sem] theorem el64 : elemOf? Tryz.prog 64 = some 187 := by kernel_rfl
@[go_sem] theorem sz65 : szOf Tryz.prog 65 = some 1 := by kernel_rfl
@[go_sem] theorem ag65 : isAggT Tryz.prog 65 = some false := by kernel_rfl
@[go_sem] theorem by65 : byOf Tryz.prog 65 = some 8 := by kernel_rfl
@[go_sem] theorem zo65 : zeroOf Tryz.prog 65 = some [.i .i64 0] := by kernel_rfl
@[go_sem] theorem zv65 : zeroVal Tryz.prog 65 = some (.i .i64 0) := by kernel_rfl
@[go_sem] theorem un65 : Program.underlying Tryz.prog 65 = some (.int .i64) := by kernel_rfl
@[go_sem] theorem sz67 : szOf Tryz.prog 67 = some 7 := by kernel_rfl
@[go_sem] theorem ag67 : isAggT Tryz.prog 67 = some true := by kernel_rfl
@[go_sem] theorem by67 : byOf Tryz.prog 67 = some 120 := by kernel_rfl
@[go_sem] theorem zo67 : zeroOf Tryz.prog 67 = some [.s [], .e0, .s [], .e0, .i .i64 0, .i .i64 0, .e0] := by kernel_rfl
@[go_sem] theorem zv67 : zeroVal Tryz.prog 67 = some (.agg [.s [], .e0, .s [], .e0, .i .i64 0, .i .i64 0, .e0]) := by kernel_rfl
@[go_sem] theorem fo67_0 : fieldOf? Tryz.prog 67 0 = some (0, 9) := by kernel_rfl
@[go_sem] theorem fa67_0 : fieldAt? Tryz.prog 67 0 = some (0, some 1) := by kernel_rfl
@[go_sem] theorem fo67_1 : fieldOf? Tryz.prog 67 1 = some (1, 22) := by kernel_rfl
@[go_sem] theorem fa67_1 : fieldAt? Tryz.prog 67 1 = some (1, some 1) := by kernel_rfl
@[go_sem] theorem fo67_2 : fieldOf? Tryz.prog 67 2 = some (2, 9) := by kernel_rfl
@[go_sem] theorem fa67_2 : fieldAt? Tryz.prog 67 2 = some (2, some 1) := by kernel_rfl
@[go_sem] theorem fo67_3 : fieldOf? Tryz.prog 67 3 = some (3, 64) := by kernel_rfl
@[go_sem] theorem fa67_3 : fieldAt? Tryz.prog 67 3 = some (3, some 1) := by kernel_rfl
@[go_sem] theorem fo67_4 : fieldOf? Tryz.prog 67 4 = some (4, 3) := by kernel_rfl
@[go_sem] theorem fa67_4 : fieldAt? Tryz.prog 67 4 = some (4, some 1) := by kernel_rfl
@[go_sem] theorem fo67_5 : fieldOf? Tryz.prog 67 5 = some (5, 65) := by kernel_rfl
@[go_sem] theorem fa67_5 : fieldAt? Tryz.prog 67 5 = some (5, some 1) := by kernel_rfl
@[go_sem] theorem fo67_6 : fieldOf? Tryz.prog 67 6 = some (6, 49) := by kernel_rfl
@[go_sem] theorem fa67_6 : fieldAt? Tryz.prog 67 6 = some (6, some 1) := by kernel_rfl
@[go_sem] theorem pl67 : placesOf Tryz.prog 67 = some [(0, 1), (1, 1), (2, 1), (3, 1), (4, 1), (5, 1), (6, 1)] := by kernel_rfl
@[go_sem] theorem sz72 : szOf Tryz.prog 72 = some 2 := by kernel_rfl
@[go_sem] theorem ag72 : isAggT Tryz.prog 72 = some true := by kernel_rfl
@[go_sem] theorem by72 : byOf Tryz.prog 72 = some 16 := by kernel_rfl
@[go_sem] theorem zo72 : zeroOf Tryz.prog 72 = some [.i .i64 0, .b false] := by kernel_rfl
@[go_sem] theorem zv72 : zeroVal Tryz.prog 72 = some (.agg [.i .i64 0, .b false]) := by kernel_rfl
@[go_sem] theorem fo72_0 : fieldOf? Tryz.prog 72 0 = some (0, 3) := by kernel_rfl
@[go_sem] theorem fa72_0 : fieldAt? Tryz.prog 72 0 = some (0, some 1) := by kernel_rfl
@[go_sem] theorem fo72_1 : fieldOf? Tryz.prog 72 1 = some (1, 4) := by kernel_rfl
@[go_sem] theorem fa72_1 : fieldAt? Tryz.prog 72 1 = some (1, some 1) := by kernel_rfl
@[go_sem] theorem pl72 : placesOf Tryz.prog 72 = some [(0, 1), (1, 1)] := by kernel_rfl
@[go_sem] theorem lf72 : leafFields Tryz.prog 72 = some [3, 4] := by kernel_rfl
@[go_sem] theorem sz73 : szOf Tryz.prog 73 = some 1 := by kernel_rfl
@[go_sem] theorem ag73 : isAggT Tryz.prog 73 = some false := by kernel_rfl
@[go_sem] theorem by73 : byOf Tryz.prog 73 = some 8 := by kernel_rfl
@[go_sem] theorem zo73 : zeroOf Tryz.prog 73 = some [.p .nilFunc] := by kernel_rfl
@[go_sem] theorem zv73 : zeroVal Tryz.prog 73 = some (.p .nilFunc) := by kernel_rfl
@[go_sem] theorem sz75 : szOf Tryz.prog 75 = some 1 := by kernel_rfl
@[go_sem] theorem ag75 : isAggT Tryz.prog 75 = some false := by kernel_rfl
@[go_sem] theorem by75 : byOf Tryz.prog 75 = some 8 := by kernel_rfl
@[go_sem] theorem zo75 : zeroOf Tryz.prog 75 = some [.p (.pointer Option.none)] := by kernel_rfl
@[go_sem] theorem zv75 : zeroVal Tryz.prog 75 = some (.p (.pointer Option.none)) := by kernel_rfl
@[go_sem] theorem sz77 : szOf Tryz.prog 77 = some 1 := by kernel_rfl
@[go_sem] theorem ag77 : isAggT Tryz.prog 77 = some false := by kernel_rfl
@[go_sem] theorem by77 : byOf Tryz.prog 77 = some 8 := by kernel_rfl
@[go_sem] theorem zo77 : zeroOf Tryz.prog 77 = some [.p (.pointer Option.none)] := by kernel_rfl
@[go_sem] theorem zv77 : zeroVal Tryz.prog 77 = some (.p (.pointer Option.none)) := by kernel_rfl
@[go_sem] theorem sz82 : szOf Tryz.prog 82 = some 1 := by kernel_rfl
@[go_sem] theorem ag82 : isAggT Tryz.prog 82 = some false := by kernel_rfl
@[go_sem] theorem by82 : byOf Tryz.prog 82 = some 8 := by kernel_rfl
@[go_sem] theorem zo82 : zeroOf Tryz.prog 82 = some [.p .nilFunc] := by kernel_rfl
@[go_sem] theorem zv82 : zeroVal Tryz.prog 82 = some (.p .nilFunc) := by kernel_rfl
@[go_sem] theorem sz83 : szOf Tryz.prog 83 = some 1 := by kernel_rfl
@[go_sem] theorem ag83 : isAggT Tryz.prog 83 = some false := by kernel_rfl
@[go_sem] theorem by83 : byOf Tryz.prog 83 = some 8 := by kernel_rfl
@[go_sem] theorem zo83 : zeroOf Tryz.prog 83 = some [.p .nilFunc] := by kernel_rfl
@[go_sem] theorem zv83 : zeroVal Tryz.prog 83 = some (.p .nilFunc) := by kernel_rfl
@[go_sem] theorem sz95 : szOf Tryz.prog 95 = some 1 := by kernel_rfl
@[go_sem] theorem ag95 : isAggT Tryz.prog 95 = some false := by kernel_rfl
@[go_sem] theorem by95 : byOf Tryz.prog 95 = some 8 := by kernel_rfl
@[go_sem] theorem zo95 : zeroOf Tryz.prog 95 = some [.p .nilFunc] := by kernel_rfl
@[go_sem] theorem zv95 : zeroVal Tryz.prog 95 = some (.p .nilFunc) := by kernel_rfl
@[go_sem] theorem sz100 : szOf Tryz.prog 100 = some 2 := by kernel_rfl
@[go_sem] theorem ag100 : isAggT Tryz.prog 100 = some true := by kernel_rfl
@[go_sem] theorem by100 : byOf Tryz.prog 100 = some 32 := by kernel_rfl
@[go_sem] theorem zo100 : zeroOf Tryz.prog 100 = some [.s [], .s []] := by kernel_rfl
@[go_sem] theorem zv100 : zeroVal Tryz.prog 100 = some (.agg [.s [], .s []]) := by kernel_rfl
@[go_sem] theorem fo100_0 : fieldOf? Tryz.prog 100 0 = some (0, 9) := by kernel_rfl
@[go_sem] theorem fa100_0 : fieldAt? Tryz.prog 100 0 = some (0, some 1) := by kernel_rfl
@[go_sem] theorem fo100_1 : fieldOf? Tryz.prog 100 1 = some (1, 9) := by kernel_rfl
@[go_sem] theorem fa100_1 : fieldAt? Tryz.prog 100 1 = some (1, some 1) := by kernel_rfl
@[go_sem] theorem pl100 : placesOf Tryz.prog 100 = some [(0, 1), (1, 1)] := by kernel_rfl
@[go_sem] theorem lf100 : leafFields Tryz.prog 100 = some [9, 9] := by kernel_rfl
@[go_sem] theorem sz101 : szOf Tryz.prog 101 = some 1 := by kernel_rfl
@[go_sem] theorem ag101 : isAggT Tryz.prog 101 = some false := by kernel_rfl
@[go_sem] theorem by101 : byOf Tryz.prog 101 = some 8 := by kernel_rfl
@[go_sem] theorem zo101 : zeroOf Tryz.prog 101 = some [.p (.pointer Option.none)] := by kernel_rfl
@[go_sem] theorem zv101 : zeroVal Tryz.prog 101 = some (.p (.pointer Option.none)) := by kernel_rfl
@[go_sem] theorem sz109 : szOf Tryz.prog 109 = some 1 := by kernel_rfl
@[go_sem] theorem ag109 : isAggT Tryz.prog 109 = some false := by kernel_rfl
@[go_sem] theorem by109 : byOf Tryz.prog 109 = some 8 := by kernel_rfl
@[go_sem] theorem zo109 : zeroOf Tryz.prog 109 = some [.p .nilFunc] := by kernel_rfl
@[go_sem] theorem zv109 : zeroVal Tryz.prog 109 = some (.p .nilFunc) := by kernel_rfl
@[go_sem] theorem sz111 : szOf Tryz.prog 111 = some 1 := by kernel_rfl
@[go_sem] theorem ag111 : isAggT Tryz.prog 111 = some false := by kernel_rfl
@[go_sem] theorem by111 : byOf Tryz.prog 111 = some 8 := by kernel_rfl
@[go_sem] theorem zo111 : zeroOf Tryz.prog 111 = some [.p .nilFunc] := by kernel_rfl
@[go_sem] theorem zv111 : zeroVal Tryz.prog 111 = some (.p .nilFunc) := by kernel_rfl
@[go_sem] theorem sz115 : szOf Tryz.prog 115 = some 1 := by kernel_rfl
@[go_sem] theorem ag115 : isAggT Tryz.prog 115 = some false := by kernel_rfl
@[go_sem] theorem by115 : byOf Tryz.prog 115 = some 8 := by kernel_rfl
@[go_sem] theorem zo115 : zeroOf Tryz.prog 115 = some [.p (.map Option.none)] := by kernel_rfl
@[go_sem] theorem zv115 : zeroVal Tryz.prog 115 = some (.p (.map Option.none)) := by kernel_rfl
@[go_sem] theorem un115 : Program.underlying Tryz.prog 115 = some (.map 9 22) := by kernel_rfl
@[go_sem] theorem sz116 : szOf Tryz.prog 116 = some 1 := by kernel_rfl
@[go_sem] theorem ag116 : isAggT Tryz.prog 116 = some false := by kernel_rfl
@[go_sem] theorem by116 : byOf Tryz.prog 116 = some 8 := by kernel_rfl
@[go_sem] theorem zo116 : zeroOf Tryz.prog 116 = some [.p (.map Option.none)] := by kernel_rfl
@[go_sem] theorem zv116 : zeroVal Tryz.prog 116 = some (.p (.map Option.none)) := by kernel_rfl
@[go_sem] theorem un116 : Program.underlying Tryz.prog 116 = some (.map 9 67) := by kernel_rfl
@[go_sem] theorem sz118 : szOf Tryz.prog 118 = some 8 := by kernel_rfl
@[go_sem] theorem ag118 : isAggT Tryz.prog 118 = some true := by kernel_rfl
@[go_sem] theorem by118 : byOf Tryz.prog 118 = some 144 := by kernel_rfl
@[go_sem] theorem zo118 : zeroOf Tryz.prog 118 = some [.e0, .e0, .e0, .e0, .e0, .p (.map Option.none), .p (.map Option.none), .p (.map Option.none)] := by kernel_rfl
@[go_sem] theorem zv118 : zeroVal Tryz.prog 118 = some (.agg [.e0, .e0, .e0, .e0, .e0, .p (.map Option.none), .p (.map Option.none), .p (.map Option.none)]) := by kernel_rfl
@[go_sem] theorem fo118_0 : fieldOf? Tryz.prog 118 0 = some (0, 26) := by kernel_rfl
@[go_sem] theorem fa118_0 : fieldAt? Tryz.prog 118 0 = some (0, some 5) := by kernel_rfl
@[go_sem] theorem fo118_1 : fieldOf? Tryz.prog 118 1 = some (5, 115) := by kernel_rfl
@[go_sem] theorem fa118_1 : fieldAt? Tryz.prog 118 1 = some (5, some 1) := by kernel_rfl
@[go_sem] theorem fo118_2 : fieldOf? Tryz.prog 118 2 = some (6, 116) := by kernel_rfl
@[go_sem] theorem fa118_2 : fieldAt? Tryz.prog 118 2 = some (6, some 1) := by kernel_rfl
@[go_sem] theorem fo118_3 : fieldOf? Tryz.prog 118 3 = some (7, 116) := by kernel_rfl
@[go_sem] theorem fa118_3 : fieldAt? Tryz.prog 118 3 = some (7, some 1) := by kernel_rfl
@[go_sem] theorem pl118 : placesOf Tryz.prog 118 = some [(0, 5), (5, 1), (6, 1), (7, 1)] := by kernel_rfl
@[go_sem] theorem sz134 : szOf Tryz.prog 134 = some 1 := by kernel_rfl
@[go_sem] theorem ag134 : isAggT Tryz.prog 134 = some false := by kernel_rfl
@[go_sem] theorem by134 : byOf Tryz.prog 134 = some 8 := by kernel_rfl
@[go_sem] theorem zo134 : zeroOf Tryz.prog 134 = some [.p (.pointer Option.none)] := by kernel_rfl
@[go_sem] theorem zv134 : zeroVal Tryz.prog 134 = some (.p (.pointer Option.none)) := by kernel_rfl
@[go_sem] theorem sz135 : szOf Tryz.prog 135 = some 1 := by kernel_rfl
@[go_sem] theorem ag135 : isAggT Tryz.prog 135 = some false := by kernel_rfl
@[go_sem] theorem by135 : byOf Tryz.prog 135 = some 24 := by kernel_rfl
@[go_sem] theorem zo135 : zeroOf Tryz.prog 135 = some [.e0] := by kernel_rfl
@[go_sem] theorem zv135 : zeroVal Tryz.prog 135 = some (.e0) := by kernel_rfl
@[go_sem] theorem un135 : Program.underlying Tryz.prog 135 = some (.slice 5) := by kernel_rfl
@[go_sem] theorem el135 : elemOf? Tryz.prog 135 = some 5 := by kernel_rfl
@[go_sem] theorem sz137 : szOf Tryz.prog 137 = some 2 := by kernel_rfl
@[go_sem] theorem ag137 : isAggT Tryz.prog 137 = some true := by kernel_rfl
@[go_sem] theorem by137 : byOf Tryz.prog 137 = some 32 := by kernel_rfl
@[go_sem] theorem zo137 : zeroOf Tryz.prog 137 = some [.p (.pointer Option.none), .e0] := by kernel_rfl
@[go_sem] theorem zv137 : zeroVal Tryz.prog 137 = some (.agg [.p (.pointer Option.none), .e0]) := by kernel_rfl
@[go_sem] theorem fo137_0 : fieldOf? Tryz.prog 137 0 = some (0, 134) := by kernel_rfl
@[go_sem] theorem fa137_0 : fieldAt? Tryz.prog 137 0 = some (0, some 1) := by kernel_rfl
@[go_sem] theorem fo137_1 : fieldOf? Tryz.prog 137 1 = some (1, 135) := by kernel_rfl
@[go_sem] theorem fa137_1 : fieldAt? Tryz.prog 137 1 = some (1, some 1) := by kernel_rfl
@[go_sem] theorem pl137 : placesOf Tryz.prog 137 = some [(0, 1), (1, 1)] := by kernel_rfl
@[go_sem] theorem sz139 : szOf Tryz.prog 139 = some 2 := by kernel_rfl
@[go_sem] theorem ag139 : isAggT Tryz.prog 139 = some true := by kernel_rfl
@[go_sem] theorem by139 : byOf Tryz.prog 139 = some 32 := by kernel_rfl
@[go_sem] theorem zo139 : zeroOf Tryz.prog 139 = some [.p (.pointer Option.none), .e0] := by kernel_rfl
@[go_sem] theorem zv139 : zeroVal Tryz.prog 139 = some (.agg [.p (.pointer Option.none), .e0]) := by kernel_rfl
@[go_sem] theorem fo139_0 : fieldOf? Tryz.prog 139 0 = some (0, 137) := by kernel_rfl
@[go_sem] theorem fa139_0 : fieldAt? Tryz.prog 139 0 = some (0, some 2) := by kernel_rfl
@[go_sem] theorem pl139 : placesOf Tryz.prog 139 = some [(0, 2)] := by kernel_rfl
@[go_sem] theorem sz149 : szOf Tryz.prog 149 = some 1 := by kernel_rfl
@[go_sem] theorem ag149 : isAggT Tryz.prog 149 = some false := by kernel_rfl
@[go_sem] theorem by149 : byOf Tryz.prog 149 = some 8 := by kernel_rfl
@[go_sem] theorem zo149 : zeroOf Tryz.prog 149 = some [.p .nilFunc] := by kernel_rfl
@[go_sem] theorem zv149 : zeroVal Tryz.prog 149 = some (.p .nilFunc) := by kernel_rfl
@[go_sem] theorem sz152 : szOf Tryz.prog 152 = some 1 := by kernel_rfl
@[go_sem] theorem ag152 : isAggT Tryz.prog 152 = some false := by kernel_rfl
@[go_sem] theorem by152 : byOf Tryz.prog 152 = some 8 := by kernel_rfl
@[go_sem] theorem zo152 : zeroOf Tryz.prog 152 = some [.p (.map Option.none)] := by kernel_rfl
@[go_sem] theorem zv152 : zeroVal Tryz.prog 152 = some (.p (.map Option.none)) := by kernel_rfl
@[go_sem] theorem un152 : Program.underlying Tryz.prog 152 = some (.map 100 4) := by kernel_rfl
@[go_sem] theorem sz153 : szOf Tryz.prog 153 = some 1 := by kernel_rfl
@[go_sem] theorem ag153 : isAggT Tryz.prog 153 = some false := by kernel_rfl
@[go_sem] theorem by153 : byOf Tryz.prog 153 = some 8 := by kernel_rfl
@[go_sem] theorem zo153 : zeroOf Tryz.prog 153 = some [.p (.map Option.none)] := by kernel_rfl
@[go_sem] theorem zv153 : zeroVal Tryz.prog 153 = some (.p (.map Option.none)) := by kernel_rfl
@[go_sem] theorem un153 : Program.underlying Tryz.prog 153 = some (.map 9 4) := by kernel_rfl
@[go_sem] theorem sz160 : szOf Tryz.prog 160 = some 1 := by kernel_rfl
@[go_sem] theorem ag160 : isAggT Tryz.prog 160 = some false := by kernel_rfl
@[go_sem] theorem by160 : byOf Tryz.prog 160 = some 24 := by kernel_rfl
@[go_sem] theorem zo160 : zeroOf Tryz.prog 160 = some [.e0] := by kernel_rfl
@[go_sem] theorem zv160 : zeroVal Tryz.prog 160 = some (.e0) := by kernel_rfl
@[go_sem] theorem un160 : Program.underlying Tryz.prog 160 = some (.slice 22) := by kernel_rfl
@[go_sem] theorem el160 : elemOf? Tryz.prog 160 = some 22 := by kernel_rfl
@[go_sem] theorem sz169 : szOf Tryz.prog 169 = some 1 := by kernel_rfl
@[go_sem] theorem ag169 : isAggT Tryz.prog 169 = some false := by kernel_rfl
@[go_sem] theorem by169 : byOf Tryz.prog 169 = some 24 := by kernel_rfl
@[go_sem] theorem zo169 : zeroOf Tryz.prog 169 = some [.e0] := by kernel_rfl
@[go_sem] theorem zv169 : zeroVal Tryz.prog 169 = some (.e0) := by kernel_rfl
@[go_sem] theorem un169 : Program.underlying Tryz.prog 169 = some (.slice 28) := by kernel_rfl
@[go_sem] theorem el169 : elemOf? Tryz.prog 169 = some 28 := by kernel_rfl
@[go_sem] theorem sz173 : szOf Tryz.prog 173 = some 1 := by kernel_rfl
@[go_sem] theorem ag173 : isAggT Tryz.prog 173 = some false := by kernel_rfl
@[go_sem] theorem by173 : byOf Tryz.prog 173 = some 8 := by kernel_rfl
@[go_sem] theorem zo173 : zeroOf Tryz.prog 173 = some [.i .u64 0] := by kernel_rfl
@[go_sem] theorem zv173 : zeroVal Tryz.prog 173 = some (.i .u64 0) := by kernel_rfl
@[go_sem] theorem un173 : Program.underlying Tryz.prog 173 = some (.int .u64) := by kernel_rfl
@[go_sem] theorem sz174 : szOf Tryz.prog 174 = some 1 := by kernel_rfl
@[go_sem] theorem ag174 : isAggT Tryz.prog 174 = some false := by kernel_rfl
@[go_sem] theorem by174 : byOf Tryz.prog 174 = some 8 := by kernel_rfl
@[go_sem] theorem zo174 : zeroOf Tryz.prog 174 = some [.p (.pointer Option.none)] := by kernel_rfl
@[go_sem] theorem zv174 : zeroVal Tryz.prog 174 = some (.p (.pointer Option.none)) := by kernel_rfl
@[go_sem] theorem sz181 : szOf Tryz.prog 181 = some 1 := by kernel_rfl
@[go_sem] theorem ag181 : isAggT Tryz.prog 181 = some false := by kernel_rfl
@[go_sem] theorem by181 : byOf Tryz.prog 181 = some 8 := by kernel_rfl
@[go_sem] theorem zo181 : zeroOf Tryz.prog 181 = some [.p (.pointer Option.none)] := by kernel_rfl
@[go_sem] theorem zv181 : zeroVal Tryz.prog 181 = some (.p (.pointer Option.none)) := by kernel_rfl
@[go_sem] theorem sz185 : szOf Tryz.prog 185 = some 1 := by kernel_rfl
@[go_sem] theorem ag185 : isAggT Tryz.prog 185 = some false := by kernel_rfl
@[go_sem] theorem by185 : byOf Tryz.prog 185 = some 8 := by kernel_rfl
@[go_sem] theorem zo185 : zeroOf Tryz.prog 185 = some [.p (.map Option.none)] := by kernel_rfl
@[go_sem] theorem zv185 : zeroVal Tryz.prog 185 = some (.p (.map Option.none)) := by kernel_rfl
@[go_sem] theorem un185 : Program.underlying Tryz.prog 185 = some (.map 3 4) := by kernel_rfl
@[go_sem] theorem sz187 : szOf Tryz.prog 187 = some 2 := by kernel_rfl
@[go_sem] theorem ag187 : isAggT Tryz.prog 187 = some true := by kernel_rfl
@[go_sem] theorem by187 : byOf Tryz.prog 187 = some 32 := by kernel_rfl
@[go_sem] theorem zo187 : zeroOf Tryz.prog 187 = some [.s [], .s []] := by kernel_rfl
@[go_sem] theorem zv187 : zeroVal Tryz.prog 187 = some (.agg [.s [], .s []]) := by kernel_rfl
@[go_sem] theorem fo187_0 : fieldOf? Tryz.prog 187 0 = some (0, 9) := by kernel_rfl
@[go_sem] theorem fa187_0 : fieldAt? Tryz.prog 187 0 = some (0, some 1) := by kernel_rfl
@[go_sem] theorem fo187_1 : fieldOf? Tryz.prog 187 1 = some (1, 9) := by kernel_rfl
@[go_sem] theorem fa187_1 : fieldAt? Tryz.prog 187 1 = some (1, some 1) := by kernel_rfl
@[go_sem] theorem pl187 : placesOf Tryz.prog 187 = some [(0, 1), (1, 1)] := by kernel_rfl
@[go_sem] theorem lf187 : leafFields Tryz.prog 187 = some [9, 9] := by kernel_rfl
@[go_sem] theorem sz190 : szOf Tryz.prog 190 = some 1 := by kernel_rfl
@[go_sem] theorem ag190 : isAggT Tryz.prog 190 = some false := by kernel_rfl
@[go_sem] theorem by190 : byOf Tryz.prog 190 = some 8 := by kernel_rfl
@[go_sem] theorem zo190 : zeroOf Tryz.prog 190 = some [.i .i64 0] := by kernel_rfl
@[go_sem] theorem zv190 : zeroVal Tryz.prog 190 = some (.i .i64 0) := by kernel_rfl
@[go_sem] theorem un190 : Program.underlying Tryz.prog 190 = some (.int .i64) := by kernel_rfl
@[go_sem] theorem sz198 : szOf Tryz.prog 198 = some 1 := by kernel_rfl
@[go_sem] theorem ag198 : isAggT Tryz.prog 198 = some false := by kernel_rfl
@[go_sem] theorem by198 : byOf Tryz.prog 198 = some 4 := by kernel_rfl
@[go_sem] theorem zo198 : zeroOf Tryz.prog 198 = some [.i .u32 0] := by kernel_rfl
@[go_sem] theorem zv198 : zeroVal Tryz.prog 198 = some (.i .u32 0) := by kernel_rfl
@[go_sem] theorem un198 : Program.underlying Tryz.prog 198 = some (.int .u32) := by kernel_rfl
@[go_sem] theorem sz200 : szOf Tryz.prog 200 = some 1 := by kernel_rfl
@[go_sem] theorem ag200 : isAggT Tryz.prog 200 = some false := by kernel_rfl
@[go_sem] theorem by200 : byOf Tryz.prog 200 = some 8 := by kernel_rfl
@[go_sem] theorem zo200 : zeroOf Tryz.prog 200 = some [.i .u64 0] := by kernel_rfl
@[go_sem] theorem zv200 : zeroVal Tryz.prog 200 = some (.i .u64 0) := by kernel_rfl
@[go_sem] theorem un200 : Program.underlying Tryz.prog 200 = some (.int .u64) := by kernel_rfl
@[go_sem] theorem sz201 : szOf Tryz.prog 201 = some 256 := by kernel_rfl
@[go_sem] theorem ag201 : isAggT Tryz.prog 201 = some true := by kernel_rfl
@[go_sem] theorem by201 : byOf Tryz.prog 201 = some 256 := by kernel_rfl
@[go_sem] theorem zv201 : zeroVal Tryz.prog 201 = some (.agg [.i .u8 0, .i .u8 0, .i .u8 0, .i .u8 0, .i .u8 0, .i .u8 0, .i .u8 0, .i .u8 0, .i .u8 0, .i .u8 0, .i .u8 0, .i .u8 0, .i .u8 0, .i .u8 0, .i .u8 0, .i .u8 0, .i .u8 0, .i .u8 0, .i .u8 0, .i .u8 0, .i .u8 0, .i .u8 0, .i .u8 0, .i .u8 0, .i .u8 0, .i .u8 0, .i .u8 0, .i .u8 0, .i .u8 0, .i .u8 0, .i .u8 0, .i .u8 0, .i .u8 0, .i .u8 0, .i .u8 0, .i .u8 0, .i .u8 0, .i .u8 0, .i .u8 0, .i .u8 0, .i .u8 0, .i .u8 0, .i .u8 0, .i .u8 0, .i .u8 0, .i .u8 0, .i .u8 0, .i .u8 0, .i .u8 0, .i .u8 0, .i .u8 0, .i .u8 0, .i .u8 0, .i .u8 0, .i .u8 0, .i .u8 0, .i .u8 0, .i .u8 0, .i .u8 0, .i .u8 0, .i .u8 0, .i .u8 0, .i .u8 0, .i .u8 0, .i .u8 0, .i .u8 0, .i .u8 0, .i .u8 0, .i .u8 0, .i .u8 0, .i .u8 0, .i .u8 0, .i .u8 0, .i .u8 0, .i .u8 0, .i .u8 0, .i .u8 0, .i .u8 0, .i .u8 0, .i .u8 0, .i .u8 0, .i .u8 0, .i .u8 0, .i .u8 0, .i .u8 0, .i .u8 0, .i .u8 0, .i .u8 0, .i .u8 0, .i .u8 0, .i .u8 0, .i .u8 0, .i .u8 0, .i .u8 0, .i .u8 0, .i .u8 0, .i .u8 0, .i .u8 0, .i .u8 0, .i .u8 0, .i .u8 0, .i .u8 0, .i .u8 0, .i .u8 0, .i .u8 0, .i .u8 0, .i .u8 0, .i .u8 0, .i .u8 0, .i .u8 0, .i .u8 0, .i .u8 0, .i .u8 0, .i .u8 0, .i .u8 0, .i .u8 0, .i .u8 0, .i .u8 0, .i .u8 0, .i .u8 0, .i .u8 0, .i .u8 0, .i .u8 0, .i .u8 0, .i .u8 0, .i .u8 0, .i .u8 0, .i .u8 0, .i .u8 0, .i .u8 0, .i .u8 0, .i .u8 0, .i .u8 0, .i .u8 0, .i .u8 0, .i .u8 0, .i .u8 0, .i .u8 0, .i .u8 0, .i .u8 0, .i .u8 0, .i .u8 0, .i .u8 0, .i .u8 0, .i .u8 0, .i .u8 0, .i .u8 0, .i .u8 0, .i .u8 0, .i .u8 0, .i .u8 0, .i .u8 0, .i .u8 0, .i .u8 0, .i .u8 0, .i .u8 0, .i .u8 0, .i .u8 0, .i .u8 0, .i .u8 0, .i .u8 0, .i .u8 0, .i .u8 0, .i .u8 0, .i .u8 0, .i .u8 0, .i .u8 0, .i .u8 0, .i .u8 0, .i .u8 0, .i .u8 0, .i .u8 0, .i .u8 0, .i .u8 0, .i .u8 0, .i .u8 0, .i .u8 0, .i .u8 0, .i .u8 0, .i .u8 0, .i .u8 0, .i .u8 0, .i .u8 0, .i .u8 0, .i .u8 0, .i .u8 0, .i .u8 0, .i .u8 0, .i .u8 0, .i .u8 0, .i .u8 0, .i .u8 0, .i .u8 0, .i .u8 0, .i .u8 0, .i .u8 0, .i .u8 0, .i .u8 0, .i .u8 0, .i .u8 0, .i .u8 0, .i .u8 0, .i .u8 0, .i .u8 0, .i .u8 0, .i .u8 0, .i .u8 0, .i .u8 0, .i .u8 0, .i .u8 0, .i .u8 0, .i .u8 0, .i .u8 0, .i .u8 0, .i .u8 0, .i .u8 0, .i .u8 0, .i .u8 0, .i .u8 0, .i .u8 0, .i .u8 0, .i .u8 0, .i .u8 0, .i .u8 0, .i .u8 0, .i .u8 0, .i .u8 0, .i .u8 0, .i .u8 0, .i .u8 0, .i .u8 0, .i .u8 0, .i .u8 0, .i .u8 0, .i .u8 0, .i .u8 0, .i .u8 0, .i .u8 0, .i .u8 0, .i .u8 0, .i .u8 0, .i .u8 0, .i .u8 0, .i .u8 0, .i .u8 0, .i .u8 0, .i .u8 0, .i .u8 0, .i .u8 0, .i .u8 0, .i .u8 0, .i .u8 0, .i .u8 0, .i .u8 0, .i .u8 0, .i .u8 0]) := by kernel_rfl
@[go_sem] theorem un201 : Program.underlying Tryz.prog 201 = some (.array 256 5) := by kernel_rfl
@[go_sem] theorem sz203 : szOf Tryz.prog 203 = some 1 := by kernel_rfl
@[go_sem] theorem ag203 : isAggT Tryz.prog 203 = some false := by kernel_rfl
@[go_sem] theorem by203 : byOf Tryz.prog 203 = some 8 := by kernel_rfl
@[go_sem] theorem zo203 : zeroOf Tryz.prog 203 = some [.p .nilFunc] := by kernel_rfl
@[go_sem] theorem zv203 : zeroVal Tryz.prog 203 = some (.p .nilFunc) := by kernel_rfl
@[go_sem] theorem sz206 : szOf Tryz.prog 206 = some 1 := by kernel_rfl
@[go_sem] theorem ag206 : isAggT Tryz.prog 206 = some false := by kernel_rfl
@[go_sem] theorem by206 : byOf Tryz.prog 206 = some 8 := by kernel_rfl
@[go_sem] theorem zo206 : zeroOf Tryz.prog 206 = some [.i .u64 0] := by kernel_rfl
@[go_sem] theorem zv206 : zeroVal Tryz.prog 206 = some (.i .u64 0) := by kernel_rfl
@[go_sem] theorem un206 : Program.underlying Tryz.prog 206 = some (.int .u64) := by kernel_rfl
@[go_sem] theorem sz211 : szOf Tryz.prog 211 = some 1 := by kernel_rfl
@[go_sem] theorem ag211 : isAggT Tryz.prog 211 = some false := by kernel_rfl
@[go_sem] theorem by211 : byOf Tryz.prog 211 = some 8 := by kernel_rfl
@[go_sem] theorem zo211 : zeroOf Tryz.prog 211 = some [.p (.pointer Option.none)] := by kernel_rfl
@[go_sem] theorem zv211 : zeroVal Tryz.prog 211 = some (.p (.pointer Option.none)) := by kernel_rfl
@[go_sem] theorem sz214 : szOf Tryz.prog 214 = some 1 := by kernel_rfl
@[go_sem] theorem ag214 : isAggT Tryz.prog 214 = some false := by kernel_rfl
@[go_sem] theorem by214 : byOf Tryz.prog 214 = some 24 := by kernel_rfl
@[go_sem] theorem zo214 : zeroOf Tryz.prog 214 = some [.e0] := by kernel_rfl
@[go_sem] theorem zv214 : zeroVal Tryz.prog 214 = some (.e0) := by kernel_rfl
@[go_sem] theorem un214 : Program.underlying Tryz.prog 214 = some (.slice 216) := by kernel_rfl
@[go_sem] theorem el214 : elemOf? Tryz.prog 214 = some 216 := by kernel_rfl
@[go_sem] theorem sz216 : szOf Tryz.prog 216 = some 2 := by kernel_rfl
@[go_sem] theorem ag216 : isAggT Tryz.prog 216 = some true := by kernel_rfl
@[go_sem] theorem by216 : byOf Tryz.prog 216 = some 16 := by kernel_rfl
@[go_sem] theorem zo216 : zeroOf Tryz.prog 216 = some [.i .i64 0, .i .i64 0] := by kernel_rfl
@[go_sem] theorem zv216 : zeroVal Tryz.prog 216 = some (.agg [.i .i64 0, .i .i64 0]) := by kernel_rfl
@[go_sem] theorem fo216_0 : fieldOf? Tryz.prog 216 0 = some (0, 3) := by kernel_rfl
@[go_sem] theorem fa216_0 : fieldAt? Tryz.prog 216 0 = some (0, some 1) := by kernel_rfl
@[go_sem] theorem fo216_1 : fieldOf? Tryz.prog 216 1 = some (1, 3) := by kernel_rfl
@[go_sem] theorem fa216_1 : fieldAt? Tryz.prog 216 1 = some (1, some 1) := by kernel_rfl
@[go_sem] theorem pl216 : placesOf Tryz.prog 216 = some [(0, 1), (1, 1)] := by kernel_rfl
@[go_sem] theorem lf216 : leafFields Tryz.prog 216 = some [3, 3] := by kernel_rfl
@[go_sem] theorem sz218 : szOf Tryz.prog 218 = some 1 := by kernel_rfl
@[go_sem] theorem ag218 : isAggT Tryz.prog 218 = some false := by kernel_rfl
@[go_sem] theorem by218 : byOf Tryz.prog 218 = some 8 := by kernel_rfl
@[go_sem] theorem zo218 : zeroOf Tryz.prog 218 = some [.p (.pointer Option.none)] := by kernel_rfl
@[go_sem] theorem zv218 : zeroVal Tryz.prog 218 = some (.p (.pointer Option.none)) := by kernel_rfl
end Go.Proofs.YtnjnjdebgkjfhaaGreatDoor
namespace Go.Vo
theorem cE {P : Program} {G : Glob} {dr : Option Nat} {d : Option Nat} {os : List AOper} {K : List AV → List AObj → Prop} {env : List AV} {h : List AObj} {f : FuncId} {A A' : List AV} {r : AV} (s : Ctr P G f A' r)
 (k : awops P G dr os K (aput env d (mat r (hAfter r h A)).1) (mat r (hAfter r h A)).2) (hA : A.map (snap dep h) = A' := by (simp -implicitDefEqProofs (disch := omega) only [avs, avb, avi, avo, sigCells, opCells, pairCells, go_sem, ↓reduceIte, reduceAdd, reduceSub, reduceMul, reduceLeDiff, reduceLT, reduceEqDiff, reduceNeg, Nat.reduceBEq]; done)) : callF P G dr f A d os K env h := c_ctrE s hA k
end Go.Vo
namespace Go.Proofs.YtnjnjdebgkjfhaaGreatDoor
open Go Go.Vo
open Nat (reduceAdd reduceSub reduceMul reduceLeDiff reduceLT reduceEqDiff)
open Int (reduceNeg)
abbrev CT := Ctr Tryz.prog G0

def letter (n : Int) : Bool := decide (97 ≤ n) && decide (n ≤ 122) || decide (65 ≤ n) && decide (n ≤ 90)
def digit (n : Int) : Bool := decide (48 ≤ n) && decide (n ≤ 57)

theorem ctr96 (n : Int): CT 143 [.i .u8 n] (.b (letter n)) := by
 refine sem_intro (rx := false) (th := fun _ => none) mixed Tryz.func143 rfl (by kernel_rfl) (by kernel_rfl) (ac := ?_) ?_ g0 ?_
 rotate_left
 · simp only [strip, splitQ, stripOps, stripOp, hoist, List.filter_cons, List.filter_nil, List.nil_append, List.cons_append, isFree, anyPre, Region.binds, Bool.not_true, Bool.not_false, Bool.false_eq_true, if_true, if_false, Option.isNone_none, Option.isNone_some, Bool.true_and, Bool.false_and, List.map_nil, List.map_cons, List.isEmpty_nil, List.isEmpty_cons, List.append_nil]
   rfl
 · simp -implicitDefEqProofs (disch := omega) only [Tryz.f143, go_sem, List.replicate, simprocAttr]
   repeat' (first | refine gT ?_ ?_ | refine gF ?_ ?_ | refine gC ?_ ?_ | (intro hc; simp -implicitDefEqProofs only [hc, go_sem]))
   all_goals (refine fin_eq ?_ (by rfl); simp_all [letter] <;> omega)
theorem ctr98 (n : Int): CT 148 [.i .u8 n] (.b (letter n)) := by
 refine sem_intro (rx := false) (th := fun _ => none) mixed Tryz.func148 rfl (by kernel_rfl) (by kernel_rfl) (ac := ?_) ?_ g0 ?_
 rotate_left
 · simp only [strip, splitQ, stripOps, stripOp, hoist, List.filter_cons, List.filter_nil, List.nil_append, List.cons_append, isFree, anyPre, Region.binds, Bool.not_true, Bool.not_false, Bool.false_eq_true, if_true, if_false, Option.isNone_none, Option.isNone_some, Bool.true_and, Bool.false_and, List.map_nil, List.map_cons, List.isEmpty_nil, List.isEmpty_cons, List.append_nil]
   rfl
 · simp -implicitDefEqProofs (disch := omega) only [Tryz.f148, go_sem, List.replicate, simprocAttr]
   repeat' (first | refine gT ?_ ?_ | refine gF ?_ ?_ | refine gC ?_ ?_ | (intro hc; simp -implicitDefEqProofs only [hc, go_sem]))
   all_goals (refine fin_eq ?_ (by rfl); simp_all [letter] <;> omega)
theorem ctr99 (n : Int): CT 149 [.i .u8 n] (.b (digit n)) := by
 refine sem_intro (rx := false) (th := fun _ => none) mixed Tryz.func149 rfl (by kernel_rfl) (by kernel_rfl) (ac := ?_) ?_ g0 ?_
 rotate_left
 · simp only [strip, splitQ, stripOps, stripOp, hoist, List.filter_cons, List.filter_nil, List.nil_append, List.cons_append, isFree, anyPre, Region.binds, Bool.not_true, Bool.not_false, Bool.false_eq_true, if_true, if_false, Option.isNone_none, Option.isNone_some, Bool.true_and, Bool.false_and, List.map_nil, List.map_cons, List.isEmpty_nil, List.isEmpty_cons, List.append_nil]
   rfl
 · simp -implicitDefEqProofs (disch := omega) only [Tryz.f149, go_sem, List.replicate, simprocAttr]
   repeat' (first | refine gT ?_ ?_ | refine gF ?_ ?_ | refine gC ?_ ?_ | (intro hc; simp -implicitDefEqProofs only [hc, go_sem]))
   all_goals (refine fin_eq ?_ (by rfl); simp_all [digit] <;> omega)
def part (n : Int) : Bool := letter n || digit n || decide (n = 95)
theorem ctr97 (n : Int): CT 144 [.i .u8 n] (.b (part n)) := by
 refine sem_intro (rx := false) (th := fun _ => none) mixed Tryz.func144 rfl (by kernel_rfl) (by kernel_rfl) (ac := ?_) ?_ g0 ?_
 rotate_left
 · simp only [strip, splitQ, stripOps, stripOp, hoist, List.filter_cons, List.filter_nil, List.nil_append, List.cons_append, isFree, anyPre, Region.binds, Bool.not_true, Bool.not_false, Bool.false_eq_true, if_true, if_false, Option.isNone_none, Option.isNone_some, Bool.true_and, Bool.false_and, List.map_nil, List.map_cons, List.isEmpty_nil, List.isEmpty_cons, List.append_nil]
   rfl
 · simp -implicitDefEqProofs (disch := omega) only [Tryz.f144, go_sem, List.replicate, simprocAttr]
   repeat' (first | refine gT ?_ ?_ | refine gF ?_ ?_ | refine gC ?_ ?_ | refine c_ctr (ctr96 _) ?_; simp -implicitDefEqProofs only [go_sem] | (intro hc; simp -implicitDefEqProofs only [hc, go_sem]))
   all_goals (refine fin_eq ?_ (by rfl); simp_all [part, digit] <;> omega)

def at_ (s : Str) (k : Nat) : Int := ((s.getD k 0).toNat : Int)
def isName (s : Str) : Bool := !s.isEmpty && decide (s.length ≤ 40) && letter (at_ s 0) && s.all fun c => part c.toNat

theorem all_at {s : Str} {q : Int → Bool} (h : ∀ j, j < s.length → q (at_ s j) = true) : (s.all fun c => q c.toNat) = true := by
 rw [List.all_eq_true]
 intro c hc
 obtain ⟨j, hj, rfl⟩ := List.mem_iff_getElem.1 hc
 have := h j hj
 simpa [at_, hj] using this
theorem not_all_at {s : Str} {q : Int → Bool} {j : Nat} (hj : j < s.length) (h : q (at_ s j) = false) : (s.all fun c => q c.toNat) = false := by
 rw [List.all_eq_false]
 exact ⟨s[j], List.getElem_mem hj, by simpa [at_, hj] using h⟩

theorem ctr41 (s : Str) (hs : s.length ≤ 140737488355328): CT 80 [.s s] (.b (isName s)) := by
 refine sem_intro (rx := false) (th := fun _ => none) mixed Tryz.func80 rfl (by kernel_rfl) (by kernel_rfl) (ac := ?_) ?_ g0 ?_
 rotate_left
 · simp only [strip, splitQ, stripOps, stripOp, hoist, List.filter_cons, List.filter_nil, List.nil_append, List.cons_append, isFree, anyPre, Region.binds, Bool.not_true, Bool.not_false, Bool.false_eq_true, if_true, if_false, Option.isNone_none, Option.isNone_some, Bool.true_and, Bool.false_and, List.map_nil, List.map_cons, List.isEmpty_nil, List.isEmpty_cons, List.append_nil]
   rfl
 · simp -implicitDefEqProofs (disch := omega) only [Tryz.f80, go_sem, List.replicate, simprocAttr]
   (repeat' (first | refine gT ?_ ?_ | refine gF ?_ ?_ | refine gC ?_ ?_ | (refine c_ctr (ctr96 _) ?_; simp -implicitDefEqProofs (disch := omega) only [go_sem, simprocAttr]) | refine And.intro (by omega) ?_ | (intro hr; have hc := hr; (try simp only [zda, zdb, zdc, zdd] at hc); simp -implicitDefEqProofs (disch := omega) only [hr, go_sem, simprocAttr]; (try clear hr))))
   any_goals (refine fin_eq ?_ (by rfl); simp_all [isName, at_] <;> omega)
   refine x_loopJ (fun (k : Nat) => [.k, .k, .j, .j, .k, .k, .k, .k, .k, .k, .k, .k, .k, .k, .k, .k, .k, .k, .k, .v (.i .i64 k), .j, .j, .j, .j, .j, .j, .j, .j]) (fun k => []) (fun k => k ≤ s.length ∧ ∀ j, j < k → part (at_ s j) = true) (fun k => s.length - k) (0) ⟨Nat.zero_le _, fun j h => by omega⟩ rfl (by simp [Fits]) ?_
   rintro k j ⟨hk, ha⟩
   simp -implicitDefEqProofs (disch := omega) only [go_sem, simprocAttr]
   (repeat' (first | refine gT ?_ ?_ | refine gF ?_ ?_ | refine gC ?_ ?_ | (refine c_ctr (ctr97 _) ?_; simp -implicitDefEqProofs (disch := omega) only [go_sem, simprocAttr]) | refine And.intro (by omega) ?_ | (intro hr; have hc := hr; (try simp only [zda, zdb, zdc, zdd] at hc); simp -implicitDefEqProofs (disch := omega) only [hr, go_sem, simprocAttr]; (try clear hr))))
   · refine fin_eq ?_ (by rfl)
     simp only [isName, not_all_at (show k < s.length by omega) (by simpa [at_] using hc), Bool.and_false]
   · exact ⟨k + 1, ⟨by omega, below_succ ha (by simpa [at_] using hc)⟩, by omega, by simp⟩
   · refine fin_eq ?_ (by rfl)
     have h1 : k = s.length := by omega
     simp only [isName, all_at (h1 ▸ ha)]
     simp_all [at_] <;> omega

def okAt (s : Str) (j : Nat) : Bool := letter (at_ s j) || (decide (j ≠ 0) && part (at_ s j))
theorem isName_ok {s : Str} (h : ∀ j, j < s.length → okAt s j = true) (h1 : 1 ≤ s.length) (h2 : s.length ≤ 40) : isName s = true := by
 have h0 := h 0 (by omega)
 have hp : (s.all fun c => part c.toNat) = true := all_at (fun j hj => by
   have := h j hj
   unfold okAt at this
   simp only [Bool.or_eq_true, Bool.and_eq_true] at this
   rcases this with h | h
   · simp [part, h]
   · exact h.2)
 have hl : letter (at_ s 0) = true := by simpa [okAt] using h0
 have hne : s ≠ [] := by intro h; simp [h] at h1
 simp [isName, hp, hl, h2, hne]
theorem isName_no {s : Str} {j : Nat} (hj : j < s.length) (h : okAt s j = false) : isName s = false := by
 unfold okAt at h
 simp only [Bool.or_eq_false_iff, Bool.and_eq_false_iff] at h
 rcases h with ⟨h1, h2 | h2⟩
 · have : j = 0 := by simpa using h2
   subst this
   simp [isName, h1]
 · simp [isName, not_all_at hj h2]

theorem ctr42 (s : Str) (hs : s.length ≤ 140737488355328): CT 86 [.s s] (.b (isName s)) := by
 refine sem_intro (rx := false) (th := fun _ => none) mixed Tryz.func86 rfl (by kernel_rfl) (by kernel_rfl) (ac := ?_) ?_ g0 ?_
 rotate_left
 · simp only [strip, splitQ, stripOps, stripOp, hoist, List.filter_cons, List.filter_nil, List.nil_append, List.cons_append, isFree, anyPre, Region.binds, Bool.not_true, Bool.not_false, Bool.false_eq_true, if_true, if_false, Option.isNone_none, Option.isNone_some, Bool.true_and, Bool.false_and, List.map_nil, List.map_cons, List.isEmpty_nil, List.isEmpty_cons, List.append_nil]
   rfl
 · simp -implicitDefEqProofs (disch := omega) only [Tryz.f86, go_sem, List.replicate, ↓reduceIte, reduceAdd, reduceSub, reduceMul, reduceLeDiff, reduceLT, reduceEqDiff, reduceNeg, Nat.reduceBEq]
   refine x_loopJ (fun (k : Nat) => [.k, .k, .j, .j, .k, .k, .v (.i .i64 k), .j, .j, .j, .j, .j, .j, .j, .j, .j, .j, .j, .j, .j, .j, .j, .j, .j, .j, .j, .j, .j, .j, .j, .j, .j, .k, .k, .k, .k, .k, .k, .k, .k]) (fun k => []) (fun k => k ≤ s.length ∧ ∀ j, j < k → okAt s j = true) (fun k => s.length - k) (0) ⟨Nat.zero_le _, fun j h => by omega⟩ rfl (by simp [Fits]) ?_
   rintro k j ⟨hk, ha⟩
   simp -implicitDefEqProofs (disch := omega) only [go_sem, ↓reduceIte, reduceAdd, reduceSub, reduceMul, reduceLeDiff, reduceLT, reduceEqDiff, reduceNeg, Nat.reduceBEq]
   (repeat' (first | refine gT ?_ ?_ | refine gF ?_ ?_ | refine gC ?_ ?_ | (refine c_ctr (ctr98 _) ?_; simp -implicitDefEqProofs (disch := omega) only [go_sem, ↓reduceIte, reduceAdd, reduceSub, reduceMul, reduceLeDiff, reduceLT, reduceEqDiff, reduceNeg, Nat.reduceBEq]) | (refine c_ctr (ctr99 _) ?_; simp -implicitDefEqProofs (disch := omega) only [go_sem, ↓reduceIte, reduceAdd, reduceSub, reduceMul, reduceLeDiff, reduceLT, reduceEqDiff, reduceNeg, Nat.reduceBEq]) | refine And.intro (by omega) ?_ | (intro hr; have hc := hr; (try simp only [zda, zdb, zdc, zdd] at hc); simp -implicitDefEqProofs (disch := omega) only [hr, go_sem, ↓reduceIte, reduceAdd, reduceSub, reduceMul, reduceLeDiff, reduceLT, reduceEqDiff, reduceNeg, Nat.reduceBEq]; (try clear hr))))
   all_goals first | refine Exists.intro (k + 1) ⟨⟨by omega, below_succ ha (by simp_all [okAt, at_, part] <;> omega)⟩, by omega, by simp⟩ | refine fin_eq ?_ (by rfl)
   · rw [isName_no (j := k) (by omega) (by simp_all [okAt, at_, part] <;> omega)]
   · rw [isName_no (j := k) (by omega) (by simp_all [okAt, at_, part] <;> omega)]
   · have h1 : k = s.length := by omega
     by_cases h2 : s.length ≤ 40
     · rw [isName_ok (h1 ▸ ha) (by omega) h2]; simp; omega
     · have e1 : isName s = false := by simp [isName, h2]
       rw [e1]; congr 1; symm; simp; omega
   · have : s = [] := List.eq_nil_of_length_eq_zero (by omega)
     simp [this, isName]
def isFrame (s : Str) : Bool := decide (2 < s.length) && decide (at_ s (s.length - 2) = 39) && decide (49 ≤ at_ s (s.length - 1)) && decide (at_ s (s.length - 1) ≤ 56)
def base (s : Str) : Str := if isFrame s then s.take (s.length - 2) else s
def frame (s : Str) : Str := if isFrame s then s.drop (s.length - 2) else []
theorem ctr109 (s : Str) (hs : s.length ≤ 140737488355328): CT 147 [.s s] (.tup [.s (base s), .s (frame s)]) := by
 refine sem_intro (rx := false) (th := fun _ => none) mixed Tryz.func147 rfl (by kernel_rfl) (by kernel_rfl) (ac := ?_) ?_ g0 ?_
 rotate_left
 · simp only [strip, splitQ, stripOps, stripOp, hoist, List.filter_cons, List.filter_nil, List.nil_append, List.cons_append, isFree, anyPre, Region.binds, Bool.not_true, Bool.not_false, Bool.false_eq_true, if_true, if_false, Option.isNone_none, Option.isNone_some, Bool.true_and, Bool.false_and, List.map_nil, List.map_cons, List.isEmpty_nil, List.isEmpty_cons, List.append_nil]
   rfl
 · simp -implicitDefEqProofs (disch := omega) only [Tryz.f147, go_sem, List.replicate, ↓reduceIte, reduceAdd, reduceSub, reduceMul, reduceLeDiff, reduceLT, reduceEqDiff, reduceNeg, Nat.reduceBEq]
   (repeat' (first | refine gT ?_ ?_ | refine gF ?_ ?_ | refine gC ?_ ?_ | refine And.intro (by omega) ?_ | (intro hr; have hc := hr; (try simp only [zda, zdb, zdc, zdd] at hc); simp -implicitDefEqProofs (disch := omega) only [hr, go_sem, ↓reduceIte, reduceAdd, reduceSub, reduceMul, reduceLeDiff, reduceLT, reduceEqDiff, reduceNeg, Nat.reduceBEq]; (try clear hr))))
   all_goals (refine fin_eq ?_ (by rfl))
   · have h : isFrame s = true := by simp_all [isFrame, at_] <;> omega
     simp [base, frame, h]
   all_goals (have h : isFrame s = false := by simp_all [isFrame, at_] <;> omega)
   all_goals simp [base, frame, h]
theorem ctr138 (s : Str) (hs : s.length ≤ 140737488355328): CT 201 [.s s] (.tup [.s (base s), .s (frame s)]) := by
 refine sem_intro (rx := false) (th := fun _ => none) mixed Tryz.func201 rfl (by kernel_rfl) (by kernel_rfl) (ac := ?_) ?_ g0 ?_
 rotate_left
 · simp only [strip, splitQ, stripOps, stripOp, hoist, List.filter_cons, List.filter_nil, List.nil_append, List.cons_append, isFree, anyPre, Region.binds, Bool.not_true, Bool.not_false, Bool.false_eq_true, if_true, if_false, Option.isNone_none, Option.isNone_some, Bool.true_and, Bool.false_and, List.map_nil, List.map_cons, List.isEmpty_nil, List.isEmpty_cons, List.append_nil]
   rfl
 · simp -implicitDefEqProofs (disch := omega) only [Tryz.f201, go_sem, List.replicate, ↓reduceIte, reduceAdd, reduceSub, reduceMul, reduceLeDiff, reduceLT, reduceEqDiff, reduceNeg, Nat.reduceBEq]
   (repeat' (first | refine gT ?_ ?_ | refine gF ?_ ?_ | refine gC ?_ ?_ | refine And.intro (by omega) ?_ | (intro hr; have hc := hr; (try simp only [zda, zdb, zdc, zdd] at hc); simp -implicitDefEqProofs (disch := omega) only [hr, go_sem, ↓reduceIte, reduceAdd, reduceSub, reduceMul, reduceLeDiff, reduceLT, reduceEqDiff, reduceNeg, Nat.reduceBEq]; (try clear hr))))
   all_goals (refine fin_eq ?_ (by rfl))
   · have h : isFrame s = true := by simp_all [isFrame, at_] <;> omega
     simp [base, frame, h]
   all_goals (have h : isFrame s = false := by simp_all [isFrame, at_] <;> omega)
   all_goals simp [base, frame, h]
theorem base_len (s : Str) : (base s).length ≤ s.length := by unfold base; split <;> simp <;> omega
theorem ctr115 (s : Str) (hs : s.length ≤ 140737488355328): CT 160 [.s s] (.b (isName (base s))) := by
 refine sem_intro (rx := false) (th := fun _ => none) mixed Tryz.func160 rfl (by kernel_rfl) (by kernel_rfl) (ac := ?_) ?_ g0 ?_
 rotate_left
 · simp only [strip, splitQ, stripOps, stripOp, hoist, List.filter_cons, List.filter_nil, List.nil_append, List.cons_append, isFree, anyPre, Region.binds, Bool.not_true, Bool.not_false, Bool.false_eq_true, if_true, if_false, Option.isNone_none, Option.isNone_some, Bool.true_and, Bool.false_and, List.map_nil, List.map_cons, List.isEmpty_nil, List.isEmpty_cons, List.append_nil]
   rfl
 · simp -implicitDefEqProofs (disch := omega) only [Tryz.f160, go_sem, List.replicate, ↓reduceIte, reduceAdd, reduceSub, reduceMul, reduceLeDiff, reduceLT, reduceEqDiff, reduceNeg, Nat.reduceBEq]
   (repeat' (first | refine gT ?_ ?_ | refine gF ?_ ?_ | refine gC ?_ ?_ | ((refine c_ctrE (ctr138 s hs) ?_ ?_; (focus (simp -implicitDefEqProofs (disch := omega) only [avs, avb, avi, avo, sigCells, opCells, pairCells, go_sem, ↓reduceIte, reduceAdd, reduceSub, reduceMul, reduceLeDiff, reduceLT, reduceEqDiff, reduceNeg, Nat.reduceBEq]; done))); simp -implicitDefEqProofs (disch := omega) only [go_sem, ↓reduceIte, reduceAdd, reduceSub, reduceMul, reduceLeDiff, reduceLT, reduceEqDiff, reduceNeg, Nat.reduceBEq]) | (refine c_ctr (ctr42 _ (Nat.le_trans (base_len s) hs)) ?_; simp -implicitDefEqProofs (disch := omega) only [go_sem, ↓reduceIte, reduceAdd, reduceSub, reduceMul, reduceLeDiff, reduceLT, reduceEqDiff, reduceNeg, Nat.reduceBEq]) | refine And.intro (by omega) ?_ | (intro hr; have hc := hr; (try simp only [zda, zdb, zdc, zdd] at hc); simp -implicitDefEqProofs (disch := omega) only [hr, go_sem, ↓reduceIte, reduceAdd, reduceSub, reduceMul, reduceLeDiff, reduceLT, reduceEqDiff, reduceNeg, Nat.reduceBEq]; (try clear hr))))
   refine fin_eq ?_ (by rfl); rfl

def alwaysA : List Str := [[65, 110, 121], [73, 110, 116], [66, 111, 111, 108], [84, 101, 120, 116], [73, 100], [76, 105, 115, 116], [77, 97, 112]]
theorem ctr48 : CT 95 [] (.own 1 (alwaysA.map .s) alwaysA.length) := by
 refine sem_intro (rx := false) (th := fun _ => none) mixed Tryz.func95 rfl (by kernel_rfl) (by kernel_rfl) (ac := ?_) ?_ g0 ?_
 rotate_left
 · simp only [strip, splitQ, stripOps, stripOp, hoist, List.filter_cons, List.filter_nil, List.nil_append, List.cons_append, isFree, anyPre, Region.binds, Bool.not_true, Bool.not_false, Bool.false_eq_true, if_true, if_false, Option.isNone_none, Option.isNone_some, Bool.true_and, Bool.false_and, List.map_nil, List.map_cons, List.isEmpty_nil, List.isEmpty_cons, List.append_nil]
   rfl
 · simp -implicitDefEqProofs (disch := omega) only [Tryz.f95, go_sem, List.replicate, simprocAttr]
   exact fin_own rfl rfl rfl rfl rfl
def idx {α : Type} (p : α → Bool) (l : List α) : Int := match l.findIdx? p with | some i => i | none => -1
theorem idx_some {α : Type} {p : α → Bool} {l : List α} {d : α} {k : Nat} (hk : k < l.length) (h : p (l.getD k d) = true) (hn : ∀ j, j < k → p (l.getD j d) = false) : idx p l = k := by
 have : l.findIdx? p = some k := by
   rw [List.findIdx?_eq_some_iff_getElem]
   refine ⟨hk, by simpa [List.getD, hk] using h, fun j hj => ?_⟩
   have := hn j hj
   simpa [List.getD, show j < l.length by omega] using this
 simp [idx, this]
theorem idx_none {α : Type} {p : α → Bool} {l : List α} {d : α} (hn : ∀ j, j < l.length → p (l.getD j d) = false) : idx p l = -1 := by
 have : l.findIdx? p = none := by
   rw [List.findIdx?_eq_none_iff]
   intro x hx
   obtain ⟨j, hj, rfl⟩ := List.mem_iff_getElem.1 hx
   have := hn j hj
   simpa [List.getD, hj] using this
 simp [idx, this]
theorem idx_any {α : Type} {p : α → Bool} {l : List α} : decide (0 ≤ idx p l) = l.any p := by
 unfold idx
 cases h : l.findIdx? p with
 | none =>
   rw [List.findIdx?_eq_none_iff] at h
   have : l.any p = false := by rw [List.any_eq_false]; intro x hx; simp [h x hx]
   rw [this]; rfl
 | some i =>
   rw [List.findIdx?_eq_some_iff_getElem] at h
   obtain ⟨hi, hp, _⟩ := h
   have : l.any p = true := List.any_eq_true.2 ⟨_, List.getElem_mem hi, hp⟩
   rw [this]; simp
theorem ctr100 (l : List Str) (s : Str) (hl : l.length ≤ 140737488355328): CT 162 [avs l, .s s] (.i .i64 (idx (fun x => decide (s = x)) l)) := by
 refine sem_intro (rx := false) (th := fun _ => none) mixed Tryz.func162 rfl (by kernel_rfl) (by kernel_rfl) (ac := ?_) ?_ g0 ?_
 rotate_left
 · simp only [strip, splitQ, stripOps, stripOp, hoist, List.filter_cons, List.filter_nil, List.nil_append, List.cons_append, isFree, anyPre, Region.binds, Bool.not_true, Bool.not_false, Bool.false_eq_true, if_true, if_false, Option.isNone_none, Option.isNone_some, Bool.true_and, Bool.false_and, List.map_nil, List.map_cons, List.isEmpty_nil, List.isEmpty_cons, List.append_nil]
   rfl
 · simp -implicitDefEqProofs (disch := omega) only [Tryz.f162, go_sem, List.replicate, simprocAttr, avs]
   refine x_loopJ (fun (k : Nat) => [.k, .k, .k, .k, .j, .j, .k, .k, .v (.i .i64 k), .j, .j, .j, .j, .j, .j, .j, .j, .j, .j]) (fun k => []) (fun k => k ≤ l.length ∧ ∀ j, j < k → decide (s = l.getD j []) = false) (fun k => l.length - k) (0) ⟨Nat.zero_le _, fun j h => by omega⟩ rfl (by simp [Fits]) ?_
   rintro k j ⟨hk, ha⟩
   simp -implicitDefEqProofs (disch := omega) only [go_sem, simprocAttr]
   (repeat' (first | refine gT ?_ ?_ | refine gF ?_ ?_ | refine gC ?_ ?_ | refine And.intro (by omega) ?_ | (intro hr; have hc := hr; (try simp only [zda, zdb, zdc, zdd] at hc); simp -implicitDefEqProofs (disch := omega) only [hr, go_sem, simprocAttr]; (try clear hr))))
   · refine fin_eq ?_ (by rfl)
     rw [idx_some (d := []) (k := k) (by omega) (by simpa using hc) ha]
   · exact ⟨k + 1, ⟨by omega, below_succ ha (by simpa using hc)⟩, by omega, by simp⟩
   · refine fin_eq ?_ (by rfl)
     have h1 : k = l.length := by omega
     rw [idx_none (h1 ▸ ha)]
theorem idx_contains {s : Str} {l : List Str} : decide (0 ≤ idx (fun x => decide (s = x)) l) = l.contains s := by
 rw [idx_any, List.contains_eq_any_beq]
 congr 1
 funext x
 exact Bool.eq_iff_iff.2 (by simp)
theorem ctr47 (l : List Str) (s : Str) (hl : l.length ≤ 140737488355328): CT 94 [avs l, .s s] (.b (l.contains s)) := by
 refine sem_intro (rx := false) (th := fun _ => none) mixed Tryz.func94 rfl (by kernel_rfl) (by kernel_rfl) (ac := ?_) ?_ g0 ?_
 rotate_left
 · simp only [strip, splitQ, stripOps, stripOp, hoist, List.filter_cons, List.filter_nil, List.nil_append, List.cons_append, isFree, anyPre, Region.binds, Bool.not_true, Bool.not_false, Bool.false_eq_true, if_true, if_false, Option.isNone_none, Option.isNone_some, Bool.true_and, Bool.false_and, List.map_nil, List.map_cons, List.isEmpty_nil, List.isEmpty_cons, List.append_nil]
   rfl
 · simp -implicitDefEqProofs (disch := omega) only [Tryz.f94, go_sem, List.replicate, simprocAttr, avs]
   (repeat' (first | refine gT ?_ ?_ | refine gF ?_ ?_ | refine gC ?_ ?_ | ((refine c_ctrE (ctr100 l s hl) ?_ ?_; (focus (simp -implicitDefEqProofs (disch := omega) only [avs, avb, avi, avo, sigCells, opCells, pairCells, go_sem, simprocAttr]; done))); simp -implicitDefEqProofs (disch := omega) only [go_sem, simprocAttr]) | refine And.intro (by omega) ?_ | (intro hr; have hc := hr; (try simp only [zda, zdb, zdc, zdd] at hc); simp -implicitDefEqProofs (disch := omega) only [hr, go_sem, simprocAttr]; (try clear hr))))
   refine fin_eq ?_ (by rfl)
   rw [idx_contains]
theorem same_all {l m : List Str} (hl : l.length = m.length) (h : ∀ j, j < l.length → l.getD j [] = m.getD j []) : l = m := by
 apply List.ext_getElem hl
 intro j h1 h2
 have := h j h1
 simpa [List.getD, h1, h2] using this
theorem ctr90 (l m : List Str) (hl : l.length ≤ 140737488355328) (hm : m.length ≤ 140737488355328): CT 208 [avs l, avs m] (.b (decide (l = m))) := by
 refine sem_intro (rx := false) (th := fun _ => none) mixed Tryz.func208 rfl (by kernel_rfl) (by kernel_rfl) (ac := ?_) ?_ g0 ?_
 rotate_left
 · simp only [strip, splitQ, stripOps, stripOp, hoist, List.filter_cons, List.filter_nil, List.nil_append, List.cons_append, isFree, anyPre, Region.binds, Bool.not_true, Bool.not_false, Bool.false_eq_true, if_true, if_false, Option.isNone_none, Option.isNone_some, Bool.true_and, Bool.false_and, List.map_nil, List.map_cons, List.isEmpty_nil, List.isEmpty_cons, List.append_nil]
   rfl
 · simp -implicitDefEqProofs (disch := omega) only [Tryz.f208, go_sem, List.replicate, simprocAttr, avs]
   (repeat' (first | refine gT ?_ ?_ | refine gF ?_ ?_ | refine gC ?_ ?_ | refine And.intro (by omega) ?_ | (intro hr; have hc := hr; (try simp only [zda, zdb, zdc, zdd] at hc); simp -implicitDefEqProofs (disch := omega) only [hr, go_sem, simprocAttr]; (try clear hr))))
   · refine fin_eq ?_ (by rfl)
     have : l ≠ m := fun h => hc (by rw [h])
     rw [zf this]
   refine x_loopJ (fun (k : Nat) => [.k, .k, .k, .k, .j, .j, .k, .k, .k, .k, .k, .k, .k, .v (.i .i64 k), .j, .j, .j, .j, .j, .j, .j, .j, .j, .j, .j, .j]) (fun k => []) (fun k => k ≤ l.length ∧ ∀ j, j < k → l.getD j [] = m.getD j []) (fun k => l.length - k) (0) ⟨Nat.zero_le _, fun j h => by omega⟩ rfl (by simp [Fits]) ?_
   rintro k j ⟨hk, ha⟩
   simp -implicitDefEqProofs (disch := omega) only [go_sem, simprocAttr]
   (repeat' (first | refine gT ?_ ?_ | refine gF ?_ ?_ | refine gC ?_ ?_ | refine And.intro (by omega) ?_ | (intro hr; have hc := hr; (try simp only [zda, zdb, zdc, zdd] at hc); simp -implicitDefEqProofs (disch := omega) only [hr, go_sem, simprocAttr]; (try clear hr))))
   · refine fin_eq ?_ (by rfl)
     have : l ≠ m := fun h => by simp [h] at *
     rw [zf this]
   · exact ⟨k + 1, ⟨by omega, below_succ ha (by simpa using hc)⟩, by omega, by simp⟩
   · refine fin_eq ?_ (by rfl)
     have : l = m := same_all (by omega) (fun j hj => ha j (by omega))
     rw [zt this]
theorem nodup_no {l : List Str} {k : Nat} (hn : l.Nodup) (hk : k < l.length) : (l.take k).contains (l.getD k []) = false := by
 have : l.getD k [] ∉ l.take k := by
   intro hm
   obtain ⟨j, hj, he⟩ := List.mem_iff_getElem.1 hm

   have := (List.pairwise_iff_getElem.1 hn) j k (by simp at hj; omega) hk (by simp at hj; omega)
   simp [List.getD, hk] at he
   exact this he
 simpa using this
theorem nodup_of {l : List Str} (h : ∀ j, j < l.length → (l.take j).contains (l.getD j []) = false) : l.Nodup := by
 refine List.pairwise_iff_getElem.2 (fun i j hi hj hij he => ?_)
 have := h j hj
 have hm : l.getD j [] ∈ l.take j := by
   rw [List.mem_iff_getElem]
   exact ⟨i, by simp; omega, by simp [List.getD, hj, he]⟩
 have h2 : (l.take j).contains (l.getD j []) = true := by simpa using hm
 rw [h2] at this; cases this

def builtIns : List Str := [[97, 100, 100], [97, 110, 100], [99, 97, 116], [100, 101, 108], [100, 105, 118], [101, 113], [103, 101], [103, 101, 116], [103, 116], [104, 97, 115], [105, 115], [105, 115, 118, 97, 108, 117, 101], [106, 111, 105, 110], [107, 101, 121, 115], [108, 101], [108, 101, 110, 103, 116, 104], [108, 116], [109, 111, 100], [109, 117, 108], [110, 101], [110, 101, 103], [110, 111, 116], [111, 114], [112, 105, 99, 107], [112, 117, 116], [115, 105, 122, 101], [115, 117, 98], [116, 101, 120, 116]]

theorem persL_of : ∀ {l : List AV}, persL l = true → ∀ x ∈ l, pers x = true := by
 intro l h x hx
 obtain ⟨j, hj, rfl⟩ := List.mem_iff_getElem.1 hx
 exact persL_mem h j _ (by simp [hj])
theorem snapL {h : List AObj} {l : List AV} (hl : persL l = true) : l.map (snap dep h) = l := by
 have : l.map (snap dep h) = l.map id := List.map_congr_left (fun x hx => by rw [snap_dep, if_pos (persL_of hl x hx)]; rfl)
 rw [this, List.map_id]
theorem ctr131 (l : List Str) (f : FuncId) (a b : List AV) (p : Str → Bool) (hl : l.length ≤ 140737488355328) (ha : persL a = true) (hb : persL b = true) (hw : ∀ k, k < l.length → CT f (a ++ [.s (l.getD k [])] ++ b) (.b (p (l.getD k [])))): CT 188 [avs l, .fn f a b] (.i .i64 (idx p l)) := by
 refine sem_intro (rx := false) (th := fun _ => none) mixed Tryz.func188 rfl (by kernel_rfl) (by kernel_rfl) (ac := ?_) ?_ g0 ?_
 rotate_left
 · simp only [strip, splitQ, stripOps, stripOp, hoist, List.filter_cons, List.filter_nil, List.nil_append, List.cons_append, isFree, anyPre, Region.binds, Bool.not_true, Bool.not_false, Bool.false_eq_true, if_true, if_false, Option.isNone_none, Option.isNone_some, Bool.true_and, Bool.false_and, List.map_nil, List.map_cons, List.isEmpty_nil, List.isEmpty_cons, List.append_nil]
   rfl
 · simp -implicitDefEqProofs (disch := omega) only [Tryz.f188, go_sem, List.replicate, simprocAttr, avs]
   refine x_loopJ (fun (k : Nat) => [.k, .k, .k, .k, .j, .j, .k, .k, .v (.i .i64 k), .j, .j, .j, .j, .j, .j, .j, .j, .j, .j]) (fun k => []) (fun k => k ≤ l.length ∧ ∀ j, j < k → p (l.getD j []) = false) (fun k => l.length - k) (0) ⟨Nat.zero_le _, fun j h => by omega⟩ rfl (by simp [Fits]) ?_
   rintro k j ⟨hk, hn⟩
   simp -implicitDefEqProofs (disch := omega) only [go_sem, simprocAttr]
   (repeat' (first | refine gT ?_ ?_ | refine gF ?_ ?_ | refine gC ?_ ?_ | refine And.intro (by omega) ?_ | (intro hr; have hc := hr; (try simp only [zda, zdb, zdc, zdd] at hc); simp -implicitDefEqProofs (disch := omega) only [hr, go_sem, simprocAttr]; (try clear hr))))
   · refine c_ctrE (hw k (by omega)) ?_ ?_
     · simp -implicitDefEqProofs (disch := omega) only [List.map_append, snapL ha, snapL hb, go_sem, simprocAttr]
     · simp -implicitDefEqProofs (disch := omega) only [go_sem, simprocAttr]
       (repeat' (first | refine gT ?_ ?_ | refine gF ?_ ?_ | refine gC ?_ ?_ | refine And.intro (by omega) ?_ | (intro hr; have hc := hr; (try simp only [zda, zdb, zdc, zdd] at hc); simp -implicitDefEqProofs (disch := omega) only [hr, go_sem, simprocAttr]; (try clear hr))))
       · refine fin_eq ?_ (by rfl)
         rw [idx_some (d := []) (k := k) (by omega) hc hn]
       · exact ⟨k + 1, ⟨by omega, below_succ hn hc⟩, by omega, by simp⟩
   · refine fin_eq ?_ (by rfl)
     have h1 : k = l.length := by omega
     rw [idx_none (h1 ▸ hn)]
theorem ctr101 (l : List Str) (f : FuncId) (a b : List AV) (p : Str → Bool) (hl : l.length ≤ 140737488355328) (ha : persL a = true) (hb : persL b = true) (hw : ∀ k, k < l.length → CT f (a ++ [.s (l.getD k [])] ++ b) (.b (p (l.getD k [])))): CT 119 [avs l, .fn f a b] (.b (l.any p)) := by
 refine sem_intro (rx := false) (th := fun _ => none) mixed Tryz.func119 rfl (by kernel_rfl) (by kernel_rfl) (ac := ?_) ?_ g0 ?_
 rotate_left
 · simp only [strip, splitQ, stripOps, stripOp, hoist, List.filter_cons, List.filter_nil, List.nil_append, List.cons_append, isFree, anyPre, Region.binds, Bool.not_true, Bool.not_false, Bool.false_eq_true, if_true, if_false, Option.isNone_none, Option.isNone_some, Bool.true_and, Bool.false_and, List.map_nil, List.map_cons, List.isEmpty_nil, List.isEmpty_cons, List.append_nil]
   rfl
 · simp -implicitDefEqProofs (disch := omega) only [Tryz.f119, go_sem, List.replicate, simprocAttr, avs]
   refine c_ctrE (ctr131 l f a b p hl ha hb hw) ?_ ?_
   · simp -implicitDefEqProofs (disch := omega) only [avs, ha, hb, go_sem, simprocAttr]
   · simp -implicitDefEqProofs (disch := omega) only [go_sem, simprocAttr]
     refine fin_eq ?_ (by rfl)
     rw [idx_any]

theorem ctr102 (x : Str) (f : FuncId) (a b : List AV) (p : Bool) (ha : persL a = true) (hb : persL b = true) (hw : CT f (a ++ [.s x] ++ b) (.b p)): CT 163 [.s x, .box [.fn f a b] 0] (.b (!p)) := by
 refine sem_intro (rx := false) (th := fun _ => none) mixed Tryz.func163 rfl (by kernel_rfl) (by kernel_rfl) (ac := ?_) ?_ g0 ?_
 rotate_left
 · simp only [strip, splitQ, stripOps, stripOp, hoist, List.filter_cons, List.filter_nil, List.nil_append, List.cons_append, isFree, anyPre, Region.binds, Bool.not_true, Bool.not_false, Bool.false_eq_true, if_true, if_false, Option.isNone_none, Option.isNone_some, Bool.true_and, Bool.false_and, List.map_nil, List.map_cons, List.isEmpty_nil, List.isEmpty_cons, List.append_nil]
   rfl
 · simp -implicitDefEqProofs (disch := omega) only [Tryz.f163, go_sem, List.replicate, ↓reduceIte, reduceAdd, reduceSub, reduceMul, reduceLeDiff, reduceLT, reduceEqDiff, reduceNeg, Nat.reduceBEq]
   refine c_ctrE hw ?_ ?_
   · simp -implicitDefEqProofs (disch := omega) only [List.map_append, snapL ha, snapL hb, go_sem, ↓reduceIte, reduceAdd, reduceSub, reduceMul, reduceLeDiff, reduceLT, reduceEqDiff, reduceNeg, Nat.reduceBEq]
   · simp -implicitDefEqProofs (disch := omega) only [go_sem, ↓reduceIte, reduceAdd, reduceSub, reduceMul, reduceLeDiff, reduceLT, reduceEqDiff, reduceNeg, Nat.reduceBEq]
     refine fin_eq ?_ (by rfl)
     rfl
theorem ctr49 (l : List Str) (f : FuncId) (a b : List AV) (p : Str → Bool) (hl : l.length ≤ 140737488355328) (ha : persL a = true) (hb : persL b = true) (hw : ∀ k, k < l.length → CT f (a ++ [.s (l.getD k [])] ++ b) (.b (p (l.getD k [])))): CT 96 [avs l, .fn f a b] (.b (l.all p)) := by
 refine sem_intro (rx := false) (th := fun _ => none) mixed Tryz.func96 rfl (by kernel_rfl) (by kernel_rfl) (ac := ?_) ?_ g0 ?_
 rotate_left
 · simp only [strip, splitQ, stripOps, stripOp, hoist, List.filter_cons, List.filter_nil, List.nil_append, List.cons_append, isFree, anyPre, Region.binds, Bool.not_true, Bool.not_false, Bool.false_eq_true, if_true, if_false, Option.isNone_none, Option.isNone_some, Bool.true_and, Bool.false_and, List.map_nil, List.map_cons, List.isEmpty_nil, List.isEmpty_cons, List.append_nil]
   rfl
 · simp -implicitDefEqProofs (disch := omega) only [Tryz.f96, go_sem, List.replicate, ↓reduceIte, reduceAdd, reduceSub, reduceMul, reduceLeDiff, reduceLT, reduceEqDiff, reduceNeg, Nat.reduceBEq, avs]
   refine c_ctrE (ctr101 l 163 [] [.box [.fn f a b] 0] (fun x => !p x) hl rfl (by simp [persL, pers, ha, hb]) (fun k hk => ctr102 _ f a b _ ha hb (hw k hk))) ?_ ?_
   · simp -implicitDefEqProofs (disch := omega) only [avs, ha, hb, go_sem, ↓reduceIte, reduceAdd, reduceSub, reduceMul, reduceLeDiff, reduceLT, reduceEqDiff, reduceNeg, Nat.reduceBEq]
   · simp -implicitDefEqProofs (disch := omega) only [ha, hb, go_sem, ↓reduceIte, reduceAdd, reduceSub, reduceMul, reduceLeDiff, reduceLT, reduceEqDiff, reduceNeg, Nat.reduceBEq]
     refine fin_eq ?_ (by rfl)
     rw [List.all_eq_not_any_not]

theorem ctr46 (s : Str) (hs : s.length ≤ 140737488355328): CT 93 [.s s] (.b (isName s && !alwaysA.contains s)) := by
 refine sem_intro (rx := false) (th := fun _ => none) mixed Tryz.func93 rfl (by kernel_rfl) (by kernel_rfl) (ac := ?_) ?_ g0 ?_
 rotate_left
 · simp only [strip, splitQ, stripOps, stripOp, hoist, List.filter_cons, List.filter_nil, List.nil_append, List.cons_append, isFree, anyPre, Region.binds, Bool.not_true, Bool.not_false, Bool.false_eq_true, if_true, if_false, Option.isNone_none, Option.isNone_some, Bool.true_and, Bool.false_and, List.map_nil, List.map_cons, List.isEmpty_nil, List.isEmpty_cons, List.append_nil]
   rfl
 · simp -implicitDefEqProofs (disch := omega) only [Tryz.f93, go_sem, List.replicate, simprocAttr]
   (repeat' (first | refine gT ?_ ?_ | refine gF ?_ ?_ | refine gC ?_ ?_ | ((first | (refine c_ctrE (ctr41 s hs) ?_ ?_; (focus (simp -implicitDefEqProofs (disch := omega) only [avs, avb, avi, avo, sigCells, opCells, pairCells, go_sem, simprocAttr]; done))) | (refine c_ctrE (ctr48) ?_ ?_; (focus (simp -implicitDefEqProofs (disch := omega) only [avs, avb, avi, avo, sigCells, opCells, pairCells, go_sem, simprocAttr]; done))) | (refine c_ctrE (ctr47 alwaysA s (by decide)) ?_ ?_; (focus (simp -implicitDefEqProofs (disch := omega) only [avs, avb, avi, avo, sigCells, opCells, pairCells, go_sem, simprocAttr]; done)))); simp -implicitDefEqProofs (disch := omega) only [go_sem, simprocAttr]) | refine And.intro (by omega) ?_ | (intro hr; have hc := hr; (try simp only [zda, zdb, zdc, zdd] at hc); simp -implicitDefEqProofs (disch := omega) only [hr, go_sem, simprocAttr]; (try clear hr))))
   all_goals (refine fin_eq ?_ (by rfl))
   all_goals simp_all

theorem akeyFind_s {P : Program} {T : TypeId} (hT : P.underlying T = some .string) {x : Str} : ∀ (l : List Str), akeyFind P T (.s x) (l.map .s) = some (l.findIdx? fun y => decide (x = y))
 | [] => rfl
 | y :: l => by
   simp only [List.map_cons, akeyFind, aEq, leafEqT, hT, akeyFind_s hT l, List.findIdx?_cons]
   cases h : decide (x = y) <;> simp
theorem findIdx_no {x : Str} {l : List Str} (h : l.contains x = false) : (l.findIdx? fun y => decide (x = y)) = none := by
 rw [List.findIdx?_eq_none_iff]
 intro y hy
 have : x ∉ l := by simpa using h
 simp only [decide_eq_false_iff_not]
 exact fun he => this (he ▸ hy)
theorem key9 (x : Str) (l : List Str) : akeyFind Tryz.prog 9 (.s x) (l.map .s) = some (l.findIdx? fun y => decide (x = y)) := akeyFind_s un9 l
theorem findIdx_yes {x : Str} {l : List Str} (h : l.contains x = true) : ∃ i, i < l.length ∧ (l.findIdx? fun y => decide (x = y)) = some i := by
 cases hf : l.findIdx? fun y => decide (x = y) with
 | none =>
   rw [List.findIdx?_eq_none_iff] at hf
   have hm : x ∈ l := by simpa using h
   have := hf x hm
   simp at this
 | some i =>
   rw [List.findIdx?_eq_some_iff_getElem] at hf
   exact ⟨i, hf.1, rfl⟩
theorem take_next {l : List Str} {k : Nat} (h : k < l.length) : l.take (k + 1) = l.take k ++ [l.getD k []] := by
 rw [List.take_succ_eq_append_getElem h]; simp [List.getD, h]
theorem rep_get {n i : Nat} {a : AV} (h : i < n) : (List.replicate n a)[i]? = some a := by simp [h]
theorem ctr45 (l : List Str) (hl : l.length ≤ 140737488355328): CT 92 [avs l] (.b (decide l.Nodup)) := by
 refine sem_intro (rx := false) (th := fun _ => none) mixed Tryz.func92 rfl (by kernel_rfl) (by kernel_rfl) (ac := ?_) ?_ g0 ?_
 rotate_left
 · simp only [strip, splitQ, stripOps, stripOp, hoist, List.filter_cons, List.filter_nil, List.nil_append, List.cons_append, isFree, anyPre, Region.binds, Bool.not_true, Bool.not_false, Bool.false_eq_true, if_true, if_false, Option.isNone_none, Option.isNone_some, Bool.true_and, Bool.false_and, List.map_nil, List.map_cons, List.isEmpty_nil, List.isEmpty_cons, List.append_nil]
   rfl
 · simp -implicitDefEqProofs (disch := omega) only [Tryz.f92, go_sem, List.replicate, simprocAttr, avs]
   refine x_loopJ (fun (k : Nat) => [.k, .k, .j, .k, .k, .j, .k, .k, .k, .v (.i .i64 k), .j, .j, .j, .j, .j, .j, .j, .j, .j]) (fun k => [.map false ((l.take k).map .s) (List.replicate k (.b true))]) (fun k => k ≤ l.length ∧ ∀ j, j < k → (l.take j).contains (l.getD j []) = false) (fun k => l.length - k) (0) ⟨Nat.zero_le _, fun j h => by omega⟩ rfl (by simp [Fits]) ?_
   rintro k j ⟨hk, ha⟩
   simp -implicitDefEqProofs (disch := omega) only [go_sem, simprocAttr]
   (repeat' (first | refine gT ?_ ?_ | refine gF ?_ ?_ | refine gC ?_ ?_ | refine And.intro (by omega) ?_ | (intro hr; have hc := hr; (try simp only [zda, zdb, zdc, zdd] at hc); simp -implicitDefEqProofs (disch := omega) only [hr, go_sem, simprocAttr]; (try clear hr))))
   · by_cases hx : (l.take k).contains (l.getD k []) = true
     · obtain ⟨i, hi, hf⟩ := findIdx_yes hx
       have hi' : i < k := by simp at hi; omega
       simp -implicitDefEqProofs (disch := omega) only [keyOK, key9, hf, rep_get hi', go_sem, simprocAttr]
       refine fin_eq ?_ (by rfl)
       rw [zf (fun hn => by rw [nodup_no hn (by omega)] at hx; cases hx)]
     · have hx := Bool.eq_false_iff.2 hx
       simp -implicitDefEqProofs (disch := omega) only [keyOK, key9, findIdx_no hx, go_sem, simprocAttr]
       refine ⟨k + 1, ⟨by omega, below_succ ha hx⟩, by omega, ?_, by simp⟩
       rw [take_next (by omega), List.map_append, List.replicate_succ']; rfl
   · refine fin_eq ?_ (by rfl)
     have h1 : k = l.length := by omega
     rw [zt (nodup_of (h1 ▸ ha))]

def elB (x : Str × Str) : AV := .agg (pairCells x)
def elO (x : LOp) : AV := .agg (opCells x)
attribute [go_sem] elB elO
theorem ctr133 (l : List (Str × Str)) (f : FuncId) (a b : List AV) (p : Str × Str → Bool) (hl : l.length ≤ 140737488355328) (ha : persL a = true) (hb : persL b = true) (hw : ∀ k, k < l.length → CT f (a ++ [elB (l.getD k ([], []))] ++ b) (.b (p (l.getD k ([], []))))): CT 202 [avb l, .fn f a b] (.i .i64 (idx p l)) := by
 refine sem_intro (rx := false) (th := fun _ => none) mixed Tryz.func202 rfl (by kernel_rfl) (by kernel_rfl) (ac := ?_) ?_ g0 ?_
 rotate_left
 · simp only [strip, splitQ, stripOps, stripOp, hoist, List.filter_cons, List.filter_nil, List.nil_append, List.cons_append, isFree, anyPre, Region.binds, Bool.not_true, Bool.not_false, Bool.false_eq_true, if_true, if_false, Option.isNone_none, Option.isNone_some, Bool.true_and, Bool.false_and, List.map_nil, List.map_cons, List.isEmpty_nil, List.isEmpty_cons, List.append_nil]
   rfl
 · simp -implicitDefEqProofs (disch := omega) only [Tryz.f202, go_sem, List.replicate, simprocAttr]
   refine x_loopJ (fun (k : Nat) => [.k, .k, .k, .k, .j, .j, .k, .k, .v (.i .i64 k), .j, .j, .j, .j, .j, .j, .j, .j, .j, .j]) (fun k => []) (fun k => k ≤ l.length ∧ ∀ j, j < k → p (l.getD j ([], [])) = false) (fun k => l.length - k) (0) ⟨Nat.zero_le _, fun j h => by omega⟩ rfl (by simp [Fits]) ?_
   rintro k j ⟨hk, hn⟩
   simp -implicitDefEqProofs (disch := omega) only [go_sem, simprocAttr]
   (repeat' (first | refine gT ?_ ?_ | refine gF ?_ ?_ | refine gC ?_ ?_ | refine And.intro (by omega) ?_ | (intro hr; have hc := hr; (try simp only [zda, zdb, zdc, zdd] at hc); simp -implicitDefEqProofs (disch := omega) only [hr, go_sem, simprocAttr]; (try clear hr))))
   · refine c_ctrE (hw k (by omega)) ?_ ?_
     · simp -implicitDefEqProofs (disch := omega) only [List.map_append, snapL ha, snapL hb, go_sem, simprocAttr]
     · simp -implicitDefEqProofs (disch := omega) only [go_sem, simprocAttr]
       (repeat' (first | refine gT ?_ ?_ | refine gF ?_ ?_ | refine gC ?_ ?_ | refine And.intro (by omega) ?_ | (intro hr; have hc := hr; (try simp only [zda, zdb, zdc, zdd] at hc); simp -implicitDefEqProofs (disch := omega) only [hr, go_sem, simprocAttr]; (try clear hr))))
       · refine fin_eq ?_ (by rfl)
         rw [idx_some (d := ([], [])) (k := k) (by omega) hc hn]
       · exact ⟨k + 1, ⟨by omega, below_succ hn hc⟩, by omega, by simp⟩
   · refine fin_eq ?_ (by rfl)
     have h1 : k = l.length := by omega
     rw [idx_none (h1 ▸ hn)]
theorem ctr134 (l : List (LOp)) (f : FuncId) (a b : List AV) (p : LOp → Bool) (hl : l.length ≤ 140737488355328) (ha : persL a = true) (hb : persL b = true) (hw : ∀ k, k < l.length → CT f (a ++ [elO (l.getD k default)] ++ b) (.b (p (l.getD k default)))): CT 203 [avo l, .fn f a b] (.i .i64 (idx p l)) := by
 refine sem_intro (rx := false) (th := fun _ => none) mixed Tryz.func203 rfl (by kernel_rfl) (by kernel_rfl) (ac := ?_) ?_ g0 ?_
 rotate_left
 · simp only [strip, splitQ, stripOps, stripOp, hoist, List.filter_cons, List.filter_nil, List.nil_append, List.cons_append, isFree, anyPre, Region.binds, Bool.not_true, Bool.not_false, Bool.false_eq_true, if_true, if_false, Option.isNone_none, Option.isNone_some, Bool.true_and, Bool.false_and, List.map_nil, List.map_cons, List.isEmpty_nil, List.isEmpty_cons, List.append_nil]
   rfl
 · simp -implicitDefEqProofs (disch := omega) only [Tryz.f203, go_sem, List.replicate, simprocAttr]
   refine x_loopJ (fun (k : Nat) => [.k, .k, .k, .k, .j, .j, .k, .k, .v (.i .i64 k), .j, .j, .j, .j, .j, .j, .j, .j, .j, .j]) (fun k => []) (fun k => k ≤ l.length ∧ ∀ j, j < k → p (l.getD j default) = false) (fun k => l.length - k) (0) ⟨Nat.zero_le _, fun j h => by omega⟩ rfl (by simp [Fits]) ?_
   rintro k j ⟨hk, hn⟩
   simp -implicitDefEqProofs (disch := omega) only [go_sem, simprocAttr]
   (repeat' (first | refine gT ?_ ?_ | refine gF ?_ ?_ | refine gC ?_ ?_ | refine And.intro (by omega) ?_ | (intro hr; have hc := hr; (try simp only [zda, zdb, zdc, zdd] at hc); simp -implicitDefEqProofs (disch := omega) only [hr, go_sem, simprocAttr]; (try clear hr))))
   · refine c_ctrE (hw k (by omega)) ?_ ?_
     · simp -implicitDefEqProofs (disch := omega) only [List.map_append, snapL ha, snapL hb, go_sem, simprocAttr]
     · simp -implicitDefEqProofs (disch := omega) only [go_sem, simprocAttr]
       (repeat' (first | refine gT ?_ ?_ | refine gF ?_ ?_ | refine gC ?_ ?_ | refine And.intro (by omega) ?_ | (intro hr; have hc := hr; (try simp only [zda, zdb, zdc, zdd] at hc); simp -implicitDefEqProofs (disch := omega) only [hr, go_sem, simprocAttr]; (try clear hr))))
       · refine fin_eq ?_ (by rfl)
         rw [idx_some (d := default) (k := k) (by omega) hc hn]
       · exact ⟨k + 1, ⟨by omega, below_succ hn hc⟩, by omega, by simp⟩
   · refine fin_eq ?_ (by rfl)
     have h1 : k = l.length := by omega
     rw [idx_none (h1 ▸ hn)]
theorem ctr146 (l : List (Int)) (f : FuncId) (a b : List AV) (p : Int → Bool) (hl : l.length ≤ 140737488355328) (ha : persL a = true) (hb : persL b = true) (hw : ∀ k, k < l.length → CT f (a ++ [.i .i64 (l.getD k 0)] ++ b) (.b (p (l.getD k 0)))): CT 230 [avi l, .fn f a b] (.i .i64 (idx p l)) := by
 refine sem_intro (rx := false) (th := fun _ => none) mixed Tryz.func230 rfl (by kernel_rfl) (by kernel_rfl) (ac := ?_) ?_ g0 ?_
 rotate_left
 · simp only [strip, splitQ, stripOps, stripOp, hoist, List.filter_cons, List.filter_nil, List.nil_append, List.cons_append, isFree, anyPre, Region.binds, Bool.not_true, Bool.not_false, Bool.false_eq_true, if_true, if_false, Option.isNone_none, Option.isNone_some, Bool.true_and, Bool.false_and, List.map_nil, List.map_cons, List.isEmpty_nil, List.isEmpty_cons, List.append_nil]
   rfl
 · simp -implicitDefEqProofs (disch := omega) only [Tryz.f230, go_sem, List.replicate, simprocAttr]
   refine x_loopJ (fun (k : Nat) => [.k, .k, .k, .k, .j, .j, .k, .k, .v (.i .i64 k), .j, .j, .j, .j, .j, .j, .j, .j, .j, .j]) (fun k => []) (fun k => k ≤ l.length ∧ ∀ j, j < k → p (l.getD j 0) = false) (fun k => l.length - k) (0) ⟨Nat.zero_le _, fun j h => by omega⟩ rfl (by simp [Fits]) ?_
   rintro k j ⟨hk, hn⟩
   simp -implicitDefEqProofs (disch := omega) only [go_sem, simprocAttr]
   (repeat' (first | refine gT ?_ ?_ | refine gF ?_ ?_ | refine gC ?_ ?_ | refine And.intro (by omega) ?_ | (intro hr; have hc := hr; (try simp only [zda, zdb, zdc, zdd] at hc); simp -implicitDefEqProofs (disch := omega) only [hr, go_sem, simprocAttr]; (try clear hr))))
   · refine c_ctrE (hw k (by omega)) ?_ ?_
     · simp -implicitDefEqProofs (disch := omega) only [List.map_append, snapL ha, snapL hb, go_sem, simprocAttr]
     · simp -implicitDefEqProofs (disch := omega) only [go_sem, simprocAttr]
       (repeat' (first | refine gT ?_ ?_ | refine gF ?_ ?_ | refine gC ?_ ?_ | refine And.intro (by omega) ?_ | (intro hr; have hc := hr; (try simp only [zda, zdb, zdc, zdd] at hc); simp -implicitDefEqProofs (disch := omega) only [hr, go_sem, simprocAttr]; (try clear hr))))
       · refine fin_eq ?_ (by rfl)
         rw [idx_some (d := 0) (k := k) (by omega) hc hn]
       · exact ⟨k + 1, ⟨by omega, below_succ hn hc⟩, by omega, by simp⟩
   · refine fin_eq ?_ (by rfl)
     have h1 : k = l.length := by omega
     rw [idx_none (h1 ▸ hn)]

theorem ctr105 (l : List (Str × Str)) (f : FuncId) (a b : List AV) (p : Str × Str → Bool) (hl : l.length ≤ 140737488355328) (ha : persL a = true) (hb : persL b = true) (hw : ∀ k, k < l.length → CT f (a ++ [elB (l.getD k ([], []))] ++ b) (.b (p (l.getD k ([], []))))): CT 164 [avb l, .fn f a b] (.b (l.any p)) := by
 refine sem_intro (rx := false) (th := fun _ => none) mixed Tryz.func164 rfl (by kernel_rfl) (by kernel_rfl) (ac := ?_) ?_ g0 ?_
 rotate_left
 · simp only [strip, splitQ, stripOps, stripOp, hoist, List.filter_cons, List.filter_nil, List.nil_append, List.cons_append, isFree, anyPre, Region.binds, Bool.not_true, Bool.not_false, Bool.false_eq_true, if_true, if_false, Option.isNone_none, Option.isNone_some, Bool.true_and, Bool.false_and, List.map_nil, List.map_cons, List.isEmpty_nil, List.isEmpty_cons, List.append_nil]
   rfl
 · simp -implicitDefEqProofs (disch := omega) only [Tryz.f164, go_sem, List.replicate, simprocAttr]
   refine c_ctrE (ctr133 l f a b p hl ha hb hw) ?_ ?_
   · simp -implicitDefEqProofs (disch := omega) only [ha, hb, go_sem, simprocAttr]
   · simp -implicitDefEqProofs (disch := omega) only [go_sem, simprocAttr]
     refine fin_eq ?_ (by rfl)
     rw [idx_any]
theorem ctr107 (l : List (LOp)) (f : FuncId) (a b : List AV) (p : LOp → Bool) (hl : l.length ≤ 140737488355328) (ha : persL a = true) (hb : persL b = true) (hw : ∀ k, k < l.length → CT f (a ++ [elO (l.getD k default)] ++ b) (.b (p (l.getD k default)))): CT 166 [avo l, .fn f a b] (.b (l.any p)) := by
 refine sem_intro (rx := false) (th := fun _ => none) mixed Tryz.func166 rfl (by kernel_rfl) (by kernel_rfl) (ac := ?_) ?_ g0 ?_
 rotate_left
 · simp only [strip, splitQ, stripOps, stripOp, hoist, List.filter_cons, List.filter_nil, List.nil_append, List.cons_append, isFree, anyPre, Region.binds, Bool.not_true, Bool.not_false, Bool.false_eq_true, if_true, if_false, Option.isNone_none, Option.isNone_some, Bool.true_and, Bool.false_and, List.map_nil, List.map_cons, List.isEmpty_nil, List.isEmpty_cons, List.append_nil]
   rfl
 · simp -implicitDefEqProofs (disch := omega) only [Tryz.f166, go_sem, List.replicate, simprocAttr]
   refine c_ctrE (ctr134 l f a b p hl ha hb hw) ?_ ?_
   · simp -implicitDefEqProofs (disch := omega) only [ha, hb, go_sem, simprocAttr]
   · simp -implicitDefEqProofs (disch := omega) only [go_sem, simprocAttr]
     refine fin_eq ?_ (by rfl)
     rw [idx_any]
theorem ctr135 (l : List (Int)) (f : FuncId) (a b : List AV) (p : Int → Bool) (hl : l.length ≤ 140737488355328) (ha : persL a = true) (hb : persL b = true) (hw : ∀ k, k < l.length → CT f (a ++ [.i .i64 (l.getD k 0)] ++ b) (.b (p (l.getD k 0)))): CT 205 [avi l, .fn f a b] (.b (l.any p)) := by
 refine sem_intro (rx := false) (th := fun _ => none) mixed Tryz.func205 rfl (by kernel_rfl) (by kernel_rfl) (ac := ?_) ?_ g0 ?_
 rotate_left
 · simp only [strip, splitQ, stripOps, stripOp, hoist, List.filter_cons, List.filter_nil, List.nil_append, List.cons_append, isFree, anyPre, Region.binds, Bool.not_true, Bool.not_false, Bool.false_eq_true, if_true, if_false, Option.isNone_none, Option.isNone_some, Bool.true_and, Bool.false_and, List.map_nil, List.map_cons, List.isEmpty_nil, List.isEmpty_cons, List.append_nil]
   rfl
 · simp -implicitDefEqProofs (disch := omega) only [Tryz.f205, go_sem, List.replicate, simprocAttr]
   refine c_ctrE (ctr146 l f a b p hl ha hb hw) ?_ ?_
   · simp -implicitDefEqProofs (disch := omega) only [ha, hb, go_sem, simprocAttr]
   · simp -implicitDefEqProofs (disch := omega) only [go_sem, simprocAttr]
     refine fin_eq ?_ (by rfl)
     rw [idx_any]

theorem ctr106 (x : Str × Str) (f : FuncId) (a b : List AV) (p : Bool) (ha : persL a = true) (hb : persL b = true) (hw : CT f (a ++ [elB x] ++ b) (.b p)): CT 165 [elB x, .box [.fn f a b] 0] (.b (!p)) := by
 refine sem_intro (rx := false) (th := fun _ => none) mixed Tryz.func165 rfl (by kernel_rfl) (by kernel_rfl) (ac := ?_) ?_ g0 ?_
 rotate_left
 · simp only [strip, splitQ, stripOps, stripOp, hoist, List.filter_cons, List.filter_nil, List.nil_append, List.cons_append, isFree, anyPre, Region.binds, Bool.not_true, Bool.not_false, Bool.false_eq_true, if_true, if_false, Option.isNone_none, Option.isNone_some, Bool.true_and, Bool.false_and, List.map_nil, List.map_cons, List.isEmpty_nil, List.isEmpty_cons, List.append_nil]
   rfl
 · simp -implicitDefEqProofs (disch := omega) only [Tryz.f165, go_sem, List.replicate, simprocAttr]
   refine c_ctrE hw ?_ ?_
   · simp -implicitDefEqProofs (disch := omega) only [List.map_append, snapL ha, snapL hb, go_sem, simprocAttr]
   · simp -implicitDefEqProofs (disch := omega) only [go_sem, simprocAttr]
     refine fin_eq ?_ (by rfl)
     rfl
theorem ctr108 (x : LOp) (f : FuncId) (a b : List AV) (p : Bool) (ha : persL a = true) (hb : persL b = true) (hw : CT f (a ++ [elO x] ++ b) (.b p)): CT 167 [elO x, .box [.fn f a b] 0] (.b (!p)) := by
 refine sem_intro (rx := false) (th := fun _ => none) mixed Tryz.func167 rfl (by kernel_rfl) (by kernel_rfl) (ac := ?_) ?_ g0 ?_
 rotate_left
 · simp only [strip, splitQ, stripOps, stripOp, hoist, List.filter_cons, List.filter_nil, List.nil_append, List.cons_append, isFree, anyPre, Region.binds, Bool.not_true, Bool.not_false, Bool.false_eq_true, if_true, if_false, Option.isNone_none, Option.isNone_some, Bool.true_and, Bool.false_and, List.map_nil, List.map_cons, List.isEmpty_nil, List.isEmpty_cons, List.append_nil]
   rfl
 · simp -implicitDefEqProofs (disch := omega) only [Tryz.f167, go_sem, List.replicate, simprocAttr]
   refine c_ctrE hw ?_ ?_
   · simp -implicitDefEqProofs (disch := omega) only [List.map_append, snapL ha, snapL hb, go_sem, simprocAttr]
   · simp -implicitDefEqProofs (disch := omega) only [go_sem, simprocAttr]
     refine fin_eq ?_ (by rfl)
     rfl
theorem ctr136 (x : Int) (f : FuncId) (a b : List AV) (p : Bool) (ha : persL a = true) (hb : persL b = true) (hw : CT f (a ++ [.i .i64 x] ++ b) (.b p)): CT 206 [.i .i64 x, .box [.fn f a b] 0] (.b (!p)) := by
 refine sem_intro (rx := false) (th := fun _ => none) mixed Tryz.func206 rfl (by kernel_rfl) (by kernel_rfl) (ac := ?_) ?_ g0 ?_
 rotate_left
 · simp only [strip, splitQ, stripOps, stripOp, hoist, List.filter_cons, List.filter_nil, List.nil_append, List.cons_append, isFree, anyPre, Region.binds, Bool.not_true, Bool.not_false, Bool.false_eq_true, if_true, if_false, Option.isNone_none, Option.isNone_some, Bool.true_and, Bool.false_and, List.map_nil, List.map_cons, List.isEmpty_nil, List.isEmpty_cons, List.append_nil]
   rfl
 · simp -implicitDefEqProofs (disch := omega) only [Tryz.f206, go_sem, List.replicate, simprocAttr]
   refine c_ctrE hw ?_ ?_
   · simp -implicitDefEqProofs (disch := omega) only [List.map_append, snapL ha, snapL hb, go_sem, simprocAttr]
   · simp -implicitDefEqProofs (disch := omega) only [go_sem, simprocAttr]
     refine fin_eq ?_ (by rfl)
     rfl

theorem ctr52 (l : List (Str × Str)) (f : FuncId) (a b : List AV) (p : Str × Str → Bool) (hl : l.length ≤ 140737488355328) (ha : persL a = true) (hb : persL b = true) (hw : ∀ k, k < l.length → CT f (a ++ [elB (l.getD k ([], []))] ++ b) (.b (p (l.getD k ([], []))))): CT 98 [avb l, .fn f a b] (.b (l.all p)) := by
 refine sem_intro (rx := false) (th := fun _ => none) mixed Tryz.func98 rfl (by kernel_rfl) (by kernel_rfl) (ac := ?_) ?_ g0 ?_
 rotate_left
 · simp only [strip, splitQ, stripOps, stripOp, hoist, List.filter_cons, List.filter_nil, List.nil_append, List.cons_append, isFree, anyPre, Region.binds, Bool.not_true, Bool.not_false, Bool.false_eq_true, if_true, if_false, Option.isNone_none, Option.isNone_some, Bool.true_and, Bool.false_and, List.map_nil, List.map_cons, List.isEmpty_nil, List.isEmpty_cons, List.append_nil]
   rfl
 · simp -implicitDefEqProofs (disch := omega) only [Tryz.f98, go_sem, List.replicate, simprocAttr]
   refine c_ctrE (ctr105 l 165 [] [.box [.fn f a b] 0] (fun x => !p x) hl rfl (by simp [persL, pers, ha, hb]) (fun k hk => ctr106 _ f a b _ ha hb (hw k hk))) ?_ ?_
   · simp -implicitDefEqProofs (disch := omega) only [ha, hb, go_sem, simprocAttr]
   · simp -implicitDefEqProofs (disch := omega) only [ha, hb, go_sem, simprocAttr]
     refine fin_eq ?_ (by rfl)
     rw [List.all_eq_not_any_not]
theorem ctr55 (l : List (LOp)) (f : FuncId) (a b : List AV) (p : LOp → Bool) (hl : l.length ≤ 140737488355328) (ha : persL a = true) (hb : persL b = true) (hw : ∀ k, k < l.length → CT f (a ++ [elO (l.getD k default)] ++ b) (.b (p (l.getD k default)))): CT 101 [avo l, .fn f a b] (.b (l.all p)) := by
 refine sem_intro (rx := false) (th := fun _ => none) mixed Tryz.func101 rfl (by kernel_rfl) (by kernel_rfl) (ac := ?_) ?_ g0 ?_
 rotate_left
 · simp only [strip, splitQ, stripOps, stripOp, hoist, List.filter_cons, List.filter_nil, List.nil_append, List.cons_append, isFree, anyPre, Region.binds, Bool.not_true, Bool.not_false, Bool.false_eq_true, if_true, if_false, Option.isNone_none, Option.isNone_some, Bool.true_and, Bool.false_and, List.map_nil, List.map_cons, List.isEmpty_nil, List.isEmpty_cons, List.append_nil]
   rfl
 · simp -implicitDefEqProofs (disch := omega) only [Tryz.f101, go_sem, List.replicate, simprocAttr]
   refine c_ctrE (ctr107 l 167 [] [.box [.fn f a b] 0] (fun x => !p x) hl rfl (by simp [persL, pers, ha, hb]) (fun k hk => ctr108 _ f a b _ ha hb (hw k hk))) ?_ ?_
   · simp -implicitDefEqProofs (disch := omega) only [ha, hb, go_sem, simprocAttr]
   · simp -implicitDefEqProofs (disch := omega) only [ha, hb, go_sem, simprocAttr]
     refine fin_eq ?_ (by rfl)
     rw [List.all_eq_not_any_not]
theorem ctr111 (l : List (Int)) (f : FuncId) (a b : List AV) (p : Int → Bool) (hl : l.length ≤ 140737488355328) (ha : persL a = true) (hb : persL b = true) (hw : ∀ k, k < l.length → CT f (a ++ [.i .i64 (l.getD k 0)] ++ b) (.b (p (l.getD k 0)))): CT 170 [avi l, .fn f a b] (.b (l.all p)) := by
 refine sem_intro (rx := false) (th := fun _ => none) mixed Tryz.func170 rfl (by kernel_rfl) (by kernel_rfl) (ac := ?_) ?_ g0 ?_
 rotate_left
 · simp only [strip, splitQ, stripOps, stripOp, hoist, List.filter_cons, List.filter_nil, List.nil_append, List.cons_append, isFree, anyPre, Region.binds, Bool.not_true, Bool.not_false, Bool.false_eq_true, if_true, if_false, Option.isNone_none, Option.isNone_some, Bool.true_and, Bool.false_and, List.map_nil, List.map_cons, List.isEmpty_nil, List.isEmpty_cons, List.append_nil]
   rfl
 · simp -implicitDefEqProofs (disch := omega) only [Tryz.f170, go_sem, List.replicate, simprocAttr]
   refine c_ctrE (ctr135 l 206 [] [.box [.fn f a b] 0] (fun x => !p x) hl rfl (by simp [persL, pers, ha, hb]) (fun k hk => ctr136 _ f a b _ ha hb (hw k hk))) ?_ ?_
   · simp -implicitDefEqProofs (disch := omega) only [ha, hb, go_sem, simprocAttr]
   · simp -implicitDefEqProofs (disch := omega) only [ha, hb, go_sem, simprocAttr]
     refine fin_eq ?_ (by rfl)
     rw [List.all_eq_not_any_not]

theorem akeyFind_of {α : Type} [DecidableEq α] {P : Program} {T : TypeId} {el : α → AV} (hT : ∀ x y, aEq P T (el x) (el y) = some (decide (x = y))) {x : α} : ∀ (l : List α), akeyFind P T (el x) (l.map el) = some (l.findIdx? fun y => decide (x = y))
 | [] => rfl
 | y :: l => by
   simp only [List.map_cons, akeyFind, hT, akeyFind_of hT l, List.findIdx?_cons]
   cases h : decide (x = y) <;> simp
theorem keyB (x : Str × Str) (l : List (Str × Str)) : akeyFind Tryz.prog 100 (elB x) (l.map elB) = some (l.findIdx? fun y => decide (x = y)) := akeyFind_of (fun x y => by
 simp only [elB, pairCells, aEq, lf100, leavesEq, leafEqT, un9, Option.some.injEq]
 rw [Bool.eq_iff_iff]; simp [Prod.ext_iff]) l
theorem keyI (x : Int) (l : List Int) : akeyFind Tryz.prog 3 (.i .i64 x) (l.map (.i .i64)) = some (l.findIdx? fun y => decide (x = y)) := akeyFind_of (fun x y => by
 simp [aEq, leafEqT, un3]) l
theorem findIdx_noG {α : Type} [BEq α] [LawfulBEq α] [DecidableEq α] {x : α} {l : List α} (h : l.contains x = false) : (l.findIdx? fun y => decide (x = y)) = none := by
 rw [List.findIdx?_eq_none_iff]
 intro y hy
 have : x ∉ l := by simpa using h
 simp only [decide_eq_false_iff_not]
 exact fun he => this (he ▸ hy)
theorem findIdx_yesG {α : Type} [BEq α] [LawfulBEq α] [DecidableEq α] {x : α} {l : List α} (h : l.contains x = true) : ∃ i, i < l.length ∧ (l.findIdx? fun y => decide (x = y)) = some i := by
 cases hf : l.findIdx? fun y => decide (x = y) with
 | none =>
   rw [List.findIdx?_eq_none_iff] at hf
   have hm : x ∈ l := by simpa using h
   have := hf x hm
   simp at this
 | some i =>
   rw [List.findIdx?_eq_some_iff_getElem] at hf
   exact ⟨i, hf.1, rfl⟩
theorem nodup_noG {α : Type} [BEq α] [LawfulBEq α] [DecidableEq α] {l : List α} {k : Nat} {d : α} (hn : l.Nodup) (hk : k < l.length) : (l.take k).contains (l.getD k d) = false := by
 have : l.getD k d ∉ l.take k := by
   intro hm
   obtain ⟨j, hj, he⟩ := List.mem_iff_getElem.1 hm
   have := (List.pairwise_iff_getElem.1 hn) j k (by simp at hj; omega) hk (by simp at hj; omega)
   simp [List.getD, hk] at he
   exact this he
 simpa using this
theorem nodup_ofG {α : Type} [BEq α] [LawfulBEq α] [DecidableEq α] {l : List α} {d : α} (h : ∀ j, j < l.length → (l.take j).contains (l.getD j d) = false) : l.Nodup := by
 refine List.pairwise_iff_getElem.2 (fun i j hi hj hij he => ?_)
 have := h j hj
 have hm : l.getD j d ∈ l.take j := by
   rw [List.mem_iff_getElem]
   exact ⟨i, by simp; omega, by simp [List.getD, hj, he]⟩
 have h2 : (l.take j).contains (l.getD j d) = true := by simpa using hm
 rw [h2] at this; cases this

theorem ctr44 (l : List (Str × Str)) (hl : l.length ≤ 140737488355328): CT 91 [avb l] (.b (decide l.Nodup)) := by
 refine sem_intro (rx := false) (th := fun _ => none) mixed Tryz.func91 rfl (by kernel_rfl) (by kernel_rfl) (ac := ?_) ?_ g0 ?_
 rotate_left
 · simp only [strip, splitQ, stripOps, stripOp, hoist, List.filter_cons, List.filter_nil, List.nil_append, List.cons_append, isFree, anyPre, Region.binds, Bool.not_true, Bool.not_false, Bool.false_eq_true, if_true, if_false, Option.isNone_none, Option.isNone_some, Bool.true_and, Bool.false_and, List.map_nil, List.map_cons, List.isEmpty_nil, List.isEmpty_cons, List.append_nil]
   rfl
 · simp -implicitDefEqProofs (disch := omega) only [Tryz.f91, go_sem, List.replicate, ↓reduceIte, reduceAdd, reduceSub, reduceMul, reduceLeDiff, reduceLT, reduceEqDiff, reduceNeg, Nat.reduceBEq]
   refine x_loopG (fun (k : Nat) => [.k, .k, .j, .k, .k, .j, .k, .k, .k, .v (.i .i64 k), .j, .j, .j, .j, .j, .j, .j, .j, .j]) (fun k => [.map false ((l.take k).map elB) (List.replicate k (.b true))]) (fun k => k ≤ l.length ∧ ∀ j, j < k → (l.take j).contains (l.getD j ([], [])) = false) (fun k => l.length - k) (0) _ ⟨Nat.zero_le _, fun j h => by omega⟩ rfl (by simp [Fits]) ?_
   rintro k g j ⟨hk, ha⟩
   simp -implicitDefEqProofs (disch := omega) only [go_sem, ↓reduceIte, reduceAdd, reduceSub, reduceMul, reduceLeDiff, reduceLT, reduceEqDiff, reduceNeg, Nat.reduceBEq]
   (repeat' (first | refine gT ?_ ?_ | refine gF ?_ ?_ | refine gC ?_ ?_ | refine And.intro (by omega) ?_ | (intro hr; have hc := hr; (try simp only [zda, zdb, zdc, zdd] at hc); simp -implicitDefEqProofs (disch := omega) only [hr, go_sem, ↓reduceIte, reduceAdd, reduceSub, reduceMul, reduceLeDiff, reduceLT, reduceEqDiff, reduceNeg, Nat.reduceBEq]; (try clear hr))))
   · by_cases hx : (l.take k).contains (l.getD k ([], [])) = true
     · obtain ⟨i, hi, hf⟩ := findIdx_yesG hx
       have hi' : i < k := by simp at hi; omega
       have hk2 := keyB (l.getD k ([], [])) (l.take k)
       simp only [elB, pairCells] at hk2
       simp -implicitDefEqProofs (disch := omega) only [keyOK, hk2, hf, rep_get hi', go_sem, ↓reduceIte, reduceAdd, reduceSub, reduceMul, reduceLeDiff, reduceLT, reduceEqDiff, reduceNeg, Nat.reduceBEq]
       refine fin_eq ?_ (by rfl)
       rw [zf (fun hn => by rw [nodup_noG hn (by omega)] at hx; cases hx)]
     · have hx := Bool.eq_false_iff.2 hx
       have hk2 := keyB (l.getD k ([], [])) (l.take k)
       simp only [elB, pairCells] at hk2
       simp -implicitDefEqProofs (disch := omega) only [keyOK, hk2, findIdx_noG hx, go_sem, ↓reduceIte, reduceAdd, reduceSub, reduceMul, reduceLeDiff, reduceLT, reduceEqDiff, reduceNeg, Nat.reduceBEq]
       refine ⟨k + 1, _, ⟨by omega, below_succ ha hx⟩, by omega, congr (congrArg List.cons ?_) rfl, by simp⟩
       rw [take_getD (d := ([], [])) (by omega), List.map_append, List.replicate_succ']; rfl
   · refine fin_eq ?_ (by rfl)
     have h1 : k = l.length := by omega
     rw [zt (nodup_ofG (h1 ▸ ha))]
theorem ctr112 (l : List Int) (hl : l.length ≤ 140737488355328): CT 171 [avi l] (.b (decide l.Nodup)) := by
 refine sem_intro (rx := false) (th := fun _ => none) mixed Tryz.func171 rfl (by kernel_rfl) (by kernel_rfl) (ac := ?_) ?_ g0 ?_
 rotate_left
 · simp only [strip, splitQ, stripOps, stripOp, hoist, List.filter_cons, List.filter_nil, List.nil_append, List.cons_append, isFree, anyPre, Region.binds, Bool.not_true, Bool.not_false, Bool.false_eq_true, if_true, if_false, Option.isNone_none, Option.isNone_some, Bool.true_and, Bool.false_and, List.map_nil, List.map_cons, List.isEmpty_nil, List.isEmpty_cons, List.append_nil]
   rfl
 · simp -implicitDefEqProofs (disch := omega) only [Tryz.f171, go_sem, List.replicate, ↓reduceIte, reduceAdd, reduceSub, reduceMul, reduceLeDiff, reduceLT, reduceEqDiff, reduceNeg, Nat.reduceBEq]
   refine x_loopJ (fun (k : Nat) => [.k, .k, .j, .k, .k, .j, .k, .k, .k, .v (.i .i64 k), .j, .j, .j, .j, .j, .j, .j, .j, .j]) (fun k => [.map false ((l.take k).map (.i .i64)) (List.replicate k (.b true))]) (fun k => k ≤ l.length ∧ ∀ j, j < k → (l.take j).contains (l.getD j 0) = false) (fun k => l.length - k) (0) ⟨Nat.zero_le _, fun j h => by omega⟩ rfl (by simp [Fits]) ?_
   rintro k j ⟨hk, ha⟩
   simp -implicitDefEqProofs (disch := omega) only [go_sem, ↓reduceIte, reduceAdd, reduceSub, reduceMul, reduceLeDiff, reduceLT, reduceEqDiff, reduceNeg, Nat.reduceBEq]
   (repeat' (first | refine gT ?_ ?_ | refine gF ?_ ?_ | refine gC ?_ ?_ | refine And.intro (by omega) ?_ | (intro hr; have hc := hr; (try simp only [zda, zdb, zdc, zdd] at hc); simp -implicitDefEqProofs (disch := omega) only [hr, go_sem, ↓reduceIte, reduceAdd, reduceSub, reduceMul, reduceLeDiff, reduceLT, reduceEqDiff, reduceNeg, Nat.reduceBEq]; (try clear hr))))
   · by_cases hx : (l.take k).contains (l.getD k 0) = true
     · obtain ⟨i, hi, hf⟩ := findIdx_yesG hx
       have hi' : i < k := by simp at hi; omega
       simp -implicitDefEqProofs (disch := omega) only [keyOK, keyI, hf, rep_get hi', go_sem, ↓reduceIte, reduceAdd, reduceSub, reduceMul, reduceLeDiff, reduceLT, reduceEqDiff, reduceNeg, Nat.reduceBEq]
       refine fin_eq ?_ (by rfl)
       rw [zf (fun hn => by rw [nodup_noG hn (by omega)] at hx; cases hx)]
     · have hx := Bool.eq_false_iff.2 hx
       simp -implicitDefEqProofs (disch := omega) only [keyOK, keyI, findIdx_noG hx, go_sem, ↓reduceIte, reduceAdd, reduceSub, reduceMul, reduceLeDiff, reduceLT, reduceEqDiff, reduceNeg, Nat.reduceBEq]
       refine ⟨k + 1, ⟨by omega, below_succ ha hx⟩, by omega, ?_, by simp⟩
       rw [take_getD (d := 0) (by omega), List.map_append, List.replicate_succ']; rfl
   · refine fin_eq ?_ (by rfl)
     have h1 : k = l.length := by omega
     rw [zt (nodup_ofG (h1 ▸ ha))]

def mx : Nat := 140737488355328
structure OkO (o : LOp) : Prop where
 name : o.name.length ≤ 140737488355328
 args : o.args.length ≤ 140737488355328
 argsS : ∀ x ∈ o.args, x.length ≤ 140737488355328
 sort : o.sort.length ≤ 140737488355328
 pieces : o.pieces.length ≤ 140737488355328
 piecesS : ∀ x ∈ o.pieces, x.1.length ≤ 140737488355328 ∧ x.2.length ≤ 140737488355328
 strict : o.strict.length ≤ 140737488355328
 piecesT : o.pieces.length ≤ 4398046511104
 argsT : o.args.length ≤ 8796093022208
 strictT : o.strict.length ≤ 17592186044416
structure OkS (s : LSig) : Prop where
 sorts : s.sorts.length ≤ 140737488355328
 sortsS : ∀ x ∈ s.sorts, x.length ≤ 140737488355328
 below : s.below.length ≤ 140737488355328
 belowS : ∀ x ∈ s.below, x.1.length ≤ 140737488355328 ∧ x.2.length ≤ 140737488355328
 ops : s.ops.length ≤ 140737488355328
 opsO : ∀ x ∈ s.ops, OkO x
 funs : s.funs.length ≤ 140737488355328
 funsO : ∀ x ∈ s.funs, OkO x
 values : s.values.length ≤ 140737488355328
 opsT : s.ops.length ≤ 1172812402961
 funsT : s.funs.length ≤ 1172812402961
 valuesS : ∀ x ∈ s.values, x.length ≤ 140737488355328
theorem mem_getD {α : Type} {l : List α} {d : α} {k : Nat} (h : k < l.length) : l.getD k d ∈ l := by simp [List.getD, h]

end Go.Proofs.YtnjnjdebgkjfhaaGreatDoor

/-
  The types of the program, as far as its code asks; no condition.
  The values that this chapter's functions take, over abstract values; no condition.
-/
import Derived.Test.YtadileniakikeaaGreatDoorProg
import Derived.Test.YtadileniakikeaaGreatDoorVoP4
import Derived.Lib.Space
set_option linter.unusedVariables false
namespace Go.Proofs.YtadileniakikeaaGreatDoor
open Go Go.Vo
theorem mixed : Tryz.prog.follows .mixedOrders = true := by kernel_rfl
/-- what the table strings.asciiSpace holds -/
def asciiCells : List AV := Lib.asciiSpaceTab.map (.i .u8)
def G0 : Glob := fun g => if g = 0 then some (.box asciiCells 0) else none
theorem g0 : GPers G0 := fun k a h => by
  unfold G0 at h
  split at h
  · cases h; simp only [pers, asciiCells, persL_i]
  · cases h
@[go_sem] theorem sz3 : szOf Tryz.prog 3 = some 1 := by kernel_rfl
@[go_sem] theorem ag3 : isAggT Tryz.prog 3 = some false := by kernel_rfl
@[go_sem] theorem by3 : byOf Tryz.prog 3 = some 8 := by kernel_rfl
@[go_sem] theorem zo3 : zeroOf Tryz.prog 3 = some [.i .i64 0] := by kernel_rfl
@[go_sem] theorem zv3 : zeroVal Tryz.prog 3 = some (.i .i64 0) := by kernel_rfl
@[go_sem] theorem un3 : Program.underlying Tryz.prog 3 = some (.int .i64) := by kernel_rfl
@[go_sem] theorem sz4 : szOf Tryz.prog 4 = some 1 := by kernel_rfl
@[go_sem] theorem ag4 : isAggT Tryz.prog 4 = some false := by kernel_rfl
@[go_sem] theorem by4 : byOf Tryz.prog 4 = some 1 := by kernel_rfl
@[go_sem] theorem zo4 : zeroOf Tryz.prog 4 = some [.b false] := by kernel_rfl
@[go_sem] theorem zv4 : zeroVal Tryz.prog 4 = some (.b false) := by kernel_rfl
@[go_sem] theorem un4 : Program.underlying Tryz.prog 4 = some .bool := by kernel_rfl
@[go_sem] theorem sz5 : szOf Tryz.prog 5 = some 1 := by kernel_rfl
@[go_sem] theorem ag5 : isAggT Tryz.prog 5 = some false := by kernel_rfl
@[go_sem] theorem by5 : byOf Tryz.prog 5 = some 1 := by kernel_rfl
@[go_sem] theorem zo5 : zeroOf Tryz.prog 5 = some [.i .u8 0] := by kernel_rfl
@[go_sem] theorem zv5 : zeroVal Tryz.prog 5 = some (.i .u8 0) := by kernel_rfl
@[go_sem] theorem un5 : Program.underlying Tryz.prog 5 = some (.int .u8) := by kernel_rfl
@[go_sem] theorem sz9 : szOf Tryz.prog 9 = some 1 := by kernel_rfl
@[go_sem] theorem ag9 : isAggT Tryz.prog 9 = some false := by kernel_rfl
@[go_sem] theorem by9 : byOf Tryz.prog 9 = some 16 := by kernel_rfl
@[go_sem] theorem zo9 : zeroOf Tryz.prog 9 = some [.s []] := by kernel_rfl
@[go_sem] theorem zv9 : zeroVal Tryz.prog 9 = some (.s []) := by kernel_rfl
@[go_sem] theorem un9 : Program.underlying Tryz.prog 9 = some .string := by kernel_rfl
@[go_sem] theorem sz21 : szOf Tryz.prog 21 = some 1 := by kernel_rfl
@[go_sem] theorem ag21 : isAggT Tryz.prog 21 = some false := by kernel_rfl
@[go_sem] theorem by21 : byOf Tryz.prog 21 = some 4 := by kernel_rfl
@[go_sem] theorem zo21 : zeroOf Tryz.prog 21 = some [.i .i32 0] := by kernel_rfl
@[go_sem] theorem zv21 : zeroVal Tryz.prog 21 = some (.i .i32 0) := by kernel_rfl
@[go_sem] theorem un21 : Program.underlying Tryz.prog 21 = some (.int .i32) := by kernel_rfl
@[go_sem] theorem sz22 : szOf Tryz.prog 22 = some 1 := by kernel_rfl
@[go_sem] theorem ag22 : isAggT Tryz.prog 22 = some false := by kernel_rfl
@[go_sem] theorem by22 : byOf Tryz.prog 22 = some 24 := by kernel_rfl
@[go_sem] theorem zo22 : zeroOf Tryz.prog 22 = some [.e0] := by kernel_rfl
@[go_sem] theorem zv22 : zeroVal Tryz.prog 22 = some (.e0) := by kernel_rfl
@[go_sem] theorem un22 : Program.underlying Tryz.prog 22 = some (.slice 9) := by kernel_rfl
@[go_sem] theorem el22 : elemOf? Tryz.prog 22 = some 9 := by kernel_rfl
@[go_sem] theorem sz23 : szOf Tryz.prog 23 = some 1 := by kernel_rfl
@[go_sem] theorem ag23 : isAggT Tryz.prog 23 = some false := by kernel_rfl
@[go_sem] theorem by23 : byOf Tryz.prog 23 = some 24 := by kernel_rfl
@[go_sem] theorem zo23 : zeroOf Tryz.prog 23 = some [.e0] := by kernel_rfl
@[go_sem] theorem zv23 : zeroVal Tryz.prog 23 = some (.e0) := by kernel_rfl
@[go_sem] theorem un23 : Program.underlying Tryz.prog 23 = some (.slice 57) := by kernel_rfl
@[go_sem] theorem el23 : elemOf? Tryz.prog 23 = some 57 := by kernel_rfl
@[go_sem] theorem sz24 : szOf Tryz.prog 24 = some 1 := by kernel_rfl
@[go_sem] theorem ag24 : isAggT Tryz.prog 24 = some false := by kernel_rfl
@[go_sem] theorem by24 : byOf Tryz.prog 24 = some 24 := by kernel_rfl
@[go_sem] theorem zo24 : zeroOf Tryz.prog 24 = some [.e0] := by kernel_rfl
@[go_sem] theorem zv24 : zeroVal Tryz.prog 24 = some (.e0) := by kernel_rfl
@[go_sem] theorem un24 : Program.underlying Tryz.prog 24 = some (.slice 33) := by kernel_rfl
@[go_sem] theorem el24 : elemOf? Tryz.prog 24 = some 33 := by kernel_rfl
@[go_sem] theorem sz26 : szOf Tryz.prog 26 = some 5 := by kernel_rfl
@[go_sem] theorem ag26 : isAggT Tryz.prog 26 = some true := by kernel_rfl
@[go_sem] theorem by26 : byOf Tryz.prog 26 = some 120 := by kernel_rfl
@[go_sem] theorem zo26 : zeroOf Tryz.prog 26 = some [.e0, .e0, .e0, .e0, .e0] := by kernel_rfl
@[go_sem] theorem zv26 : zeroVal Tryz.prog 26 = some (.agg [.e0, .e0, .e0, .e0, .e0]) := by kernel_rfl
@[go_sem] theorem fo26_0 : fieldOf? Tryz.prog 26 0 = some (0, 22) := by kernel_rfl
@[go_sem] theorem fa26_0 : fieldAt? Tryz.prog 26 0 = some (0, some 1) := by kernel_rfl
@[go_sem] theorem fo26_1 : fieldOf? Tryz.prog 26 1 = some (1, 23) := by kernel_rfl
@[go_sem] theorem fa26_1 : fieldAt? Tryz.prog 26 1 = some (1, some 1) := by kernel_rfl
@[go_sem] theorem fo26_2 : fieldOf? Tryz.prog 26 2 = some (2, 24) := by kernel_rfl
@[go_sem] theorem fa26_2 : fieldAt? Tryz.prog 26 2 = some (2, some 1) := by kernel_rfl
@[go_sem] theorem fo26_3 : fieldOf? Tryz.prog 26 3 = some (3, 24) := by kernel_rfl
@[go_sem] theorem fa26_3 : fieldAt? Tryz.prog 26 3 = some (3, some 1) := by kernel_rfl
@[go_sem] theorem fo26_4 : fieldOf? Tryz.prog 26 4 = some (4, 22) := by kernel_rfl
@[go_sem] theorem fa26_4 : fieldAt? Tryz.prog 26 4 = some (4, some 1) := by kernel_rfl
@[go_sem] theorem pl26 : placesOf Tryz.prog 26 = some [(0, 1), (1, 1), (2, 1), (3, 1), (4, 1)] := by kernel_rfl
@[go_sem] theorem sz29 : szOf Tryz.prog 29 = some 1 := by kernel_rfl
@[go_sem] theorem ag29 : isAggT Tryz.prog 29 = some false := by kernel_rfl
@[go_sem] theorem by29 : byOf Tryz.prog 29 = some 24 := by kernel_rfl
@[go_sem] theorem zo29 : zeroOf Tryz.prog 29 = some [.e0] := by kernel_rfl
@[go_sem] theorem zv29 : zeroVal Tryz.prog 29 = some (.e0) := by kernel_rfl
@[go_sem] theorem un29 : Program.underlying Tryz.prog 29 = some (.slice 75) := by kernel_rfl
@[go_sem] theorem el29 : elemOf? Tryz.prog 29 = some 75 := by kernel_rfl
@[go_sem] theorem sz30 : szOf Tryz.prog 30 = some 1 := by kernel_rfl
@[go_sem] theorem ag30 : isAggT Tryz.prog 30 = some false := by kernel_rfl
@[go_sem] theorem by30 : byOf Tryz.prog 30 = some 8 := by kernel_rfl
@[go_sem] theorem zo30 : zeroOf Tryz.prog 30 = some [.i .i64 0] := by kernel_rfl
@[go_sem] theorem zv30 : zeroVal Tryz.prog 30 = some (.i .i64 0) := by kernel_rfl
@[go_sem] theorem un30 : Program.underlying Tryz.prog 30 = some (.int .i64) := by kernel_rfl
@[go_sem] theorem sz31 : szOf Tryz.prog 31 = some 1 := by kernel_rfl
@[go_sem] theorem ag31 : isAggT Tryz.prog 31 = some false := by kernel_rfl
@[go_sem] theorem by31 : byOf Tryz.prog 31 = some 24 := by kernel_rfl
@[go_sem] theorem zo31 : zeroOf Tryz.prog 31 = some [.e0] := by kernel_rfl
@[go_sem] theorem zv31 : zeroVal Tryz.prog 31 = some (.e0) := by kernel_rfl
@[go_sem] theorem un31 : Program.underlying Tryz.prog 31 = some (.slice 3) := by kernel_rfl
@[go_sem] theorem el31 : elemOf? Tryz.prog 31 = some 3 := by kernel_rfl
@[go_sem] theorem sz33 : szOf Tryz.prog 33 = some 7 := by kernel_rfl
@[go_sem] theorem ag33 : isAggT Tryz.prog 33 = some true := by kernel_rfl
@[go_sem] theorem by33 : byOf Tryz.prog 33 = some 120 := by kernel_rfl
@[go_sem] theorem zo33 : zeroOf Tryz.prog 33 = some [.s [], .e0, .s [], .e0, .i .i64 0, .i .i64 0, .e0] := by kernel_rfl
@[go_sem] theorem zv33 : zeroVal Tryz.prog 33 = some (.agg [.s [], .e0, .s [], .e0, .i .i64 0, .i .i64 0, .e0]) := by kernel_rfl
@[go_sem] theorem fo33_0 : fieldOf? Tryz.prog 33 0 = some (0, 9) := by kernel_rfl
@[go_sem] theorem fa33_0 : fieldAt? Tryz.prog 33 0 = some (0, some 1) := by kernel_rfl
@[go_sem] theorem fo33_1 : fieldOf? Tryz.prog 33 1 = some (1, 22) := by kernel_rfl
@[go_sem] theorem fa33_1 : fieldAt? Tryz.prog 33 1 = some (1, some 1) := by kernel_rfl
@[go_sem] theorem fo33_2 : fieldOf? Tryz.prog 33 2 = some (2, 9) := by kernel_rfl
@[go_sem] theorem fa33_2 : fieldAt? Tryz.prog 33 2 = some (2, some 1) := by kernel_rfl
@[go_sem] theorem fo33_3 : fieldOf? Tryz.prog 33 3 = some (3, 29) := by kernel_rfl
@[go_sem] theorem fa33_3 : fieldAt? Tryz.prog 33 3 = some (3, some 1) := by kernel_rfl
@[go_sem] theorem fo33_4 : fieldOf? Tryz.prog 33 4 = some (4, 3) := by kernel_rfl
@[go_sem] theorem fa33_4 : fieldAt? Tryz.prog 33 4 = some (4, some 1) := by kernel_rfl
@[go_sem] theorem fo33_5 : fieldOf? Tryz.prog 33 5 = some (5, 30) := by kernel_rfl
@[go_sem] theorem fa33_5 : fieldAt? Tryz.prog 33 5 = some (5, some 1) := by kernel_rfl
@[go_sem] theorem fo33_6 : fieldOf? Tryz.prog 33 6 = some (6, 31) := by kernel_rfl
@[go_sem] theorem fa33_6 : fieldAt? Tryz.prog 33 6 = some (6, some 1) := by kernel_rfl
@[go_sem] theorem pl33 : placesOf Tryz.prog 33 = some [(0, 1), (1, 1), (2, 1), (3, 1), (4, 1), (5, 1), (6, 1)] := by kernel_rfl
@[go_sem] theorem sz34 : szOf Tryz.prog 34 = some 1 := by kernel_rfl
@[go_sem] theorem ag34 : isAggT Tryz.prog 34 = some false := by kernel_rfl
@[go_sem] theorem by34 : byOf Tryz.prog 34 = some 8 := by kernel_rfl
@[go_sem] theorem zo34 : zeroOf Tryz.prog 34 = some [.i .i64 0] := by kernel_rfl
@[go_sem] theorem zv34 : zeroVal Tryz.prog 34 = some (.i .i64 0) := by kernel_rfl
@[go_sem] theorem un34 : Program.underlying Tryz.prog 34 = some (.int .i64) := by kernel_rfl
@[go_sem] theorem sz37 : szOf Tryz.prog 37 = some 1 := by kernel_rfl
@[go_sem] theorem ag37 : isAggT Tryz.prog 37 = some false := by kernel_rfl
@[go_sem] theorem by37 : byOf Tryz.prog 37 = some 8 := by kernel_rfl
@[go_sem] theorem zo37 : zeroOf Tryz.prog 37 = some [.p .nilFunc] := by kernel_rfl
@[go_sem] theorem zv37 : zeroVal Tryz.prog 37 = some (.p .nilFunc) := by kernel_rfl
@[go_sem] theorem sz51 : szOf Tryz.prog 51 = some 2 := by kernel_rfl
@[go_sem] theorem ag51 : isAggT Tryz.prog 51 = some true := by kernel_rfl
@[go_sem] theorem by51 : byOf Tryz.prog 51 = some 32 := by kernel_rfl
@[go_sem] theorem zo51 : zeroOf Tryz.prog 51 = some [.s [], .s []] := by kernel_rfl
@[go_sem] theorem zv51 : zeroVal Tryz.prog 51 = some (.agg [.s [], .s []]) := by kernel_rfl
@[go_sem] theorem un51 : Program.underlying Tryz.prog 51 = some (.array 2 9) := by kernel_rfl
@[go_sem] theorem sz52 : szOf Tryz.prog 52 = some 1 := by kernel_rfl
@[go_sem] theorem ag52 : isAggT Tryz.prog 52 = some false := by kernel_rfl
@[go_sem] theorem by52 : byOf Tryz.prog 52 = some 8 := by kernel_rfl
@[go_sem] theorem zo52 : zeroOf Tryz.prog 52 = some [.p .nilFunc] := by kernel_rfl
@[go_sem] theorem zv52 : zeroVal Tryz.prog 52 = some (.p .nilFunc) := by kernel_rfl
@[go_sem] theorem sz57 : szOf Tryz.prog 57 = some 2 := by kernel_rfl
@[go_sem] theorem ag57 : isAggT Tryz.prog 57 = some true := by kernel_rfl
@[go_sem] theorem by57 : byOf Tryz.prog 57 = some 32 := by kernel_rfl
@[go_sem] theorem zo57 : zeroOf Tryz.prog 57 = some [.s [], .s []] := by kernel_rfl
@[go_sem] theorem zv57 : zeroVal Tryz.prog 57 = some (.agg [.s [], .s []]) := by kernel_rfl
@[go_sem] theorem fo57_0 : fieldOf? Tryz.prog 57 0 = some (0, 9) := by kernel_rfl
@[go_sem] theorem fa57_0 : fieldAt? Tryz.prog 57 0 = some (0, some 1) := by kernel_rfl
@[go_sem] theorem fo57_1 : fieldOf? Tryz.prog 57 1 = some (1, 9) := by kernel_rfl
@[go_sem] theorem fa57_1 : fieldAt? Tryz.prog 57 1 = some (1, some 1) := by kernel_rfl
@[go_sem] theorem pl57 : placesOf Tryz.prog 57 = some [(0, 1), (1, 1)] := by kernel_rfl
@[go_sem] theorem lf57 : leafFields Tryz.prog 57 = some [9, 9] := by kernel_rfl
@[go_sem] theorem sz62 : szOf Tryz.prog 62 = some 1 := by kernel_rfl
@[go_sem] theorem ag62 : isAggT Tryz.prog 62 = some false := by kernel_rfl
@[go_sem] theorem by62 : byOf Tryz.prog 62 = some 8 := by kernel_rfl
@[go_sem] theorem zo62 : zeroOf Tryz.prog 62 = some [.p (.pointer Option.none)] := by kernel_rfl
@[go_sem] theorem zv62 : zeroVal Tryz.prog 62 = some (.p (.pointer Option.none)) := by kernel_rfl
@[go_sem] theorem sz65 : szOf Tryz.prog 65 = some 1 := by kernel_rfl
@[go_sem] theorem ag65 : isAggT Tryz.prog 65 = some false := by kernel_rfl
@[go_sem] theorem by65 : byOf Tryz.prog 65 = some 8 := by kernel_rfl
@[go_sem] theorem zo65 : zeroOf Tryz.prog 65 = some [.p .nilFunc] := by kernel_rfl
@[go_sem] theorem zv65 : zeroVal Tryz.prog 65 = some (.p .nilFunc) := by kernel_rfl
@[go_sem] theorem sz67 : szOf Tryz.prog 67 = some 1 := by kernel_rfl
@[go_sem] theorem ag67 : isAggT Tryz.prog 67 = some false := by kernel_rfl
@[go_sem] theorem by67 : byOf Tryz.prog 67 = some 8 := by kernel_rfl
@[go_sem] theorem zo67 : zeroOf Tryz.prog 67 = some [.p .nilFunc] := by kernel_rfl
@[go_sem] theorem zv67 : zeroVal Tryz.prog 67 = some (.p .nilFunc) := by kernel_rfl
@[go_sem] theorem sz75 : szOf Tryz.prog 75 = some 2 := by kernel_rfl
@[go_sem] theorem ag75 : isAggT Tryz.prog 75 = some true := by kernel_rfl
@[go_sem] theorem by75 : byOf Tryz.prog 75 = some 32 := by kernel_rfl
@[go_sem] theorem zo75 : zeroOf Tryz.prog 75 = some [.s [], .s []] := by kernel_rfl
@[go_sem] theorem zv75 : zeroVal Tryz.prog 75 = some (.agg [.s [], .s []]) := by kernel_rfl
@[go_sem] theorem fo75_0 : fieldOf? Tryz.prog 75 0 = some (0, 9) := by kernel_rfl
@[go_sem] theorem fa75_0 : fieldAt? Tryz.prog 75 0 = some (0, some 1) := by kernel_rfl
@[go_sem] theorem fo75_1 : fieldOf? Tryz.prog 75 1 = some (1, 9) := by kernel_rfl
@[go_sem] theorem fa75_1 : fieldAt? Tryz.prog 75 1 = some (1, some 1) := by kernel_rfl
@[go_sem] theorem pl75 : placesOf Tryz.prog 75 = some [(0, 1), (1, 1)] := by kernel_rfl
@[go_sem] theorem lf75 : leafFields Tryz.prog 75 = some [9, 9] := by kernel_rfl
@[go_sem] theorem sz81 : szOf Tryz.prog 81 = some 1 := by kernel_rfl
@[go_sem] theorem ag81 : isAggT Tryz.prog 81 = some false := by kernel_rfl
@[go_sem] theorem by81 : byOf Tryz.prog 81 = some 8 := by kernel_rfl
@[go_sem] theorem zo81 : zeroOf Tryz.prog 81 = some [.p .nilFunc] := by kernel_rfl
@[go_sem] theorem zv81 : zeroVal Tryz.prog 81 = some (.p .nilFunc) := by kernel_rfl
@[go_sem] theorem sz90 : szOf Tryz.prog 90 = some 1 := by kernel_rfl
@[go_sem] theorem ag90 : isAggT Tryz.prog 90 = some false := by kernel_rfl
@[go_sem] theorem by90 : byOf Tryz.prog 90 = some 8 := by kernel_rfl
@[go_sem] theorem zo90 : zeroOf Tryz.prog 90 = some [.p (.map Option.none)] := by kernel_rfl
@[go_sem] theorem zv90 : zeroVal Tryz.prog 90 = some (.p (.map Option.none)) := by kernel_rfl
@[go_sem] theorem un90 : Program.underlying Tryz.prog 90 = some (.map 57 4) := by kernel_rfl
@[go_sem] theorem sz91 : szOf Tryz.prog 91 = some 1 := by kernel_rfl
@[go_sem] theorem ag91 : isAggT Tryz.prog 91 = some false := by kernel_rfl
@[go_sem] theorem by91 : byOf Tryz.prog 91 = some 8 := by kernel_rfl
@[go_sem] theorem zo91 : zeroOf Tryz.prog 91 = some [.p (.map Option.none)] := by kernel_rfl
@[go_sem] theorem zv91 : zeroVal Tryz.prog 91 = some (.p (.map Option.none)) := by kernel_rfl
@[go_sem] theorem un91 : Program.underlying Tryz.prog 91 = some (.map 9 4) := by kernel_rfl
@[go_sem] theorem sz93 : szOf Tryz.prog 93 = some 1 := by kernel_rfl
@[go_sem] theorem ag93 : isAggT Tryz.prog 93 = some false := by kernel_rfl
@[go_sem] theorem by93 : byOf Tryz.prog 93 = some 8 := by kernel_rfl
@[go_sem] theorem zo93 : zeroOf Tryz.prog 93 = some [.p (.map Option.none)] := by kernel_rfl
@[go_sem] theorem zv93 : zeroVal Tryz.prog 93 = some (.p (.map Option.none)) := by kernel_rfl
@[go_sem] theorem un93 : Program.underlying Tryz.prog 93 = some (.map 9 22) := by kernel_rfl
@[go_sem] theorem sz94 : szOf Tryz.prog 94 = some 1 := by kernel_rfl
@[go_sem] theorem ag94 : isAggT Tryz.prog 94 = some false := by kernel_rfl
@[go_sem] theorem by94 : byOf Tryz.prog 94 = some 8 := by kernel_rfl
@[go_sem] theorem zo94 : zeroOf Tryz.prog 94 = some [.p (.map Option.none)] := by kernel_rfl
@[go_sem] theorem zv94 : zeroVal Tryz.prog 94 = some (.p (.map Option.none)) := by kernel_rfl
@[go_sem] theorem un94 : Program.underlying Tryz.prog 94 = some (.map 9 33) := by kernel_rfl
@[go_sem] theorem sz96 : szOf Tryz.prog 96 = some 8 := by kernel_rfl
@[go_sem] theorem ag96 : isAggT Tryz.prog 96 = some true := by kernel_rfl
@[go_sem] theorem by96 : byOf Tryz.prog 96 = some 144 := by kernel_rfl
@[go_sem] theorem zo96 : zeroOf Tryz.prog 96 = some [.e0, .e0, .e0, .e0, .e0, .p (.map Option.none), .p (.map Option.none), .p (.map Option.none)] := by kernel_rfl
@[go_sem] theorem zv96 : zeroVal Tryz.prog 96 = some (.agg [.e0, .e0, .e0, .e0, .e0, .p (.map Option.none), .p (.map Option.none), .p (.map Option.none)]) := by kernel_rfl
@[go_sem] theorem fo96_0 : fieldOf? Tryz.prog 96 0 = some (0, 26) := by kernel_rfl
@[go_sem] theorem fa96_0 : fieldAt? Tryz.prog 96 0 = some (0, some 5) := by kernel_rfl
@[go_sem] theorem fo96_1 : fieldOf? Tryz.prog 96 1 = some (5, 93) := by kernel_rfl
@[go_sem] theorem fa96_1 : fieldAt? Tryz.prog 96 1 = some (5, some 1) := by kernel_rfl
@[go_sem] theorem fo96_2 : fieldOf? Tryz.prog 96 2 = some (6, 94) := by kernel_rfl
@[go_sem] theorem fa96_2 : fieldAt? Tryz.prog 96 2 = some (6, some 1) := by kernel_rfl
@[go_sem] theorem fo96_3 : fieldOf? Tryz.prog 96 3 = some (7, 94) := by kernel_rfl
@[go_sem] theorem fa96_3 : fieldAt? Tryz.prog 96 3 = some (7, some 1) := by kernel_rfl
@[go_sem] theorem pl96 : placesOf Tryz.prog 96 = some [(0, 5), (5, 1), (6, 1), (7, 1)] := by kernel_rfl
@[go_sem] theorem sz102 : szOf Tryz.prog 102 = some 1 := by kernel_rfl
@[go_sem] theorem ag102 : isAggT Tryz.prog 102 = some false := by kernel_rfl
@[go_sem] theorem by102 : byOf Tryz.prog 102 = some 8 := by kernel_rfl
@[go_sem] theorem zo102 : zeroOf Tryz.prog 102 = some [.p .nilFunc] := by kernel_rfl
@[go_sem] theorem zv102 : zeroVal Tryz.prog 102 = some (.p .nilFunc) := by kernel_rfl
@[go_sem] theorem sz109 : szOf Tryz.prog 109 = some 1 := by kernel_rfl
@[go_sem] theorem ag109 : isAggT Tryz.prog 109 = some false := by kernel_rfl
@[go_sem] theorem by109 : byOf Tryz.prog 109 = some 8 := by kernel_rfl
@[go_sem] theorem zo109 : zeroOf Tryz.prog 109 = some [.p .nilFunc] := by kernel_rfl
@[go_sem] theorem zv109 : zeroVal Tryz.prog 109 = some (.p .nilFunc) := by kernel_rfl
@[go_sem] theorem sz113 : szOf Tryz.prog 113 = some 256 := by kernel_rfl
@[go_sem] theorem ag113 : isAggT Tryz.prog 113 = some true := by kernel_rfl
@[go_sem] theorem by113 : byOf Tryz.prog 113 = some 256 := by kernel_rfl
@[go_sem] theorem zv113 : zeroVal Tryz.prog 113 = some (.agg [.i .u8 0, .i .u8 0, .i .u8 0, .i .u8 0, .i .u8 0, .i .u8 0, .i .u8 0, .i .u8 0, .i .u8 0, .i .u8 0, .i .u8 0, .i .u8 0, .i .u8 0, .i .u8 0, .i .u8 0, .i .u8 0, .i .u8 0, .i .u8 0, .i .u8 0, .i .u8 0, .i .u8 0, .i .u8 0, .i .u8 0, .i .u8 0, .i .u8 0, .i .u8 0, .i .u8 0, .i .u8 0, .i .u8 0, .i .u8 0, .i .u8 0, .i .u8 0, .i .u8 0, .i .u8 0, .i .u8 0, .i .u8 0, .i .u8 0, .i .u8 0, .i .u8 0, .i .u8 0, .i .u8 0, .i .u8 0, .i .u8 0, .i .u8 0, .i .u8 0, .i .u8 0, .i .u8 0, .i .u8 0, .i .u8 0, .i .u8 0, .i .u8 0, .i .u8 0, .i .u8 0, .i .u8 0, .i .u8 0, .i .u8 0, .i .u8 0, .i .u8 0, .i .u8 0, .i .u8 0, .i .u8 0, .i .u8 0, .i .u8 0, .i .u8 0, .i .u8 0, .i .u8 0, .i .u8 0, .i .u8 0, .i .u8 0, .i .u8 0, .i .u8 0, .i .u8 0, .i .u8 0, .i .u8 0, .i .u8 0, .i .u8 0, .i .u8 0, .i .u8 0, .i .u8 0, .i .u8 0, .i .u8 0, .i .u8 0, .i .u8 0, .i .u8 0, .i .u8 0, .i .u8 0, .i .u8 0, .i .u8 0, .i .u8 0, .i .u8 0, .i .u8 0, .i .u8 0, .i .u8 0, .i .u8 0, .i .u8 0, .i .u8 0, .i .u8 0, .i .u8 0, .i .u8 0, .i .u8 0, .i .u8 0, .i .u8 0, .i .u8 0, .i .u8 0, .i .u8 0, .i .u8 0, .i .u8 0, .i .u8 0, .i .u8 0, .i .u8 0, .i .u8 0, .i .u8 0, .i .u8 0, .i .u8 0, .i .u8 0, .i .u8 0, .i .u8 0, .i .u8 0, .i .u8 0, .i .u8 0, .i .u8 0, .i .u8 0, .i .u8 0, .i .u8 0, .i .u8 0, .i .u8 0, .i .u8 0, .i .u8 0, .i .u8 0, .i .u8 0, .i .u8 0, .i .u8 0, .i .u8 0, .i .u8 0, .i .u8 0, .i .u8 0, .i .u8 0, .i .u8 0, .i .u8 0, .i .u8 0, .i .u8 0, .i .u8 0, .i .u8 0, .i .u8 0, .i .u8 0, .i .u8 0, .i .u8 0, .i .u8 0, .i .u8 0, .i .u8 0, .i .u8 0, .i .u8 0, .i .u8 0, .i .u8 0, .i .u8 0, .i .u8 0, .i .u8 0, .i .u8 0, .i .u8 0, .i .u8 0, .i .u8 0, .i .u8 0, .i .u8 0, .i .u8 0, .i .u8 0, .i .u8 0, .i .u8 0, .i .u8 0, .i .u8 0, .i .u8 0, .i .u8 0, .i .u8 0, .i .u8 0, .i .u8 0, .i .u8 0, .i .u8 0, .i .u8 0, .i .u8 0, .i .u8 0, .i .u8 0, .i .u8 0, .i .u8 0, .i .u8 0, .i .u8 0, .i .u8 0, .i .u8 0, .i .u8 0, .i .u8 0, .i .u8 0, .i .u8 0, .i .u8 0, .i .u8 0, .i .u8 0, .i .u8 0, .i .u8 0, .i .u8 0, .i .u8 0, .i .u8 0, .i .u8 0, .i .u8 0, .i .u8 0, .i .u8 0, .i .u8 0, .i .u8 0, .i .u8 0, .i .u8 0, .i .u8 0, .i .u8 0, .i .u8 0, .i .u8 0, .i .u8 0, .i .u8 0, .i .u8 0, .i .u8 0, .i .u8 0, .i .u8 0, .i .u8 0, .i .u8 0, .i .u8 0, .i .u8 0, .i .u8 0, .i .u8 0, .i .u8 0, .i .u8 0, .i .u8 0, .i .u8 0, .i .u8 0, .i .u8 0, .i .u8 0, .i .u8 0, .i .u8 0, .i .u8 0, .i .u8 0, .i .u8 0, .i .u8 0, .i .u8 0, .i .u8 0, .i .u8 0, .i .u8 0, .i .u8 0, .i .u8 0, .i .u8 0, .i .u8 0, .i .u8 0, .i .u8 0, .i .u8 0, .i .u8 0, .i .u8 0, .i .u8 0, .i .u8 0, .i .u8 0, .i .u8 0, .i .u8 0, .i .u8 0, .i .u8 0, .i .u8 0]) := by kernel_rfl
@[go_sem] theorem un113 : Program.underlying Tryz.prog 113 = some (.array 256 5) := by kernel_rfl
@[go_sem] theorem sz115 : szOf Tryz.prog 115 = some 1 := by kernel_rfl
@[go_sem] theorem ag115 : isAggT Tryz.prog 115 = some false := by kernel_rfl
@[go_sem] theorem by115 : byOf Tryz.prog 115 = some 8 := by kernel_rfl
@[go_sem] theorem zo115 : zeroOf Tryz.prog 115 = some [.p .nilFunc] := by kernel_rfl
@[go_sem] theorem zv115 : zeroVal Tryz.prog 115 = some (.p .nilFunc) := by kernel_rfl
@[go_sem] theorem sz117 : szOf Tryz.prog 117 = some 1 := by kernel_rfl
@[go_sem] theorem ag117 : isAggT Tryz.prog 117 = some false := by kernel_rfl
@[go_sem] theorem by117 : byOf Tryz.prog 117 = some 24 := by kernel_rfl
@[go_sem] theorem zo117 : zeroOf Tryz.prog 117 = some [.e0] := by kernel_rfl
@[go_sem] theorem zv117 : zeroVal Tryz.prog 117 = some (.e0) := by kernel_rfl
@[go_sem] theorem un117 : Program.underlying Tryz.prog 117 = some (.slice 22) := by kernel_rfl
@[go_sem] theorem el117 : elemOf? Tryz.prog 117 = some 22 := by kernel_rfl
@[go_sem] theorem sz121 : szOf Tryz.prog 121 = some 1 := by kernel_rfl
@[go_sem] theorem ag121 : isAggT Tryz.prog 121 = some false := by kernel_rfl
@[go_sem] theorem by121 : byOf Tryz.prog 121 = some 8 := by kernel_rfl
@[go_sem] theorem zo121 : zeroOf Tryz.prog 121 = some [.p (.map Option.none)] := by kernel_rfl
@[go_sem] theorem zv121 : zeroVal Tryz.prog 121 = some (.p (.map Option.none)) := by kernel_rfl
@[go_sem] theorem un121 : Program.underlying Tryz.prog 121 = some (.map 3 4) := by kernel_rfl
@[go_sem] theorem sz126 : szOf Tryz.prog 126 = some 1 := by kernel_rfl
@[go_sem] theorem ag126 : isAggT Tryz.prog 126 = some false := by kernel_rfl
@[go_sem] theorem by126 : byOf Tryz.prog 126 = some 8 := by kernel_rfl
@[go_sem] theorem zo126 : zeroOf Tryz.prog 126 = some [.i .u64 0] := by kernel_rfl
@[go_sem] theorem zv126 : zeroVal Tryz.prog 126 = some (.i .u64 0) := by kernel_rfl
@[go_sem] theorem un126 : Program.underlying Tryz.prog 126 = some (.int .u64) := by kernel_rfl
@[go_sem] theorem sz127 : szOf Tryz.prog 127 = some 1 := by kernel_rfl
@[go_sem] theorem ag127 : isAggT Tryz.prog 127 = some false := by kernel_rfl
@[go_sem] theorem by127 : byOf Tryz.prog 127 = some 24 := by kernel_rfl
@[go_sem] theorem zo127 : zeroOf Tryz.prog 127 = some [.e0] := by kernel_rfl
@[go_sem] theorem zv127 : zeroVal Tryz.prog 127 = some (.e0) := by kernel_rfl
@[go_sem] theorem un127 : Program.underlying Tryz.prog 127 = some (.slice 129) := by kernel_rfl
@[go_sem] theorem el127 : elemOf? Tryz.prog 127 = some 129 := by kernel_rfl
@[go_sem] theorem sz129 : szOf Tryz.prog 129 = some 2 := by kernel_rfl
@[go_sem] theorem ag129 : isAggT Tryz.prog 129 = some true := by kernel_rfl
@[go_sem] theorem by129 : byOf Tryz.prog 129 = some 16 := by kernel_rfl
@[go_sem] theorem zo129 : zeroOf Tryz.prog 129 = some [.i .i64 0, .i .i64 0] := by kernel_rfl
@[go_sem] theorem zv129 : zeroVal Tryz.prog 129 = some (.agg [.i .i64 0, .i .i64 0]) := by kernel_rfl
@[go_sem] theorem fo129_0 : fieldOf? Tryz.prog 129 0 = some (0, 3) := by kernel_rfl
@[go_sem] theorem fa129_0 : fieldAt? Tryz.prog 129 0 = some (0, some 1) := by kernel_rfl
@[go_sem] theorem fo129_1 : fieldOf? Tryz.prog 129 1 = some (1, 3) := by kernel_rfl
@[go_sem] theorem fa129_1 : fieldAt? Tryz.prog 129 1 = some (1, some 1) := by kernel_rfl
@[go_sem] theorem pl129 : placesOf Tryz.prog 129 = some [(0, 1), (1, 1)] := by kernel_rfl
@[go_sem] theorem lf129 : leafFields Tryz.prog 129 = some [3, 3] := by kernel_rfl
@[go_sem] theorem sz130 : szOf Tryz.prog 130 = some 1 := by kernel_rfl
@[go_sem] theorem ag130 : isAggT Tryz.prog 130 = some false := by kernel_rfl
@[go_sem] theorem by130 : byOf Tryz.prog 130 = some 4 := by kernel_rfl
@[go_sem] theorem zo130 : zeroOf Tryz.prog 130 = some [.i .u32 0] := by kernel_rfl
@[go_sem] theorem zv130 : zeroVal Tryz.prog 130 = some (.i .u32 0) := by kernel_rfl
@[go_sem] theorem un130 : Program.underlying Tryz.prog 130 = some (.int .u32) := by kernel_rfl
@[go_sem] theorem sz132 : szOf Tryz.prog 132 = some 1 := by kernel_rfl
@[go_sem] theorem ag132 : isAggT Tryz.prog 132 = some false := by kernel_rfl
@[go_sem] theorem by132 : byOf Tryz.prog 132 = some 8 := by kernel_rfl
@[go_sem] theorem zo132 : zeroOf Tryz.prog 132 = some [.p (.pointer Option.none)] := by kernel_rfl
@[go_sem] theorem zv132 : zeroVal Tryz.prog 132 = some (.p (.pointer Option.none)) := by kernel_rfl
end Go.Proofs.YtadileniakikeaaGreatDoor
set_option linter.unusedVariables false
set_option linter.unusedSimpArgs false
namespace Go.Vo

abbrev Str := List UInt8
def avs (l : List Str) : AV := .sl (l.map .s) l.length

/-- the end of a function: a value -/
theorem fin_val {P : Program} {rs : List ResultVar} {env : List AV} {h : List AObj} {e : Exit} {x r : AV} (he : e = .normal ∨ e = .ret) (hx : ares P rs env h = some x) (hr : r = x) (hp : pers x = true) :
    (e = .normal ∨ e = .ret) ∧ ∃ x, ares P rs env h = some x ∧ Fin h x r := ⟨he, x, hx, .inl ⟨hr, hp⟩⟩
def avi (l : List Int) : AV := .sl (l.map (.i .i64)) l.length
def pairCells (b : Str × Str) : List AV := [.s b.1, .s b.2]
def avb (l : List (Str × Str)) : AV := .sl (l.flatMap pairCells) l.length
structure LOp where
  name : Str
  args : List Str
  sort : Str
  pieces : List (Str × Str)
  prec : Int
  assoc : Int
  strict : List Int
  deriving DecidableEq
instance : Inhabited LOp := ⟨⟨[], [], [], [], 0, 0, []⟩⟩
def opCells (o : LOp) : List AV := [.s o.name, avs o.args, .s o.sort, avb o.pieces, .i .i64 o.prec, .i .i64 o.assoc, avi o.strict]
def avo (l : List LOp) : AV := .sl (l.flatMap opCells) l.length
structure LSig where
  sorts : List Str
  below : List (Str × Str)
  ops : List LOp
  funs : List LOp
  values : List Str
  deriving DecidableEq
def sigCells (s : LSig) : List AV := [avs s.sorts, avb s.below, avo s.ops, avo s.funs, avs s.values]

theorem pair_len (x : Str × Str) : (pairCells x).length = 2 := rfl
theorem op_len (x : LOp) : (opCells x).length = 7 := rfl
theorem persL_avs {l : List Str} : pers (avs l) = true := by simp only [avs, pers, persL_s]
theorem persL_avi {l : List Int} : pers (avi l) = true := by simp only [avi, pers, persL_i]
theorem persL_pair {l : List (Str × Str)} : persL (l.flatMap pairCells) = true := by
  induction l with
  | nil => rfl
  | cons x l ih => simp [pairCells, persL, pers, ih]
theorem persL_op {l : List LOp} : persL (l.flatMap opCells) = true := by
  induction l with
  | nil => rfl
  | cons x l ih => simp only [List.flatMap_cons, opCells, List.cons_append, List.nil_append, persL, persL_avs, persL_avi, ih, avb, pers, persL_pair, Bool.and_self]
variable {k : Nat}
theorem pair_get0 {l : List (Str × Str)} (h : k < l.length) : (l.flatMap pairCells)[k * 2]? = some (.s (l.getD k ([], [])).1) := by
  have := flat_get pair_len l k (j := 0) (by omega)
  simpa [h, List.getD, pairCells] using this
theorem pair_get1 {l : List (Str × Str)} (h : k < l.length) : (l.flatMap pairCells)[k * 2 + 1]? = some (.s (l.getD k ([], [])).2) := by
  have := flat_get pair_len l k (j := 1) (by omega)
  simpa [h, List.getD, pairCells] using this
theorem pair_win {l : List (Str × Str)} (h : k < l.length) : ((l.flatMap pairCells).drop (k * 2)).take 2 = pairCells (l.getD k ([], [])) := by
  rw [flat_win pair_len]
  simp [h, List.getD]
theorem pair_flat_len {l : List (Str × Str)} : (l.flatMap pairCells).length = l.length * 2 := flat_len pair_len l
theorem pair_take {l : List (Str × Str)} : (l.flatMap pairCells).take (k * 2) = (l.take k).flatMap pairCells := flat_take pair_len l k
theorem pair_drop {l : List (Str × Str)} : (l.flatMap pairCells).drop (k * 2) = (l.drop k).flatMap pairCells := flat_drop pair_len l k
attribute [go_sem] pair_get0 pair_get1 pair_win pair_flat_len pair_take
theorem op_get0 {l : List LOp} (h : k < l.length) : (l.flatMap opCells)[k * 7]? = some (.s (l.getD k default).name) := by
  have := flat_get op_len l k (j := 0) (by omega)
  simpa [h, List.getD, opCells] using this
theorem op_get1 {l : List LOp} (h : k < l.length) : (l.flatMap opCells)[k * 7 + 1]? = some (avs (l.getD k default).args) := by
  have := flat_get op_len l k (j := 1) (by omega)
  simpa [h, List.getD, opCells] using this
theorem op_get2 {l : List LOp} (h : k < l.length) : (l.flatMap opCells)[k * 7 + 2]? = some (.s (l.getD k default).sort) := by
  have := flat_get op_len l k (j := 2) (by omega)
  simpa [h, List.getD, opCells] using this
theorem op_get3 {l : List LOp} (h : k < l.length) : (l.flatMap opCells)[k * 7 + 3]? = some (avb (l.getD k default).pieces) := by
  have := flat_get op_len l k (j := 3) (by omega)
  simpa [h, List.getD, opCells] using this
theorem op_get4 {l : List LOp} (h : k < l.length) : (l.flatMap opCells)[k * 7 + 4]? = some (.i .i64 (l.getD k default).prec) := by
  have := flat_get op_len l k (j := 4) (by omega)
  simpa [h, List.getD, opCells] using this
theorem op_get5 {l : List LOp} (h : k < l.length) : (l.flatMap opCells)[k * 7 + 5]? = some (.i .i64 (l.getD k default).assoc) := by
  have := flat_get op_len l k (j := 5) (by omega)
  simpa [h, List.getD, opCells] using this
theorem op_get6 {l : List LOp} (h : k < l.length) : (l.flatMap opCells)[k * 7 + 6]? = some (avi (l.getD k default).strict) := by
  have := flat_get op_len l k (j := 6) (by omega)
  simpa [h, List.getD, opCells] using this
theorem op_win {l : List LOp} (h : k < l.length) : ((l.flatMap opCells).drop (k * 7)).take 7 = opCells (l.getD k default) := by
  rw [flat_win op_len]
  simp [h, List.getD]
theorem op_flat_len {l : List LOp} : (l.flatMap opCells).length = l.length * 7 := flat_len op_len l
theorem op_take {l : List LOp} : (l.flatMap opCells).take (k * 7) = (l.take k).flatMap opCells := flat_take op_len l k
theorem op_drop {l : List LOp} : (l.flatMap opCells).drop (k * 7) = (l.drop k).flatMap opCells := flat_drop op_len l k
attribute [go_sem] op_get0 op_get1 op_get2 op_get3 op_get4 op_get5 op_get6 op_win op_flat_len op_take
theorem flatL_pair {l : List (Str × Str)} : flatL (l.flatMap pairCells) = true := by
  induction l with
  | nil => rfl
  | cons x l ih => simp [pairCells, flatL, flat, ih]
attribute [go_sem] persL_pair persL_op flatL_pair avs avi avb avo pairCells opCells sigCells
theorem below_succ {p : Nat → Prop} {k : Nat} (h : ∀ j, j < k → p j) (hk : p k) : ∀ j, j < k + 1 → p j := fun j hj => by
  by_cases h1 : j = k
  · exact h1 ▸ hk
  · exact h j (by omega)
theorem all_getD {α : Type} {l : List α} {p : α → Bool} {d : α} (h : ∀ j, j < l.length → p (l.getD j d) = true) : l.all p = true := by
  rw [List.all_eq_true]
  intro x hx
  obtain ⟨j, hj, rfl⟩ := List.mem_iff_getElem.1 hx
  have := h j hj
  simpa [List.getD, hj] using this
theorem not_all_getD {α : Type} {l : List α} {p : α → Bool} {d : α} {j : Nat} (hj : j < l.length) (h : p (l.getD j d) = false) : l.all p = false := by
  rw [List.all_eq_false]
  exact ⟨l[j], List.getElem_mem hj, by simpa [List.getD, hj] using h⟩
theorem any_getD {α : Type} {l : List α} {p : α → Bool} {d : α} {j : Nat} (hj : j < l.length) (h : p (l.getD j d) = true) : l.any p = true :=
  List.any_eq_true.2 ⟨l[j], List.getElem_mem hj, by simpa [List.getD, hj] using h⟩
theorem not_any_getD {α : Type} {l : List α} {p : α → Bool} {d : α} (h : ∀ j, j < l.length → p (l.getD j d) = false) : l.any p = false := by
  rw [List.any_eq_false]
  intro x hx
  obtain ⟨j, hj, rfl⟩ := List.mem_iff_getElem.1 hx
  have := h j hj
  simpa [List.getD, hj] using this
theorem eq_getD {α : Type} {l m : List α} {d : α} (hl : l.length = m.length) (h : ∀ j, j < l.length → l.getD j d = m.getD j d) : l = m := by
  apply List.ext_getElem hl
  intro j h1 h2
  have := h j h1
  simpa [List.getD, h1, h2] using this
theorem take_getD {α : Type} {l : List α} {d : α} {k : Nat} (h : k < l.length) : l.take (k + 1) = l.take k ++ [l.getD k d] := by
  rw [List.take_succ_eq_append_getElem h]; simp [List.getD, h]
end Go.Vo
set_option maxRecDepth 100000
set_option linter.unusedSimpArgs false
set_option linter.unusedVariables false
namespace Go.Proofs.YtadileniakikeaaGreatDoor
open Go Go.Vo

def letter (n : Int) : Bool := decide (97 ≤ n) && decide (n ≤ 122) || decide (65 ≤ n) && decide (n ≤ 90)
def digit (n : Int) : Bool := decide (48 ≤ n) && decide (n ≤ 57)

set_option maxHeartbeats 4000000 in
theorem ctr96 (n : Int): Ctr Tryz.prog G0 96 [.i .u8 n] (.b (letter n)) := by
  refine sem_intro (rx := false) mixed Tryz.func96 rfl (by kernel_rfl) (by kernel_rfl) (ac := ?_) ?_ g0 ?_
  rotate_left
  · simp only [strip, stripOps, stripOp, hoist, List.filter_cons, List.filter_nil, List.nil_append, List.cons_append, isFree, anyPre, Region.binds, Bool.not_true, Bool.not_false, Bool.false_eq_true, if_true, if_false, Option.isNone_none, Option.isNone_some, Bool.true_and, Bool.false_and, List.map_nil, List.map_cons, List.isEmpty_nil, List.isEmpty_cons, List.append_nil]
    rfl
  · simp -implicitDefEqProofs (disch := omega) only [Tryz.f96, go_sem, List.replicate, ↓reduceIte, Nat.reduceAdd, Nat.reduceSub, Nat.reduceMul, Nat.reduceLeDiff, Nat.reduceLT, Nat.reduceEqDiff, Int.reduceNeg, Nat.reduceBEq]
    repeat' (first | refine g_true ?_ ?_ | refine g_false ?_ ?_ | refine cond_intro ?_ ?_ | (intro hc; simp -implicitDefEqProofs only [hc, go_sem]))
    all_goals (refine fin_eq ?_ (by rfl); simp_all [letter] <;> omega)
set_option maxHeartbeats 4000000 in
theorem ctr98 (n : Int): Ctr Tryz.prog G0 98 [.i .u8 n] (.b (letter n)) := by
  refine sem_intro (rx := false) mixed Tryz.func98 rfl (by kernel_rfl) (by kernel_rfl) (ac := ?_) ?_ g0 ?_
  rotate_left
  · simp only [strip, stripOps, stripOp, hoist, List.filter_cons, List.filter_nil, List.nil_append, List.cons_append, isFree, anyPre, Region.binds, Bool.not_true, Bool.not_false, Bool.false_eq_true, if_true, if_false, Option.isNone_none, Option.isNone_some, Bool.true_and, Bool.false_and, List.map_nil, List.map_cons, List.isEmpty_nil, List.isEmpty_cons, List.append_nil]
    rfl
  · simp -implicitDefEqProofs (disch := omega) only [Tryz.f98, go_sem, List.replicate, ↓reduceIte, Nat.reduceAdd, Nat.reduceSub, Nat.reduceMul, Nat.reduceLeDiff, Nat.reduceLT, Nat.reduceEqDiff, Int.reduceNeg, Nat.reduceBEq]
    repeat' (first | refine g_true ?_ ?_ | refine g_false ?_ ?_ | refine cond_intro ?_ ?_ | (intro hc; simp -implicitDefEqProofs only [hc, go_sem]))
    all_goals (refine fin_eq ?_ (by rfl); simp_all [letter] <;> omega)
set_option maxHeartbeats 4000000 in
theorem ctr99 (n : Int): Ctr Tryz.prog G0 99 [.i .u8 n] (.b (digit n)) := by
  refine sem_intro (rx := false) mixed Tryz.func99 rfl (by kernel_rfl) (by kernel_rfl) (ac := ?_) ?_ g0 ?_
  rotate_left
  · simp only [strip, stripOps, stripOp, hoist, List.filter_cons, List.filter_nil, List.nil_append, List.cons_append, isFree, anyPre, Region.binds, Bool.not_true, Bool.not_false, Bool.false_eq_true, if_true, if_false, Option.isNone_none, Option.isNone_some, Bool.true_and, Bool.false_and, List.map_nil, List.map_cons, List.isEmpty_nil, List.isEmpty_cons, List.append_nil]
    rfl
  · simp -implicitDefEqProofs (disch := omega) only [Tryz.f99, go_sem, List.replicate, ↓reduceIte, Nat.reduceAdd, Nat.reduceSub, Nat.reduceMul, Nat.reduceLeDiff, Nat.reduceLT, Nat.reduceEqDiff, Int.reduceNeg, Nat.reduceBEq]
    repeat' (first | refine g_true ?_ ?_ | refine g_false ?_ ?_ | refine cond_intro ?_ ?_ | (intro hc; simp -implicitDefEqProofs only [hc, go_sem]))
    all_goals (refine fin_eq ?_ (by rfl); simp_all [digit] <;> omega)
def part (n : Int) : Bool := letter n || digit n || decide (n = 95)
set_option maxHeartbeats 4000000 in
theorem ctr97 (n : Int): Ctr Tryz.prog G0 97 [.i .u8 n] (.b (part n)) := by
  refine sem_intro (rx := false) mixed Tryz.func97 rfl (by kernel_rfl) (by kernel_rfl) (ac := ?_) ?_ g0 ?_
  rotate_left
  · simp only [strip, stripOps, stripOp, hoist, List.filter_cons, List.filter_nil, List.nil_append, List.cons_append, isFree, anyPre, Region.binds, Bool.not_true, Bool.not_false, Bool.false_eq_true, if_true, if_false, Option.isNone_none, Option.isNone_some, Bool.true_and, Bool.false_and, List.map_nil, List.map_cons, List.isEmpty_nil, List.isEmpty_cons, List.append_nil]
    rfl
  · simp -implicitDefEqProofs (disch := omega) only [Tryz.f97, go_sem, List.replicate, ↓reduceIte, Nat.reduceAdd, Nat.reduceSub, Nat.reduceMul, Nat.reduceLeDiff, Nat.reduceLT, Nat.reduceEqDiff, Int.reduceNeg, Nat.reduceBEq]
    repeat' (first | refine g_true ?_ ?_ | refine g_false ?_ ?_ | refine cond_intro ?_ ?_ | refine c_ctr (ctr96 _) ?_; simp -implicitDefEqProofs only [go_sem] | (intro hc; simp -implicitDefEqProofs only [hc, go_sem]))
    all_goals (refine fin_eq ?_ (by rfl); simp_all [part, digit] <;> omega)
end Go.Proofs.YtadileniakikeaaGreatDoor
set_option maxRecDepth 100000
set_option linter.unusedSimpArgs false
set_option linter.unusedVariables false
namespace Go.Proofs.YtadileniakikeaaGreatDoor
open Go Go.Vo

/-- a byte of a string -/
def at_ (s : Str) (k : Nat) : Int := ((s.getD k 0).toNat : Int)
def isName (s : Str) : Bool := !s.isEmpty && decide (s.length ≤ 40) && letter (at_ s 0) && s.all fun c => part c.toNat

theorem all_at {s : Str} {q : Int → Bool} (h : ∀ j, j < s.length → q (at_ s j) = true) : (s.all fun c => q c.toNat) = true := by
  rw [List.all_eq_true]
  intro c hc
  obtain ⟨j, hj, rfl⟩ := List.mem_iff_getElem.1 hc
  have := h j hj
  simpa [at_, hj] using this
theorem not_all_at {s : Str} {q : Int → Bool} {j : Nat} (hj : j < s.length) (h : q (at_ s j) = false) : (s.all fun c => q c.toNat) = false := by
  rw [List.all_eq_false]
  exact ⟨s[j], List.getElem_mem hj, by simpa [at_, hj] using h⟩

set_option maxHeartbeats 4000000 in
theorem ctr41 (s : Str) (hs : s.length ≤ 140737488355328): Ctr Tryz.prog G0 41 [.s s] (.b (isName s)) := by
  refine sem_intro (rx := false) mixed Tryz.func41 rfl (by kernel_rfl) (by kernel_rfl) (ac := ?_) ?_ g0 ?_
  rotate_left
  · simp only [strip, stripOps, stripOp, hoist, List.filter_cons, List.filter_nil, List.nil_append, List.cons_append, isFree, anyPre, Region.binds, Bool.not_true, Bool.not_false, Bool.false_eq_true, if_true, if_false, Option.isNone_none, Option.isNone_some, Bool.true_and, Bool.false_and, List.map_nil, List.map_cons, List.isEmpty_nil, List.isEmpty_cons, List.append_nil]
    rfl
  · simp -implicitDefEqProofs (disch := omega) only [Tryz.f41, go_sem, List.replicate, ↓reduceIte, Nat.reduceAdd, Nat.reduceSub, Nat.reduceMul, Nat.reduceLeDiff, Nat.reduceLT, Nat.reduceEqDiff, Int.reduceNeg, Nat.reduceBEq]
    (repeat' (first | refine g_true ?_ ?_ | refine g_false ?_ ?_ | refine cond_intro ?_ ?_ | (refine c_ctr (ctr96 _) ?_; simp -implicitDefEqProofs (disch := omega) only [go_sem, ↓reduceIte, Nat.reduceAdd, Nat.reduceSub, Nat.reduceMul, Nat.reduceLeDiff, Nat.reduceLT, Nat.reduceEqDiff, Int.reduceNeg, Nat.reduceBEq]) | refine And.intro (by omega) ?_ | (intro hr; have hc := hr; (try simp only [decide_eq_true_eq, decide_eq_false_iff_not, Bool.not_eq_true', Bool.not_eq_false'] at hc); simp -implicitDefEqProofs (disch := omega) only [hr, go_sem, ↓reduceIte, Nat.reduceAdd, Nat.reduceSub, Nat.reduceMul, Nat.reduceLeDiff, Nat.reduceLT, Nat.reduceEqDiff, Int.reduceNeg, Nat.reduceBEq]; (try clear hr))))
    any_goals (refine fin_eq ?_ (by rfl); simp_all [isName, at_] <;> omega)
    refine x_loopJ (fun (k : Nat) => [.k, .k, .j, .j, .k, .k, .k, .k, .k, .k, .k, .k, .k, .k, .k, .k, .k, .k, .k, .v (.i .i64 k), .j, .j, .j, .j, .j, .j, .j, .j]) (fun k => []) (fun k => k ≤ s.length ∧ ∀ j, j < k → part (at_ s j) = true) (fun k => s.length - k) (0) ⟨Nat.zero_le _, fun j h => by omega⟩ rfl (by simp [Fits]) ?_
    rintro k j ⟨hk, ha⟩
    simp -implicitDefEqProofs (disch := omega) only [go_sem, ↓reduceIte, Nat.reduceAdd, Nat.reduceSub, Nat.reduceMul, Nat.reduceLeDiff, Nat.reduceLT, Nat.reduceEqDiff, Int.reduceNeg, Nat.reduceBEq]
    (repeat' (first | refine g_true ?_ ?_ | refine g_false ?_ ?_ | refine cond_intro ?_ ?_ | (refine c_ctr (ctr97 _) ?_; simp -implicitDefEqProofs (disch := omega) only [go_sem, ↓reduceIte, Nat.reduceAdd, Nat.reduceSub, Nat.reduceMul, Nat.reduceLeDiff, Nat.reduceLT, Nat.reduceEqDiff, Int.reduceNeg, Nat.reduceBEq]) | refine And.intro (by omega) ?_ | (intro hr; have hc := hr; (try simp only [decide_eq_true_eq, decide_eq_false_iff_not, Bool.not_eq_true', Bool.not_eq_false'] at hc); simp -implicitDefEqProofs (disch := omega) only [hr, go_sem, ↓reduceIte, Nat.reduceAdd, Nat.reduceSub, Nat.reduceMul, Nat.reduceLeDiff, Nat.reduceLT, Nat.reduceEqDiff, Int.reduceNeg, Nat.reduceBEq]; (try clear hr))))
    · refine fin_eq ?_ (by rfl)
      simp only [isName, not_all_at (show k < s.length by omega) (by simpa [at_] using hc), Bool.and_false]
    · exact ⟨k + 1, ⟨by omega, below_succ ha (by simpa [at_] using hc)⟩, by omega, by simp⟩
    · refine fin_eq ?_ (by rfl)
      have h1 : k = s.length := by omega
      simp only [isName, all_at (h1 ▸ ha)]
      simp_all [at_] <;> omega
end Go.Proofs.YtadileniakikeaaGreatDoor
set_option maxRecDepth 100000
set_option linter.unusedSimpArgs false
set_option linter.unusedVariables false
namespace Go.Proofs.YtadileniakikeaaGreatDoor
open Go Go.Vo

def okAt (s : Str) (j : Nat) : Bool := letter (at_ s j) || (decide (j ≠ 0) && part (at_ s j))
theorem isName_ok {s : Str} (h : ∀ j, j < s.length → okAt s j = true) (h1 : 1 ≤ s.length) (h2 : s.length ≤ 40) : isName s = true := by
  have h0 := h 0 (by omega)
  have hp : (s.all fun c => part c.toNat) = true := all_at (fun j hj => by
    have := h j hj
    unfold okAt at this
    simp only [Bool.or_eq_true, Bool.and_eq_true] at this
    rcases this with h | h
    · simp [part, h]
    · exact h.2)
  have hl : letter (at_ s 0) = true := by simpa [okAt] using h0
  have hne : s ≠ [] := by intro h; simp [h] at h1
  simp [isName, hp, hl, h2, hne]
theorem isName_no {s : Str} {j : Nat} (hj : j < s.length) (h : okAt s j = false) : isName s = false := by
  unfold okAt at h
  simp only [Bool.or_eq_false_iff, Bool.and_eq_false_iff] at h
  rcases h with ⟨h1, h2 | h2⟩
  · have : j = 0 := by simpa using h2
    subst this
    simp [isName, h1]
  · simp [isName, not_all_at hj h2]

set_option maxHeartbeats 4000000 in
theorem ctr42 (s : Str) (hs : s.length ≤ 140737488355328): Ctr Tryz.prog G0 42 [.s s] (.b (isName s)) := by
  refine sem_intro (rx := false) mixed Tryz.func42 rfl (by kernel_rfl) (by kernel_rfl) (ac := ?_) ?_ g0 ?_
  rotate_left
  · simp only [strip, stripOps, stripOp, hoist, List.filter_cons, List.filter_nil, List.nil_append, List.cons_append, isFree, anyPre, Region.binds, Bool.not_true, Bool.not_false, Bool.false_eq_true, if_true, if_false, Option.isNone_none, Option.isNone_some, Bool.true_and, Bool.false_and, List.map_nil, List.map_cons, List.isEmpty_nil, List.isEmpty_cons, List.append_nil]
    rfl
  · simp -implicitDefEqProofs (disch := omega) only [Tryz.f42, go_sem, List.replicate, ↓reduceIte, Nat.reduceAdd, Nat.reduceSub, Nat.reduceMul, Nat.reduceLeDiff, Nat.reduceLT, Nat.reduceEqDiff, Int.reduceNeg, Nat.reduceBEq]
    refine x_loopJ (fun (k : Nat) => [.k, .k, .j, .j, .k, .k, .v (.i .i64 k), .j, .j, .j, .j, .j, .j, .j, .j, .j, .j, .j, .j, .j, .j, .j, .j, .j, .j, .j, .j, .j, .j, .j, .j, .j, .k, .k, .k, .k, .k, .k, .k, .k]) (fun k => []) (fun k => k ≤ s.length ∧ ∀ j, j < k → okAt s j = true) (fun k => s.length - k) (0) ⟨Nat.zero_le _, fun j h => by omega⟩ rfl (by simp [Fits]) ?_
    rintro k j ⟨hk, ha⟩
    simp -implicitDefEqProofs (disch := omega) only [go_sem, ↓reduceIte, Nat.reduceAdd, Nat.reduceSub, Nat.reduceMul, Nat.reduceLeDiff, Nat.reduceLT, Nat.reduceEqDiff, Int.reduceNeg, Nat.reduceBEq]
    (repeat' (first | refine g_true ?_ ?_ | refine g_false ?_ ?_ | refine cond_intro ?_ ?_ | (refine c_ctr (ctr98 _) ?_; simp -implicitDefEqProofs (disch := omega) only [go_sem, ↓reduceIte, Nat.reduceAdd, Nat.reduceSub, Nat.reduceMul, Nat.reduceLeDiff, Nat.reduceLT, Nat.reduceEqDiff, Int.reduceNeg, Nat.reduceBEq]) | (refine c_ctr (ctr99 _) ?_; simp -implicitDefEqProofs (disch := omega) only [go_sem, ↓reduceIte, Nat.reduceAdd, Nat.reduceSub, Nat.reduceMul, Nat.reduceLeDiff, Nat.reduceLT, Nat.reduceEqDiff, Int.reduceNeg, Nat.reduceBEq]) | refine And.intro (by omega) ?_ | (intro hr; have hc := hr; (try simp only [decide_eq_true_eq, decide_eq_false_iff_not, Bool.not_eq_true', Bool.not_eq_false'] at hc); simp -implicitDefEqProofs (disch := omega) only [hr, go_sem, ↓reduceIte, Nat.reduceAdd, Nat.reduceSub, Nat.reduceMul, Nat.reduceLeDiff, Nat.reduceLT, Nat.reduceEqDiff, Int.reduceNeg, Nat.reduceBEq]; (try clear hr))))
    all_goals first | refine Exists.intro (k + 1) ⟨⟨by omega, below_succ ha (by simp_all [okAt, at_, part] <;> omega)⟩, by omega, by simp⟩ | refine fin_eq ?_ (by rfl)
    · rw [isName_no (j := k) (by omega) (by simp_all [okAt, at_, part] <;> omega)]
    · rw [isName_no (j := k) (by omega) (by simp_all [okAt, at_, part] <;> omega)]
    · have h1 : k = s.length := by omega
      by_cases h2 : s.length ≤ 40
      · rw [isName_ok (h1 ▸ ha) (by omega) h2]; simp; omega
      · have e1 : isName s = false := by simp [isName, h2]
        rw [e1]; congr 1; symm; simp; omega
    · have : s = [] := List.eq_nil_of_length_eq_zero (by omega)
      simp [this, isName]
def isFrame (s : Str) : Bool := decide (2 < s.length) && decide (at_ s (s.length - 2) = 39) && decide (49 ≤ at_ s (s.length - 1)) && decide (at_ s (s.length - 1) ≤ 56)
def base (s : Str) : Str := if isFrame s then s.take (s.length - 2) else s
def frame (s : Str) : Str := if isFrame s then s.drop (s.length - 2) else []
set_option maxHeartbeats 4000000 in
theorem ctr109 (s : Str) (hs : s.length ≤ 140737488355328): Ctr Tryz.prog G0 109 [.s s] (.tup [.s (base s), .s (frame s)]) := by
  refine sem_intro (rx := false) mixed Tryz.func109 rfl (by kernel_rfl) (by kernel_rfl) (ac := ?_) ?_ g0 ?_
  rotate_left
  · simp only [strip, stripOps, stripOp, hoist, List.filter_cons, List.filter_nil, List.nil_append, List.cons_append, isFree, anyPre, Region.binds, Bool.not_true, Bool.not_false, Bool.false_eq_true, if_true, if_false, Option.isNone_none, Option.isNone_some, Bool.true_and, Bool.false_and, List.map_nil, List.map_cons, List.isEmpty_nil, List.isEmpty_cons, List.append_nil]
    rfl
  · simp -implicitDefEqProofs (disch := omega) only [Tryz.f109, go_sem, List.replicate, ↓reduceIte, Nat.reduceAdd, Nat.reduceSub, Nat.reduceMul, Nat.reduceLeDiff, Nat.reduceLT, Nat.reduceEqDiff, Int.reduceNeg, Nat.reduceBEq]
    (repeat' (first | refine g_true ?_ ?_ | refine g_false ?_ ?_ | refine cond_intro ?_ ?_ | refine And.intro (by omega) ?_ | (intro hr; have hc := hr; (try simp only [decide_eq_true_eq, decide_eq_false_iff_not, Bool.not_eq_true', Bool.not_eq_false'] at hc); simp -implicitDefEqProofs (disch := omega) only [hr, go_sem, ↓reduceIte, Nat.reduceAdd, Nat.reduceSub, Nat.reduceMul, Nat.reduceLeDiff, Nat.reduceLT, Nat.reduceEqDiff, Int.reduceNeg, Nat.reduceBEq]; (try clear hr))))
    all_goals (refine fin_eq ?_ (by rfl))
    · have h : isFrame s = true := by simp_all [isFrame, at_] <;> omega
      simp [base, frame, h]
    all_goals (have h : isFrame s = false := by simp_all [isFrame, at_] <;> omega)
    all_goals simp [base, frame, h]
set_option maxHeartbeats 4000000 in
theorem ctr138 (s : Str) (hs : s.length ≤ 140737488355328): Ctr Tryz.prog G0 138 [.s s] (.tup [.s (base s), .s (frame s)]) := by
  refine sem_intro (rx := false) mixed Tryz.func138 rfl (by kernel_rfl) (by kernel_rfl) (ac := ?_) ?_ g0 ?_
  rotate_left
  · simp only [strip, stripOps, stripOp, hoist, List.filter_cons, List.filter_nil, List.nil_append, List.cons_append, isFree, anyPre, Region.binds, Bool.not_true, Bool.not_false, Bool.false_eq_true, if_true, if_false, Option.isNone_none, Option.isNone_some, Bool.true_and, Bool.false_and, List.map_nil, List.map_cons, List.isEmpty_nil, List.isEmpty_cons, List.append_nil]
    rfl
  · simp -implicitDefEqProofs (disch := omega) only [Tryz.f138, go_sem, List.replicate, ↓reduceIte, Nat.reduceAdd, Nat.reduceSub, Nat.reduceMul, Nat.reduceLeDiff, Nat.reduceLT, Nat.reduceEqDiff, Int.reduceNeg, Nat.reduceBEq]
    (repeat' (first | refine g_true ?_ ?_ | refine g_false ?_ ?_ | refine cond_intro ?_ ?_ | refine And.intro (by omega) ?_ | (intro hr; have hc := hr; (try simp only [decide_eq_true_eq, decide_eq_false_iff_not, Bool.not_eq_true', Bool.not_eq_false'] at hc); simp -implicitDefEqProofs (disch := omega) only [hr, go_sem, ↓reduceIte, Nat.reduceAdd, Nat.reduceSub, Nat.reduceMul, Nat.reduceLeDiff, Nat.reduceLT, Nat.reduceEqDiff, Int.reduceNeg, Nat.reduceBEq]; (try clear hr))))
    all_goals (refine fin_eq ?_ (by rfl))
    · have h : isFrame s = true := by simp_all [isFrame, at_] <;> omega
      simp [base, frame, h]
    all_goals (have h : isFrame s = false := by simp_all [isFrame, at_] <;> omega)
    all_goals simp [base, frame, h]
theorem base_len (s : Str) : (base s).length ≤ s.length := by unfold base; split <;> simp <;> omega
set_option maxHeartbeats 4000000 in
theorem ctr115 (s : Str) (hs : s.length ≤ 140737488355328): Ctr Tryz.prog G0 115 [.s s] (.b (isName (base s))) := by
  refine sem_intro (rx := false) mixed Tryz.func115 rfl (by kernel_rfl) (by kernel_rfl) (ac := ?_) ?_ g0 ?_
  rotate_left
  · simp only [strip, stripOps, stripOp, hoist, List.filter_cons, List.filter_nil, List.nil_append, List.cons_append, isFree, anyPre, Region.binds, Bool.not_true, Bool.not_false, Bool.false_eq_true, if_true, if_false, Option.isNone_none, Option.isNone_some, Bool.true_and, Bool.false_and, List.map_nil, List.map_cons, List.isEmpty_nil, List.isEmpty_cons, List.append_nil]
    rfl
  · simp -implicitDefEqProofs (disch := omega) only [Tryz.f115, go_sem, List.replicate, ↓reduceIte, Nat.reduceAdd, Nat.reduceSub, Nat.reduceMul, Nat.reduceLeDiff, Nat.reduceLT, Nat.reduceEqDiff, Int.reduceNeg, Nat.reduceBEq]
    (repeat' (first | refine g_true ?_ ?_ | refine g_false ?_ ?_ | refine cond_intro ?_ ?_ | (refine c_ctrE (ctr138 s hs) ?_ ?_; (focus (simp -implicitDefEqProofs (disch := omega) only [avs, avb, avi, avo, sigCells, opCells, pairCells, go_sem, ↓reduceIte, Nat.reduceAdd, Nat.reduceSub, Nat.reduceMul, Nat.reduceLeDiff, Nat.reduceLT, Nat.reduceEqDiff, Int.reduceNeg, Nat.reduceBEq]; done)); simp -implicitDefEqProofs (disch := omega) only [go_sem, ↓reduceIte, Nat.reduceAdd, Nat.reduceSub, Nat.reduceMul, Nat.reduceLeDiff, Nat.reduceLT, Nat.reduceEqDiff, Int.reduceNeg, Nat.reduceBEq]) | (refine c_ctr (ctr42 _ (Nat.le_trans (base_len s) hs)) ?_; simp -implicitDefEqProofs (disch := omega) only [go_sem, ↓reduceIte, Nat.reduceAdd, Nat.reduceSub, Nat.reduceMul, Nat.reduceLeDiff, Nat.reduceLT, Nat.reduceEqDiff, Int.reduceNeg, Nat.reduceBEq]) | refine And.intro (by omega) ?_ | (intro hr; have hc := hr; (try simp only [decide_eq_true_eq, decide_eq_false_iff_not, Bool.not_eq_true', Bool.not_eq_false'] at hc); simp -implicitDefEqProofs (disch := omega) only [hr, go_sem, ↓reduceIte, Nat.reduceAdd, Nat.reduceSub, Nat.reduceMul, Nat.reduceLeDiff, Nat.reduceLT, Nat.reduceEqDiff, Int.reduceNeg, Nat.reduceBEq]; (try clear hr))))
    refine fin_eq ?_ (by rfl); rfl
theorem contains_at {l : List Str} {s : Str} {k : Nat} (hk : k < l.length) (h : l.getD k [] = s) : l.contains s = true := by
  have h1 : l[k]? = some s := by simpa [List.getD, hk] using h
  simpa using List.mem_of_getElem? h1
theorem not_contains {l : List Str} {s : Str} (h : ∀ j, j < l.length → l.getD j [] ≠ s) : l.contains s = false := by
  have : s ∉ l := by
    intro hm
    obtain ⟨j, hj, he⟩ := List.mem_iff_getElem.1 hm
    exact h j hj (by simp [List.getD, hj, he])
  simpa using this
set_option maxHeartbeats 4000000 in
theorem ctr27 (l : List Str) (s : Str) (hl : l.length ≤ 140737488355328): Ctr Tryz.prog G0 27 [avs l, .s s] (.b (l.contains s)) := by
  refine sem_intro (rx := false) mixed Tryz.func27 rfl (by kernel_rfl) (by kernel_rfl) (ac := ?_) ?_ g0 ?_
  rotate_left
  · simp only [strip, stripOps, stripOp, hoist, List.filter_cons, List.filter_nil, List.nil_append, List.cons_append, isFree, anyPre, Region.binds, Bool.not_true, Bool.not_false, Bool.false_eq_true, if_true, if_false, Option.isNone_none, Option.isNone_some, Bool.true_and, Bool.false_and, List.map_nil, List.map_cons, List.isEmpty_nil, List.isEmpty_cons, List.append_nil]
    rfl
  · simp -implicitDefEqProofs (disch := omega) only [Tryz.f27, go_sem, List.replicate, ↓reduceIte, Nat.reduceAdd, Nat.reduceSub, Nat.reduceMul, Nat.reduceLeDiff, Nat.reduceLT, Nat.reduceEqDiff, Int.reduceNeg, Nat.reduceBEq, avs]
    refine x_loopJ (fun (k : Nat) => [.k, .k, .k, .k, .j, .k, .j, .k, .k, .v (.i .i64 k), .j, .j, .j, .j, .j, .j, .j]) (fun k => []) (fun k => k ≤ l.length ∧ ∀ j, j < k → l.getD j [] ≠ s) (fun k => l.length - k) (0) ⟨Nat.zero_le _, fun j h => by omega⟩ rfl (by simp [Fits]) ?_
    rintro k j ⟨hk, ha⟩
    simp -implicitDefEqProofs (disch := omega) only [go_sem, ↓reduceIte, Nat.reduceAdd, Nat.reduceSub, Nat.reduceMul, Nat.reduceLeDiff, Nat.reduceLT, Nat.reduceEqDiff, Int.reduceNeg, Nat.reduceBEq]
    (repeat' (first | refine g_true ?_ ?_ | refine g_false ?_ ?_ | refine cond_intro ?_ ?_ | refine And.intro (by omega) ?_ | (intro hr; have hc := hr; (try simp only [decide_eq_true_eq, decide_eq_false_iff_not, Bool.not_eq_true', Bool.not_eq_false'] at hc); simp -implicitDefEqProofs (disch := omega) only [hr, go_sem, ↓reduceIte, Nat.reduceAdd, Nat.reduceSub, Nat.reduceMul, Nat.reduceLeDiff, Nat.reduceLT, Nat.reduceEqDiff, Int.reduceNeg, Nat.reduceBEq]; (try clear hr))))
    · refine fin_eq ?_ (by rfl)
      rw [contains_at (k := k) (by omega) (by assumption)]
    · exact ⟨k + 1, ⟨by omega, below_succ ha (by assumption)⟩, by omega, by simp⟩
    · refine fin_eq ?_ (by rfl)
      have h1 : k = l.length := by omega
      rw [not_contains (h1 ▸ ha)]
end Go.Proofs.YtadileniakikeaaGreatDoor
set_option maxRecDepth 100000
set_option linter.unusedSimpArgs false
set_option linter.unusedVariables false
namespace Go.Proofs.YtadileniakikeaaGreatDoor
open Go Go.Vo

def alwaysA : List Str := [[65, 110, 121], [73, 110, 116], [66, 111, 111, 108], [84, 101, 120, 116], [73, 100], [76, 105, 115, 116], [77, 97, 112]]
set_option maxHeartbeats 4000000 in
theorem ctr48 : Ctr Tryz.prog G0 48 [] (.own 1 (alwaysA.map .s) alwaysA.length) := by
  refine sem_intro (rx := false) mixed Tryz.func48 rfl (by kernel_rfl) (by kernel_rfl) (ac := ?_) ?_ g0 ?_
  rotate_left
  · simp only [strip, stripOps, stripOp, hoist, List.filter_cons, List.filter_nil, List.nil_append, List.cons_append, isFree, anyPre, Region.binds, Bool.not_true, Bool.not_false, Bool.false_eq_true, if_true, if_false, Option.isNone_none, Option.isNone_some, Bool.true_and, Bool.false_and, List.map_nil, List.map_cons, List.isEmpty_nil, List.isEmpty_cons, List.append_nil]
    rfl
  · simp -implicitDefEqProofs (disch := omega) only [Tryz.f48, go_sem, List.replicate, ↓reduceIte, Nat.reduceAdd, Nat.reduceSub, Nat.reduceMul, Nat.reduceLeDiff, Nat.reduceLT, Nat.reduceEqDiff, Int.reduceNeg, Nat.reduceBEq]
    exact fin_own rfl rfl rfl rfl rfl
def alwaysB : List Str := [[65, 110, 121], [66, 111, 111, 108], [73, 100], [73, 110, 116], [76, 105, 115, 116], [77, 97, 112], [84, 101, 120, 116]]
set_option maxHeartbeats 4000000 in
theorem ctr78 : Ctr Tryz.prog G0 78 [] (.own 1 (alwaysB.map .s) alwaysB.length) := by
  refine sem_intro (rx := false) mixed Tryz.func78 rfl (by kernel_rfl) (by kernel_rfl) (ac := ?_) ?_ g0 ?_
  rotate_left
  · simp only [strip, stripOps, stripOp, hoist, List.filter_cons, List.filter_nil, List.nil_append, List.cons_append, isFree, anyPre, Region.binds, Bool.not_true, Bool.not_false, Bool.false_eq_true, if_true, if_false, Option.isNone_none, Option.isNone_some, Bool.true_and, Bool.false_and, List.map_nil, List.map_cons, List.isEmpty_nil, List.isEmpty_cons, List.append_nil]
    rfl
  · simp -implicitDefEqProofs (disch := omega) only [Tryz.f78, go_sem, List.replicate, ↓reduceIte, Nat.reduceAdd, Nat.reduceSub, Nat.reduceMul, Nat.reduceLeDiff, Nat.reduceLT, Nat.reduceEqDiff, Int.reduceNeg, Nat.reduceBEq]
    exact fin_own rfl rfl rfl rfl rfl

/-- the first place where it holds -/
def idx {α : Type} (p : α → Bool) (l : List α) : Int := match l.findIdx? p with | some i => i | none => -1
theorem idx_some {α : Type} {p : α → Bool} {l : List α} {d : α} {k : Nat} (hk : k < l.length) (h : p (l.getD k d) = true) (hn : ∀ j, j < k → p (l.getD j d) = false) : idx p l = k := by
  have : l.findIdx? p = some k := by
    rw [List.findIdx?_eq_some_iff_getElem]
    refine ⟨hk, by simpa [List.getD, hk] using h, fun j hj => ?_⟩
    have := hn j hj
    simpa [List.getD, show j < l.length by omega] using this
  simp [idx, this]
theorem idx_none {α : Type} {p : α → Bool} {l : List α} {d : α} (hn : ∀ j, j < l.length → p (l.getD j d) = false) : idx p l = -1 := by
  have : l.findIdx? p = none := by
    rw [List.findIdx?_eq_none_iff]
    intro x hx
    obtain ⟨j, hj, rfl⟩ := List.mem_iff_getElem.1 hx
    have := hn j hj
    simpa [List.getD, hj] using this
  simp [idx, this]
theorem idx_any {α : Type} {p : α → Bool} {l : List α} : decide (0 ≤ idx p l) = l.any p := by
  unfold idx
  cases h : l.findIdx? p with
  | none =>
    rw [List.findIdx?_eq_none_iff] at h
    have : l.any p = false := by rw [List.any_eq_false]; intro x hx; simp [h x hx]
    rw [this]; rfl
  | some i =>
    rw [List.findIdx?_eq_some_iff_getElem] at h
    obtain ⟨hi, hp, _⟩ := h
    have : l.any p = true := List.any_eq_true.2 ⟨_, List.getElem_mem hi, hp⟩
    rw [this]; simp
set_option maxHeartbeats 4000000 in
theorem ctr100 (l : List Str) (s : Str) (hl : l.length ≤ 140737488355328): Ctr Tryz.prog G0 100 [avs l, .s s] (.i .i64 (idx (fun x => decide (s = x)) l)) := by
  refine sem_intro (rx := false) mixed Tryz.func100 rfl (by kernel_rfl) (by kernel_rfl) (ac := ?_) ?_ g0 ?_
  rotate_left
  · simp only [strip, stripOps, stripOp, hoist, List.filter_cons, List.filter_nil, List.nil_append, List.cons_append, isFree, anyPre, Region.binds, Bool.not_true, Bool.not_false, Bool.false_eq_true, if_true, if_false, Option.isNone_none, Option.isNone_some, Bool.true_and, Bool.false_and, List.map_nil, List.map_cons, List.isEmpty_nil, List.isEmpty_cons, List.append_nil]
    rfl
  · simp -implicitDefEqProofs (disch := omega) only [Tryz.f100, go_sem, List.replicate, ↓reduceIte, Nat.reduceAdd, Nat.reduceSub, Nat.reduceMul, Nat.reduceLeDiff, Nat.reduceLT, Nat.reduceEqDiff, Int.reduceNeg, Nat.reduceBEq, avs]
    refine x_loopJ (fun (k : Nat) => [.k, .k, .k, .k, .j, .j, .k, .k, .v (.i .i64 k), .j, .j, .j, .j, .j, .j, .j, .j, .j, .j]) (fun k => []) (fun k => k ≤ l.length ∧ ∀ j, j < k → decide (s = l.getD j []) = false) (fun k => l.length - k) (0) ⟨Nat.zero_le _, fun j h => by omega⟩ rfl (by simp [Fits]) ?_
    rintro k j ⟨hk, ha⟩
    simp -implicitDefEqProofs (disch := omega) only [go_sem, ↓reduceIte, Nat.reduceAdd, Nat.reduceSub, Nat.reduceMul, Nat.reduceLeDiff, Nat.reduceLT, Nat.reduceEqDiff, Int.reduceNeg, Nat.reduceBEq]
    (repeat' (first | refine g_true ?_ ?_ | refine g_false ?_ ?_ | refine cond_intro ?_ ?_ | refine And.intro (by omega) ?_ | (intro hr; have hc := hr; (try simp only [decide_eq_true_eq, decide_eq_false_iff_not, Bool.not_eq_true', Bool.not_eq_false'] at hc); simp -implicitDefEqProofs (disch := omega) only [hr, go_sem, ↓reduceIte, Nat.reduceAdd, Nat.reduceSub, Nat.reduceMul, Nat.reduceLeDiff, Nat.reduceLT, Nat.reduceEqDiff, Int.reduceNeg, Nat.reduceBEq]; (try clear hr))))
    · refine fin_eq ?_ (by rfl)
      rw [idx_some (d := []) (k := k) (by omega) (by simpa using hc) ha]
    · exact ⟨k + 1, ⟨by omega, below_succ ha (by simpa using hc)⟩, by omega, by simp⟩
    · refine fin_eq ?_ (by rfl)
      have h1 : k = l.length := by omega
      rw [idx_none (h1 ▸ ha)]
theorem idx_contains {s : Str} {l : List Str} : decide (0 ≤ idx (fun x => decide (s = x)) l) = l.contains s := by
  rw [idx_any, List.contains_eq_any_beq]
  congr 1
  funext x
  exact Bool.eq_iff_iff.2 (by simp)
set_option maxHeartbeats 4000000 in
theorem ctr47 (l : List Str) (s : Str) (hl : l.length ≤ 140737488355328): Ctr Tryz.prog G0 47 [avs l, .s s] (.b (l.contains s)) := by
  refine sem_intro (rx := false) mixed Tryz.func47 rfl (by kernel_rfl) (by kernel_rfl) (ac := ?_) ?_ g0 ?_
  rotate_left
  · simp only [strip, stripOps, stripOp, hoist, List.filter_cons, List.filter_nil, List.nil_append, List.cons_append, isFree, anyPre, Region.binds, Bool.not_true, Bool.not_false, Bool.false_eq_true, if_true, if_false, Option.isNone_none, Option.isNone_some, Bool.true_and, Bool.false_and, List.map_nil, List.map_cons, List.isEmpty_nil, List.isEmpty_cons, List.append_nil]
    rfl
  · simp -implicitDefEqProofs (disch := omega) only [Tryz.f47, go_sem, List.replicate, ↓reduceIte, Nat.reduceAdd, Nat.reduceSub, Nat.reduceMul, Nat.reduceLeDiff, Nat.reduceLT, Nat.reduceEqDiff, Int.reduceNeg, Nat.reduceBEq, avs]
    (repeat' (first | refine g_true ?_ ?_ | refine g_false ?_ ?_ | refine cond_intro ?_ ?_ | (refine c_ctrE (ctr100 l s hl) ?_ ?_; (focus (simp -implicitDefEqProofs (disch := omega) only [avs, avb, avi, avo, sigCells, opCells, pairCells, go_sem, ↓reduceIte, Nat.reduceAdd, Nat.reduceSub, Nat.reduceMul, Nat.reduceLeDiff, Nat.reduceLT, Nat.reduceEqDiff, Int.reduceNeg, Nat.reduceBEq]; done)); simp -implicitDefEqProofs (disch := omega) only [go_sem, ↓reduceIte, Nat.reduceAdd, Nat.reduceSub, Nat.reduceMul, Nat.reduceLeDiff, Nat.reduceLT, Nat.reduceEqDiff, Int.reduceNeg, Nat.reduceBEq]) | refine And.intro (by omega) ?_ | (intro hr; have hc := hr; (try simp only [decide_eq_true_eq, decide_eq_false_iff_not, Bool.not_eq_true', Bool.not_eq_false'] at hc); simp -implicitDefEqProofs (disch := omega) only [hr, go_sem, ↓reduceIte, Nat.reduceAdd, Nat.reduceSub, Nat.reduceMul, Nat.reduceLeDiff, Nat.reduceLT, Nat.reduceEqDiff, Int.reduceNeg, Nat.reduceBEq]; (try clear hr))))
    refine fin_eq ?_ (by rfl)
    rw [idx_contains]
theorem same_all {l m : List Str} (hl : l.length = m.length) (h : ∀ j, j < l.length → l.getD j [] = m.getD j []) : l = m := by
  apply List.ext_getElem hl
  intro j h1 h2
  have := h j h1
  simpa [List.getD, h1, h2] using this
set_option maxHeartbeats 4000000 in
theorem ctr21 (l m : List Str) (hl : l.length ≤ 140737488355328) (hm : m.length ≤ 140737488355328): Ctr Tryz.prog G0 21 [avs l, avs m] (.b (decide (l = m))) := by
  refine sem_intro (rx := false) mixed Tryz.func21 rfl (by kernel_rfl) (by kernel_rfl) (ac := ?_) ?_ g0 ?_
  rotate_left
  · simp only [strip, stripOps, stripOp, hoist, List.filter_cons, List.filter_nil, List.nil_append, List.cons_append, isFree, anyPre, Region.binds, Bool.not_true, Bool.not_false, Bool.false_eq_true, if_true, if_false, Option.isNone_none, Option.isNone_some, Bool.true_and, Bool.false_and, List.map_nil, List.map_cons, List.isEmpty_nil, List.isEmpty_cons, List.append_nil]
    rfl
  · simp -implicitDefEqProofs (disch := omega) only [Tryz.f21, go_sem, List.replicate, ↓reduceIte, Nat.reduceAdd, Nat.reduceSub, Nat.reduceMul, Nat.reduceLeDiff, Nat.reduceLT, Nat.reduceEqDiff, Int.reduceNeg, Nat.reduceBEq, avs]
    (repeat' (first | refine g_true ?_ ?_ | refine g_false ?_ ?_ | refine cond_intro ?_ ?_ | refine And.intro (by omega) ?_ | (intro hr; have hc := hr; (try simp only [decide_eq_true_eq, decide_eq_false_iff_not, Bool.not_eq_true', Bool.not_eq_false'] at hc); simp -implicitDefEqProofs (disch := omega) only [hr, go_sem, ↓reduceIte, Nat.reduceAdd, Nat.reduceSub, Nat.reduceMul, Nat.reduceLeDiff, Nat.reduceLT, Nat.reduceEqDiff, Int.reduceNeg, Nat.reduceBEq]; (try clear hr))))
    · refine fin_eq ?_ (by rfl)
      have : l ≠ m := fun h => hc (by rw [h])
      rw [decide_eq_false this]
    refine x_loopJ (fun (k : Nat) => [.k, .k, .k, .k, .j, .j, .k, .k, .k, .k, .k, .k, .k, .v (.i .i64 k), .j, .j, .j, .j, .j, .j, .j, .j, .j, .j, .j, .j]) (fun k => []) (fun k => k ≤ l.length ∧ ∀ j, j < k → l.getD j [] = m.getD j []) (fun k => l.length - k) (0) ⟨Nat.zero_le _, fun j h => by omega⟩ rfl (by simp [Fits]) ?_
    rintro k j ⟨hk, ha⟩
    simp -implicitDefEqProofs (disch := omega) only [go_sem, ↓reduceIte, Nat.reduceAdd, Nat.reduceSub, Nat.reduceMul, Nat.reduceLeDiff, Nat.reduceLT, Nat.reduceEqDiff, Int.reduceNeg, Nat.reduceBEq]
    (repeat' (first | refine g_true ?_ ?_ | refine g_false ?_ ?_ | refine cond_intro ?_ ?_ | refine And.intro (by omega) ?_ | (intro hr; have hc := hr; (try simp only [decide_eq_true_eq, decide_eq_false_iff_not, Bool.not_eq_true', Bool.not_eq_false'] at hc); simp -implicitDefEqProofs (disch := omega) only [hr, go_sem, ↓reduceIte, Nat.reduceAdd, Nat.reduceSub, Nat.reduceMul, Nat.reduceLeDiff, Nat.reduceLT, Nat.reduceEqDiff, Int.reduceNeg, Nat.reduceBEq]; (try clear hr))))
    · refine fin_eq ?_ (by rfl)
      have : l ≠ m := fun h => by simp [h] at *
      rw [decide_eq_false this]
    · exact ⟨k + 1, ⟨by omega, below_succ ha (by simpa using hc)⟩, by omega, by simp⟩
    · refine fin_eq ?_ (by rfl)
      have : l = m := same_all (by omega) (fun j hj => ha j (by omega))
      rw [decide_eq_true this]
set_option maxHeartbeats 4000000 in
theorem ctr67 (l m : List Str) (hl : l.length ≤ 140737488355328) (hm : m.length ≤ 140737488355328): Ctr Tryz.prog G0 67 [avs l, avs m] (.b (decide (l = m))) := by
  refine sem_intro (rx := false) mixed Tryz.func67 rfl (by kernel_rfl) (by kernel_rfl) (ac := ?_) ?_ g0 ?_
  rotate_left
  · simp only [strip, stripOps, stripOp, hoist, List.filter_cons, List.filter_nil, List.nil_append, List.cons_append, isFree, anyPre, Region.binds, Bool.not_true, Bool.not_false, Bool.false_eq_true, if_true, if_false, Option.isNone_none, Option.isNone_some, Bool.true_and, Bool.false_and, List.map_nil, List.map_cons, List.isEmpty_nil, List.isEmpty_cons, List.append_nil]
    rfl
  · simp -implicitDefEqProofs (disch := omega) only [Tryz.f67, go_sem, List.replicate, ↓reduceIte, Nat.reduceAdd, Nat.reduceSub, Nat.reduceMul, Nat.reduceLeDiff, Nat.reduceLT, Nat.reduceEqDiff, Int.reduceNeg, Nat.reduceBEq, avs]
    (repeat' (first | refine g_true ?_ ?_ | refine g_false ?_ ?_ | refine cond_intro ?_ ?_ | refine And.intro (by omega) ?_ | (intro hr; have hc := hr; (try simp only [decide_eq_true_eq, decide_eq_false_iff_not, Bool.not_eq_true', Bool.not_eq_false'] at hc); simp -implicitDefEqProofs (disch := omega) only [hr, go_sem, ↓reduceIte, Nat.reduceAdd, Nat.reduceSub, Nat.reduceMul, Nat.reduceLeDiff, Nat.reduceLT, Nat.reduceEqDiff, Int.reduceNeg, Nat.reduceBEq]; (try clear hr))))
    · refine fin_eq ?_ (by rfl)
      have : l ≠ m := fun h => hc (by rw [h])
      rw [decide_eq_false this]
    refine x_loopJ (fun (k : Nat) => [.k, .k, .k, .k, .j, .j, .k, .k, .k, .k, .k, .k, .k, .v (.i .i64 k), .j, .j, .j, .j, .j, .j, .j, .j, .j, .j, .j, .j]) (fun k => []) (fun k => k ≤ l.length ∧ ∀ j, j < k → l.getD j [] = m.getD j []) (fun k => l.length - k) (0) ⟨Nat.zero_le _, fun j h => by omega⟩ rfl (by simp [Fits]) ?_
    rintro k j ⟨hk, ha⟩
    simp -implicitDefEqProofs (disch := omega) only [go_sem, ↓reduceIte, Nat.reduceAdd, Nat.reduceSub, Nat.reduceMul, Nat.reduceLeDiff, Nat.reduceLT, Nat.reduceEqDiff, Int.reduceNeg, Nat.reduceBEq]
    (repeat' (first | refine g_true ?_ ?_ | refine g_false ?_ ?_ | refine cond_intro ?_ ?_ | refine And.intro (by omega) ?_ | (intro hr; have hc := hr; (try simp only [decide_eq_true_eq, decide_eq_false_iff_not, Bool.not_eq_true', Bool.not_eq_false'] at hc); simp -implicitDefEqProofs (disch := omega) only [hr, go_sem, ↓reduceIte, Nat.reduceAdd, Nat.reduceSub, Nat.reduceMul, Nat.reduceLeDiff, Nat.reduceLT, Nat.reduceEqDiff, Int.reduceNeg, Nat.reduceBEq]; (try clear hr))))
    · refine fin_eq ?_ (by rfl)
      have : l ≠ m := fun h => by simp [h] at *
      rw [decide_eq_false this]
    · exact ⟨k + 1, ⟨by omega, below_succ ha (by simpa using hc)⟩, by omega, by simp⟩
    · refine fin_eq ?_ (by rfl)
      have : l = m := same_all (by omega) (fun j hj => ha j (by omega))
      rw [decide_eq_true this]
set_option maxHeartbeats 4000000 in
theorem ctr90 (l m : List Str) (hl : l.length ≤ 140737488355328) (hm : m.length ≤ 140737488355328): Ctr Tryz.prog G0 90 [avs l, avs m] (.b (decide (l = m))) := by
  refine sem_intro (rx := false) mixed Tryz.func90 rfl (by kernel_rfl) (by kernel_rfl) (ac := ?_) ?_ g0 ?_
  rotate_left
  · simp only [strip, stripOps, stripOp, hoist, List.filter_cons, List.filter_nil, List.nil_append, List.cons_append, isFree, anyPre, Region.binds, Bool.not_true, Bool.not_false, Bool.false_eq_true, if_true, if_false, Option.isNone_none, Option.isNone_some, Bool.true_and, Bool.false_and, List.map_nil, List.map_cons, List.isEmpty_nil, List.isEmpty_cons, List.append_nil]
    rfl
  · simp -implicitDefEqProofs (disch := omega) only [Tryz.f90, go_sem, List.replicate, ↓reduceIte, Nat.reduceAdd, Nat.reduceSub, Nat.reduceMul, Nat.reduceLeDiff, Nat.reduceLT, Nat.reduceEqDiff, Int.reduceNeg, Nat.reduceBEq, avs]
    (repeat' (first | refine g_true ?_ ?_ | refine g_false ?_ ?_ | refine cond_intro ?_ ?_ | refine And.intro (by omega) ?_ | (intro hr; have hc := hr; (try simp only [decide_eq_true_eq, decide_eq_false_iff_not, Bool.not_eq_true', Bool.not_eq_false'] at hc); simp -implicitDefEqProofs (disch := omega) only [hr, go_sem, ↓reduceIte, Nat.reduceAdd, Nat.reduceSub, Nat.reduceMul, Nat.reduceLeDiff, Nat.reduceLT, Nat.reduceEqDiff, Int.reduceNeg, Nat.reduceBEq]; (try clear hr))))
    · refine fin_eq ?_ (by rfl)
      have : l ≠ m := fun h => hc (by rw [h])
      rw [decide_eq_false this]
    refine x_loopJ (fun (k : Nat) => [.k, .k, .k, .k, .j, .j, .k, .k, .k, .k, .k, .k, .k, .v (.i .i64 k), .j, .j, .j, .j, .j, .j, .j, .j, .j, .j, .j, .j]) (fun k => []) (fun k => k ≤ l.length ∧ ∀ j, j < k → l.getD j [] = m.getD j []) (fun k => l.length - k) (0) ⟨Nat.zero_le _, fun j h => by omega⟩ rfl (by simp [Fits]) ?_
    rintro k j ⟨hk, ha⟩
    simp -implicitDefEqProofs (disch := omega) only [go_sem, ↓reduceIte, Nat.reduceAdd, Nat.reduceSub, Nat.reduceMul, Nat.reduceLeDiff, Nat.reduceLT, Nat.reduceEqDiff, Int.reduceNeg, Nat.reduceBEq]
    (repeat' (first | refine g_true ?_ ?_ | refine g_false ?_ ?_ | refine cond_intro ?_ ?_ | refine And.intro (by omega) ?_ | (intro hr; have hc := hr; (try simp only [decide_eq_true_eq, decide_eq_false_iff_not, Bool.not_eq_true', Bool.not_eq_false'] at hc); simp -implicitDefEqProofs (disch := omega) only [hr, go_sem, ↓reduceIte, Nat.reduceAdd, Nat.reduceSub, Nat.reduceMul, Nat.reduceLeDiff, Nat.reduceLT, Nat.reduceEqDiff, Int.reduceNeg, Nat.reduceBEq]; (try clear hr))))
    · refine fin_eq ?_ (by rfl)
      have : l ≠ m := fun h => by simp [h] at *
      rw [decide_eq_false this]
    · exact ⟨k + 1, ⟨by omega, below_succ ha (by simpa using hc)⟩, by omega, by simp⟩
    · refine fin_eq ?_ (by rfl)
      have : l = m := same_all (by omega) (fun j hj => ha j (by omega))
      rw [decide_eq_true this]
theorem nodup_no {l : List Str} {k : Nat} (hn : l.Nodup) (hk : k < l.length) : (l.take k).contains (l.getD k []) = false := by
  have : l.getD k [] ∉ l.take k := by
    intro hm
    obtain ⟨j, hj, he⟩ := List.mem_iff_getElem.1 hm

    have := (List.pairwise_iff_getElem.1 hn) j k (by simp at hj; omega) hk (by simp at hj; omega)
    simp [List.getD, hk] at he
    exact this he
  simpa using this
theorem nodup_of {l : List Str} (h : ∀ j, j < l.length → (l.take j).contains (l.getD j []) = false) : l.Nodup := by
  refine List.pairwise_iff_getElem.2 (fun i j hi hj hij he => ?_)
  have := h j hj
  have hm : l.getD j [] ∈ l.take j := by
    rw [List.mem_iff_getElem]
    exact ⟨i, by simp; omega, by simp [List.getD, hj, he]⟩
  have h2 : (l.take j).contains (l.getD j []) = true := by simpa using hm
  rw [h2] at this; cases this
set_option maxHeartbeats 4000000 in
theorem ctr62 (l : List Str) (hl : l.length ≤ 140737488355328): Ctr Tryz.prog G0 62 [avs l] (.b (decide l.Nodup)) := by
  refine sem_intro (rx := false) mixed Tryz.func62 rfl (by kernel_rfl) (by kernel_rfl) (ac := ?_) ?_ g0 ?_
  rotate_left
  · simp only [strip, stripOps, stripOp, hoist, List.filter_cons, List.filter_nil, List.nil_append, List.cons_append, isFree, anyPre, Region.binds, Bool.not_true, Bool.not_false, Bool.false_eq_true, if_true, if_false, Option.isNone_none, Option.isNone_some, Bool.true_and, Bool.false_and, List.map_nil, List.map_cons, List.isEmpty_nil, List.isEmpty_cons, List.append_nil]
    rfl
  · simp -implicitDefEqProofs (disch := omega) only [Tryz.f62, go_sem, List.replicate, ↓reduceIte, Nat.reduceAdd, Nat.reduceSub, Nat.reduceMul, Nat.reduceLeDiff, Nat.reduceLT, Nat.reduceEqDiff, Int.reduceNeg, Nat.reduceBEq, avs]
    refine x_loopJ (fun (k : Nat) => [.k, .k, .j, .j, .k, .k, .v (.i .i64 k), .j, .j, .j, .j, .j, .j, .j, .j, .j, .j, .j]) (fun k => []) (fun k => k ≤ l.length ∧ ∀ j, j < k → (l.take j).contains (l.getD j []) = false) (fun k => l.length - k) (0) ⟨Nat.zero_le _, fun j h => by omega⟩ rfl (by simp [Fits]) ?_
    rintro k j ⟨hk, ha⟩
    simp -implicitDefEqProofs (disch := omega) only [go_sem, ↓reduceIte, Nat.reduceAdd, Nat.reduceSub, Nat.reduceMul, Nat.reduceLeDiff, Nat.reduceLT, Nat.reduceEqDiff, Int.reduceNeg, Nat.reduceBEq]
    (repeat' (first | refine g_true ?_ ?_ | refine g_false ?_ ?_ | refine cond_intro ?_ ?_ | (refine c_ctrE (ctr27 (l.take k) (l.getD k []) (by simp; omega)) ?_ ?_; (focus (simp -implicitDefEqProofs (disch := omega) only [avs, avb, avi, avo, sigCells, opCells, pairCells, go_sem, ↓reduceIte, Nat.reduceAdd, Nat.reduceSub, Nat.reduceMul, Nat.reduceLeDiff, Nat.reduceLT, Nat.reduceEqDiff, Int.reduceNeg, Nat.reduceBEq]; done)); simp -implicitDefEqProofs (disch := omega) only [go_sem, ↓reduceIte, Nat.reduceAdd, Nat.reduceSub, Nat.reduceMul, Nat.reduceLeDiff, Nat.reduceLT, Nat.reduceEqDiff, Int.reduceNeg, Nat.reduceBEq]) | refine And.intro (by omega) ?_ | (intro hr; have hc := hr; (try simp only [decide_eq_true_eq, decide_eq_false_iff_not, Bool.not_eq_true', Bool.not_eq_false'] at hc); simp -implicitDefEqProofs (disch := omega) only [hr, go_sem, ↓reduceIte, Nat.reduceAdd, Nat.reduceSub, Nat.reduceMul, Nat.reduceLeDiff, Nat.reduceLT, Nat.reduceEqDiff, Int.reduceNeg, Nat.reduceBEq]; (try clear hr))))
    · refine fin_eq ?_ (by rfl)
      rw [decide_eq_false (fun hn => by rw [nodup_no hn (by omega)] at hc; cases hc)]
    · exact ⟨k + 1, ⟨by omega, below_succ ha hc⟩, by omega, by simp⟩
    · refine fin_eq ?_ (by rfl)
      have h1 : k = l.length := by omega
      rw [decide_eq_true (nodup_of (h1 ▸ ha))]
end Go.Proofs.YtadileniakikeaaGreatDoor
set_option maxRecDepth 100000
set_option linter.unusedSimpArgs false
set_option linter.unusedVariables false
namespace Go.Proofs.YtadileniakikeaaGreatDoor
open Go Go.Vo

/-- the names of the built-in functions, rising -/
def builtIns : List Str := [[97, 100, 100], [97, 110, 100], [99, 97, 116], [100, 101, 108], [100, 105, 118], [101, 113], [103, 101], [103, 101, 116], [103, 116], [104, 97, 115], [105, 115], [105, 115, 118, 97, 108, 117, 101], [106, 111, 105, 110], [107, 101, 121, 115], [108, 101], [108, 101, 110, 103, 116, 104], [108, 116], [109, 111, 100], [109, 117, 108], [110, 101], [110, 101, 103], [110, 111, 116], [111, 114], [112, 105, 99, 107], [112, 117, 116], [115, 105, 122, 101], [115, 117, 98], [116, 101, 120, 116]]
set_option maxHeartbeats 4000000 in
theorem ctr95 : Ctr Tryz.prog G0 95 [] (.own 1 (builtIns.map .s) builtIns.length) := by
  refine sem_intro (rx := false) mixed Tryz.func95 rfl (by kernel_rfl) (by kernel_rfl) (ac := ?_) ?_ g0 ?_
  rotate_left
  · simp only [strip, stripOps, stripOp, hoist, List.filter_cons, List.filter_nil, List.nil_append, List.cons_append, isFree, anyPre, Region.binds, Bool.not_true, Bool.not_false, Bool.false_eq_true, if_true, if_false, Option.isNone_none, Option.isNone_some, Bool.true_and, Bool.false_and, List.map_nil, List.map_cons, List.isEmpty_nil, List.isEmpty_cons, List.append_nil]
    rfl
  · simp -implicitDefEqProofs (disch := omega) only [Tryz.f95, go_sem, List.replicate, ↓reduceIte, Nat.reduceAdd, Nat.reduceSub, Nat.reduceMul, Nat.reduceLeDiff, Nat.reduceLT, Nat.reduceEqDiff, Int.reduceNeg, Nat.reduceBEq]
    exact fin_own rfl rfl rfl rfl rfl
set_option maxHeartbeats 4000000 in
theorem ctr40 (s : Str): Ctr Tryz.prog G0 40 [.s s] (.b (builtIns.contains s)) := by
  refine sem_intro (rx := false) mixed Tryz.func40 rfl (by kernel_rfl) (by kernel_rfl) (ac := ?_) ?_ g0 ?_
  rotate_left
  · simp only [strip, stripOps, stripOp, hoist, List.filter_cons, List.filter_nil, List.nil_append, List.cons_append, isFree, anyPre, Region.binds, Bool.not_true, Bool.not_false, Bool.false_eq_true, if_true, if_false, Option.isNone_none, Option.isNone_some, Bool.true_and, Bool.false_and, List.map_nil, List.map_cons, List.isEmpty_nil, List.isEmpty_cons, List.append_nil]
    rfl
  · simp -implicitDefEqProofs (disch := omega) only [Tryz.f40, go_sem, List.replicate, ↓reduceIte, Nat.reduceAdd, Nat.reduceSub, Nat.reduceMul, Nat.reduceLeDiff, Nat.reduceLT, Nat.reduceEqDiff, Int.reduceNeg, Nat.reduceBEq]
    (repeat' (first | refine g_true ?_ ?_ | refine g_false ?_ ?_ | refine cond_intro ?_ ?_ | (refine c_ctrE (ctr95) ?_ ?_; (focus (simp -implicitDefEqProofs (disch := omega) only [avs, avb, avi, avo, sigCells, opCells, pairCells, go_sem, ↓reduceIte, Nat.reduceAdd, Nat.reduceSub, Nat.reduceMul, Nat.reduceLeDiff, Nat.reduceLT, Nat.reduceEqDiff, Int.reduceNeg, Nat.reduceBEq]; done)); simp -implicitDefEqProofs (disch := omega) only [go_sem, ↓reduceIte, Nat.reduceAdd, Nat.reduceSub, Nat.reduceMul, Nat.reduceLeDiff, Nat.reduceLT, Nat.reduceEqDiff, Int.reduceNeg, Nat.reduceBEq]) | (refine c_ctrE (ctr27 builtIns s (by decide)) ?_ ?_; (focus (simp -implicitDefEqProofs (disch := omega) only [avs, avb, avi, avo, sigCells, opCells, pairCells, go_sem, ↓reduceIte, Nat.reduceAdd, Nat.reduceSub, Nat.reduceMul, Nat.reduceLeDiff, Nat.reduceLT, Nat.reduceEqDiff, Int.reduceNeg, Nat.reduceBEq]; done)); simp -implicitDefEqProofs (disch := omega) only [go_sem, ↓reduceIte, Nat.reduceAdd, Nat.reduceSub, Nat.reduceMul, Nat.reduceLeDiff, Nat.reduceLT, Nat.reduceEqDiff, Int.reduceNeg, Nat.reduceBEq]) | refine And.intro (by omega) ?_ | (intro hr; have hc := hr; (try simp only [decide_eq_true_eq, decide_eq_false_iff_not, Bool.not_eq_true', Bool.not_eq_false'] at hc); simp -implicitDefEqProofs (disch := omega) only [hr, go_sem, ↓reduceIte, Nat.reduceAdd, Nat.reduceSub, Nat.reduceMul, Nat.reduceLeDiff, Nat.reduceLT, Nat.reduceEqDiff, Int.reduceNeg, Nat.reduceBEq]; (try clear hr))))
    refine fin_eq ?_ (by rfl)
    rfl
def existsB (s : LSig) (a : Str) : Bool := alwaysB.contains a || s.sorts.contains a
set_option maxHeartbeats 4000000 in
theorem ctr61 (s : LSig) (a : Str) (hs : s.sorts.length ≤ 140737488355328): Ctr Tryz.prog G0 61 [.agg (sigCells s), .s a] (.b (existsB s a)) := by
  refine sem_intro (rx := false) mixed Tryz.func61 rfl (by kernel_rfl) (by kernel_rfl) (ac := ?_) ?_ g0 ?_
  rotate_left
  · simp only [strip, stripOps, stripOp, hoist, List.filter_cons, List.filter_nil, List.nil_append, List.cons_append, isFree, anyPre, Region.binds, Bool.not_true, Bool.not_false, Bool.false_eq_true, if_true, if_false, Option.isNone_none, Option.isNone_some, Bool.true_and, Bool.false_and, List.map_nil, List.map_cons, List.isEmpty_nil, List.isEmpty_cons, List.append_nil]
    rfl
  · simp -implicitDefEqProofs (disch := omega) only [Tryz.f61, go_sem, List.replicate, ↓reduceIte, Nat.reduceAdd, Nat.reduceSub, Nat.reduceMul, Nat.reduceLeDiff, Nat.reduceLT, Nat.reduceEqDiff, Int.reduceNeg, Nat.reduceBEq, sigCells, avs]
    (repeat' (first | refine g_true ?_ ?_ | refine g_false ?_ ?_ | refine cond_intro ?_ ?_ | (refine c_ctrE (ctr78) ?_ ?_; (focus (simp -implicitDefEqProofs (disch := omega) only [avs, avb, avi, avo, sigCells, opCells, pairCells, go_sem, ↓reduceIte, Nat.reduceAdd, Nat.reduceSub, Nat.reduceMul, Nat.reduceLeDiff, Nat.reduceLT, Nat.reduceEqDiff, Int.reduceNeg, Nat.reduceBEq]; done)); simp -implicitDefEqProofs (disch := omega) only [go_sem, ↓reduceIte, Nat.reduceAdd, Nat.reduceSub, Nat.reduceMul, Nat.reduceLeDiff, Nat.reduceLT, Nat.reduceEqDiff, Int.reduceNeg, Nat.reduceBEq]) | (refine c_ctrE (ctr27 alwaysB a (by decide)) ?_ ?_; (focus (simp -implicitDefEqProofs (disch := omega) only [avs, avb, avi, avo, sigCells, opCells, pairCells, go_sem, ↓reduceIte, Nat.reduceAdd, Nat.reduceSub, Nat.reduceMul, Nat.reduceLeDiff, Nat.reduceLT, Nat.reduceEqDiff, Int.reduceNeg, Nat.reduceBEq]; done)); simp -implicitDefEqProofs (disch := omega) only [go_sem, ↓reduceIte, Nat.reduceAdd, Nat.reduceSub, Nat.reduceMul, Nat.reduceLeDiff, Nat.reduceLT, Nat.reduceEqDiff, Int.reduceNeg, Nat.reduceBEq]) | (refine c_ctrE (ctr27 s.sorts a hs) ?_ ?_; (focus (simp -implicitDefEqProofs (disch := omega) only [avs, avb, avi, avo, sigCells, opCells, pairCells, go_sem, ↓reduceIte, Nat.reduceAdd, Nat.reduceSub, Nat.reduceMul, Nat.reduceLeDiff, Nat.reduceLT, Nat.reduceEqDiff, Int.reduceNeg, Nat.reduceBEq]; done)); simp -implicitDefEqProofs (disch := omega) only [go_sem, ↓reduceIte, Nat.reduceAdd, Nat.reduceSub, Nat.reduceMul, Nat.reduceLeDiff, Nat.reduceLT, Nat.reduceEqDiff, Int.reduceNeg, Nat.reduceBEq]) | refine And.intro (by omega) ?_ | (intro hr; have hc := hr; (try simp only [decide_eq_true_eq, decide_eq_false_iff_not, Bool.not_eq_true', Bool.not_eq_false'] at hc); simp -implicitDefEqProofs (disch := omega) only [hr, go_sem, ↓reduceIte, Nat.reduceAdd, Nat.reduceSub, Nat.reduceMul, Nat.reduceLeDiff, Nat.reduceLT, Nat.reduceEqDiff, Int.reduceNeg, Nat.reduceBEq]; (try clear hr))))
    all_goals (refine fin_eq ?_ (by rfl))
    all_goals simp_all [existsB]
end Go.Proofs.YtadileniakikeaaGreatDoor
set_option maxRecDepth 100000
set_option linter.unusedSimpArgs false
set_option linter.unusedVariables false
namespace Go.Proofs.YtadileniakikeaaGreatDoor
open Go Go.Vo

theorem persL_of : ∀ {l : List AV}, persL l = true → ∀ x ∈ l, pers x = true := by
  intro l h x hx
  obtain ⟨j, hj, rfl⟩ := List.mem_iff_getElem.1 hx
  exact persL_mem h j _ (by simp [hj])
theorem snapL {h : List AObj} {l : List AV} (hl : persL l = true) : l.map (snap dep h) = l := by
  have : l.map (snap dep h) = l.map id := List.map_congr_left (fun x hx => by rw [snap_dep, if_pos (persL_of hl x hx)]; rfl)
  rw [this, List.map_id]
set_option maxHeartbeats 4000000 in
theorem ctr131 (l : List Str) (f : FuncId) (a b : List AV) (p : Str → Bool) (hl : l.length ≤ 140737488355328) (ha : persL a = true) (hb : persL b = true) (hw : ∀ k, k < l.length → Ctr Tryz.prog G0 f (a ++ [.s (l.getD k [])] ++ b) (.b (p (l.getD k [])))): Ctr Tryz.prog G0 131 [avs l, .fn f a b] (.i .i64 (idx p l)) := by
  refine sem_intro (rx := false) mixed Tryz.func131 rfl (by kernel_rfl) (by kernel_rfl) (ac := ?_) ?_ g0 ?_
  rotate_left
  · simp only [strip, stripOps, stripOp, hoist, List.filter_cons, List.filter_nil, List.nil_append, List.cons_append, isFree, anyPre, Region.binds, Bool.not_true, Bool.not_false, Bool.false_eq_true, if_true, if_false, Option.isNone_none, Option.isNone_some, Bool.true_and, Bool.false_and, List.map_nil, List.map_cons, List.isEmpty_nil, List.isEmpty_cons, List.append_nil]
    rfl
  · simp -implicitDefEqProofs (disch := omega) only [Tryz.f131, go_sem, List.replicate, ↓reduceIte, Nat.reduceAdd, Nat.reduceSub, Nat.reduceMul, Nat.reduceLeDiff, Nat.reduceLT, Nat.reduceEqDiff, Int.reduceNeg, Nat.reduceBEq, avs]
    refine x_loopJ (fun (k : Nat) => [.k, .k, .k, .k, .j, .j, .k, .k, .v (.i .i64 k), .j, .j, .j, .j, .j, .j, .j, .j, .j, .j]) (fun k => []) (fun k => k ≤ l.length ∧ ∀ j, j < k → p (l.getD j []) = false) (fun k => l.length - k) (0) ⟨Nat.zero_le _, fun j h => by omega⟩ rfl (by simp [Fits]) ?_
    rintro k j ⟨hk, hn⟩
    simp -implicitDefEqProofs (disch := omega) only [go_sem, ↓reduceIte, Nat.reduceAdd, Nat.reduceSub, Nat.reduceMul, Nat.reduceLeDiff, Nat.reduceLT, Nat.reduceEqDiff, Int.reduceNeg, Nat.reduceBEq]
    (repeat' (first | refine g_true ?_ ?_ | refine g_false ?_ ?_ | refine cond_intro ?_ ?_ | refine And.intro (by omega) ?_ | (intro hr; have hc := hr; (try simp only [decide_eq_true_eq, decide_eq_false_iff_not, Bool.not_eq_true', Bool.not_eq_false'] at hc); simp -implicitDefEqProofs (disch := omega) only [hr, go_sem, ↓reduceIte, Nat.reduceAdd, Nat.reduceSub, Nat.reduceMul, Nat.reduceLeDiff, Nat.reduceLT, Nat.reduceEqDiff, Int.reduceNeg, Nat.reduceBEq]; (try clear hr))))
    · refine c_ctrE (hw k (by omega)) ?_ ?_
      · simp -implicitDefEqProofs (disch := omega) only [List.map_append, snapL ha, snapL hb, go_sem, ↓reduceIte, Nat.reduceAdd, Nat.reduceSub, Nat.reduceMul, Nat.reduceLeDiff, Nat.reduceLT, Nat.reduceEqDiff, Int.reduceNeg, Nat.reduceBEq]
      · simp -implicitDefEqProofs (disch := omega) only [go_sem, ↓reduceIte, Nat.reduceAdd, Nat.reduceSub, Nat.reduceMul, Nat.reduceLeDiff, Nat.reduceLT, Nat.reduceEqDiff, Int.reduceNeg, Nat.reduceBEq]
        (repeat' (first | refine g_true ?_ ?_ | refine g_false ?_ ?_ | refine cond_intro ?_ ?_ | refine And.intro (by omega) ?_ | (intro hr; have hc := hr; (try simp only [decide_eq_true_eq, decide_eq_false_iff_not, Bool.not_eq_true', Bool.not_eq_false'] at hc); simp -implicitDefEqProofs (disch := omega) only [hr, go_sem, ↓reduceIte, Nat.reduceAdd, Nat.reduceSub, Nat.reduceMul, Nat.reduceLeDiff, Nat.reduceLT, Nat.reduceEqDiff, Int.reduceNeg, Nat.reduceBEq]; (try clear hr))))
        · refine fin_eq ?_ (by rfl)
          rw [idx_some (d := []) (k := k) (by omega) hc hn]
        · exact ⟨k + 1, ⟨by omega, below_succ hn hc⟩, by omega, by simp⟩
    · refine fin_eq ?_ (by rfl)
      have h1 : k = l.length := by omega
      rw [idx_none (h1 ▸ hn)]
set_option maxHeartbeats 4000000 in
theorem ctr101 (l : List Str) (f : FuncId) (a b : List AV) (p : Str → Bool) (hl : l.length ≤ 140737488355328) (ha : persL a = true) (hb : persL b = true) (hw : ∀ k, k < l.length → Ctr Tryz.prog G0 f (a ++ [.s (l.getD k [])] ++ b) (.b (p (l.getD k [])))): Ctr Tryz.prog G0 101 [avs l, .fn f a b] (.b (l.any p)) := by
  refine sem_intro (rx := false) mixed Tryz.func101 rfl (by kernel_rfl) (by kernel_rfl) (ac := ?_) ?_ g0 ?_
  rotate_left
  · simp only [strip, stripOps, stripOp, hoist, List.filter_cons, List.filter_nil, List.nil_append, List.cons_append, isFree, anyPre, Region.binds, Bool.not_true, Bool.not_false, Bool.false_eq_true, if_true, if_false, Option.isNone_none, Option.isNone_some, Bool.true_and, Bool.false_and, List.map_nil, List.map_cons, List.isEmpty_nil, List.isEmpty_cons, List.append_nil]
    rfl
  · simp -implicitDefEqProofs (disch := omega) only [Tryz.f101, go_sem, List.replicate, ↓reduceIte, Nat.reduceAdd, Nat.reduceSub, Nat.reduceMul, Nat.reduceLeDiff, Nat.reduceLT, Nat.reduceEqDiff, Int.reduceNeg, Nat.reduceBEq, avs]
    refine c_ctrE (ctr131 l f a b p hl ha hb hw) ?_ ?_
    · simp -implicitDefEqProofs (disch := omega) only [avs, ha, hb, go_sem, ↓reduceIte, Nat.reduceAdd, Nat.reduceSub, Nat.reduceMul, Nat.reduceLeDiff, Nat.reduceLT, Nat.reduceEqDiff, Int.reduceNeg, Nat.reduceBEq]
    · simp -implicitDefEqProofs (disch := omega) only [go_sem, ↓reduceIte, Nat.reduceAdd, Nat.reduceSub, Nat.reduceMul, Nat.reduceLeDiff, Nat.reduceLT, Nat.reduceEqDiff, Int.reduceNeg, Nat.reduceBEq]
      refine fin_eq ?_ (by rfl)
      rw [idx_any]
end Go.Proofs.YtadileniakikeaaGreatDoor
set_option maxRecDepth 100000
set_option linter.unusedSimpArgs false
set_option linter.unusedVariables false
namespace Go.Proofs.YtadileniakikeaaGreatDoor
open Go Go.Vo

theorem snap8_ptr {h : List AObj} {id o : Nat} {fz : Bool} {cells : List AV} (hi : h[id]? = some (.box fz cells)) (hp : persL cells = true) : snap 8 h (.ptr id o) = .box cells o := by
  unfold snap
  simp [pers, hi, hp]
set_option maxHeartbeats 4000000 in
theorem ctr102 (x : Str) (f : FuncId) (a b : List AV) (p : Bool) (ha : persL a = true) (hb : persL b = true) (hw : Ctr Tryz.prog G0 f (a ++ [.s x] ++ b) (.b p)): Ctr Tryz.prog G0 102 [.s x, .box [.fn f a b] 0] (.b (!p)) := by
  refine sem_intro (rx := false) mixed Tryz.func102 rfl (by kernel_rfl) (by kernel_rfl) (ac := ?_) ?_ g0 ?_
  rotate_left
  · simp only [strip, stripOps, stripOp, hoist, List.filter_cons, List.filter_nil, List.nil_append, List.cons_append, isFree, anyPre, Region.binds, Bool.not_true, Bool.not_false, Bool.false_eq_true, if_true, if_false, Option.isNone_none, Option.isNone_some, Bool.true_and, Bool.false_and, List.map_nil, List.map_cons, List.isEmpty_nil, List.isEmpty_cons, List.append_nil]
    rfl
  · simp -implicitDefEqProofs (disch := omega) only [Tryz.f102, go_sem, List.replicate, ↓reduceIte, Nat.reduceAdd, Nat.reduceSub, Nat.reduceMul, Nat.reduceLeDiff, Nat.reduceLT, Nat.reduceEqDiff, Int.reduceNeg, Nat.reduceBEq]
    refine c_ctrE hw ?_ ?_
    · simp -implicitDefEqProofs (disch := omega) only [List.map_append, snapL ha, snapL hb, go_sem, ↓reduceIte, Nat.reduceAdd, Nat.reduceSub, Nat.reduceMul, Nat.reduceLeDiff, Nat.reduceLT, Nat.reduceEqDiff, Int.reduceNeg, Nat.reduceBEq]
    · simp -implicitDefEqProofs (disch := omega) only [go_sem, ↓reduceIte, Nat.reduceAdd, Nat.reduceSub, Nat.reduceMul, Nat.reduceLeDiff, Nat.reduceLT, Nat.reduceEqDiff, Int.reduceNeg, Nat.reduceBEq]
      refine fin_eq ?_ (by rfl)
      rfl
set_option maxHeartbeats 4000000 in
theorem ctr49 (l : List Str) (f : FuncId) (a b : List AV) (p : Str → Bool) (hl : l.length ≤ 140737488355328) (ha : persL a = true) (hb : persL b = true) (hw : ∀ k, k < l.length → Ctr Tryz.prog G0 f (a ++ [.s (l.getD k [])] ++ b) (.b (p (l.getD k [])))): Ctr Tryz.prog G0 49 [avs l, .fn f a b] (.b (l.all p)) := by
  refine sem_intro (rx := false) mixed Tryz.func49 rfl (by kernel_rfl) (by kernel_rfl) (ac := ?_) ?_ g0 ?_
  rotate_left
  · simp only [strip, stripOps, stripOp, hoist, List.filter_cons, List.filter_nil, List.nil_append, List.cons_append, isFree, anyPre, Region.binds, Bool.not_true, Bool.not_false, Bool.false_eq_true, if_true, if_false, Option.isNone_none, Option.isNone_some, Bool.true_and, Bool.false_and, List.map_nil, List.map_cons, List.isEmpty_nil, List.isEmpty_cons, List.append_nil]
    rfl
  · simp -implicitDefEqProofs (disch := omega) only [Tryz.f49, go_sem, List.replicate, ↓reduceIte, Nat.reduceAdd, Nat.reduceSub, Nat.reduceMul, Nat.reduceLeDiff, Nat.reduceLT, Nat.reduceEqDiff, Int.reduceNeg, Nat.reduceBEq, avs]
    refine c_ctrE (ctr101 l 102 [] [.box [.fn f a b] 0] (fun x => !p x) hl rfl (by simp [persL, pers, ha, hb]) (fun k hk => ctr102 _ f a b _ ha hb (hw k hk))) ?_ ?_
    · simp -implicitDefEqProofs (disch := omega) only [avs, ha, hb, go_sem, ↓reduceIte, Nat.reduceAdd, Nat.reduceSub, Nat.reduceMul, Nat.reduceLeDiff, Nat.reduceLT, Nat.reduceEqDiff, Int.reduceNeg, Nat.reduceBEq]
    · simp -implicitDefEqProofs (disch := omega) only [ha, hb, go_sem, ↓reduceIte, Nat.reduceAdd, Nat.reduceSub, Nat.reduceMul, Nat.reduceLeDiff, Nat.reduceLT, Nat.reduceEqDiff, Int.reduceNeg, Nat.reduceBEq]
      refine fin_eq ?_ (by rfl)
      rw [List.all_eq_not_any_not]
end Go.Proofs.YtadileniakikeaaGreatDoor
set_option maxRecDepth 100000
set_option linter.unusedSimpArgs false
set_option linter.unusedVariables false
namespace Go.Proofs.YtadileniakikeaaGreatDoor
open Go Go.Vo

set_option maxHeartbeats 4000000 in
theorem ctr46 (s : Str) (hs : s.length ≤ 140737488355328): Ctr Tryz.prog G0 46 [.s s] (.b (isName s && !alwaysA.contains s)) := by
  refine sem_intro (rx := false) mixed Tryz.func46 rfl (by kernel_rfl) (by kernel_rfl) (ac := ?_) ?_ g0 ?_
  rotate_left
  · simp only [strip, stripOps, stripOp, hoist, List.filter_cons, List.filter_nil, List.nil_append, List.cons_append, isFree, anyPre, Region.binds, Bool.not_true, Bool.not_false, Bool.false_eq_true, if_true, if_false, Option.isNone_none, Option.isNone_some, Bool.true_and, Bool.false_and, List.map_nil, List.map_cons, List.isEmpty_nil, List.isEmpty_cons, List.append_nil]
    rfl
  · simp -implicitDefEqProofs (disch := omega) only [Tryz.f46, go_sem, List.replicate, ↓reduceIte, Nat.reduceAdd, Nat.reduceSub, Nat.reduceMul, Nat.reduceLeDiff, Nat.reduceLT, Nat.reduceEqDiff, Int.reduceNeg, Nat.reduceBEq]
    (repeat' (first | refine g_true ?_ ?_ | refine g_false ?_ ?_ | refine cond_intro ?_ ?_ | (refine c_ctrE (ctr41 s hs) ?_ ?_; (focus (simp -implicitDefEqProofs (disch := omega) only [avs, avb, avi, avo, sigCells, opCells, pairCells, go_sem, ↓reduceIte, Nat.reduceAdd, Nat.reduceSub, Nat.reduceMul, Nat.reduceLeDiff, Nat.reduceLT, Nat.reduceEqDiff, Int.reduceNeg, Nat.reduceBEq]; done)); simp -implicitDefEqProofs (disch := omega) only [go_sem, ↓reduceIte, Nat.reduceAdd, Nat.reduceSub, Nat.reduceMul, Nat.reduceLeDiff, Nat.reduceLT, Nat.reduceEqDiff, Int.reduceNeg, Nat.reduceBEq]) | (refine c_ctrE (ctr48) ?_ ?_; (focus (simp -implicitDefEqProofs (disch := omega) only [avs, avb, avi, avo, sigCells, opCells, pairCells, go_sem, ↓reduceIte, Nat.reduceAdd, Nat.reduceSub, Nat.reduceMul, Nat.reduceLeDiff, Nat.reduceLT, Nat.reduceEqDiff, Int.reduceNeg, Nat.reduceBEq]; done)); simp -implicitDefEqProofs (disch := omega) only [go_sem, ↓reduceIte, Nat.reduceAdd, Nat.reduceSub, Nat.reduceMul, Nat.reduceLeDiff, Nat.reduceLT, Nat.reduceEqDiff, Int.reduceNeg, Nat.reduceBEq]) | (refine c_ctrE (ctr47 alwaysA s (by decide)) ?_ ?_; (focus (simp -implicitDefEqProofs (disch := omega) only [avs, avb, avi, avo, sigCells, opCells, pairCells, go_sem, ↓reduceIte, Nat.reduceAdd, Nat.reduceSub, Nat.reduceMul, Nat.reduceLeDiff, Nat.reduceLT, Nat.reduceEqDiff, Int.reduceNeg, Nat.reduceBEq]; done)); simp -implicitDefEqProofs (disch := omega) only [go_sem, ↓reduceIte, Nat.reduceAdd, Nat.reduceSub, Nat.reduceMul, Nat.reduceLeDiff, Nat.reduceLT, Nat.reduceEqDiff, Int.reduceNeg, Nat.reduceBEq]) | refine And.intro (by omega) ?_ | (intro hr; have hc := hr; (try simp only [decide_eq_true_eq, decide_eq_false_iff_not, Bool.not_eq_true', Bool.not_eq_false'] at hc); simp -implicitDefEqProofs (disch := omega) only [hr, go_sem, ↓reduceIte, Nat.reduceAdd, Nat.reduceSub, Nat.reduceMul, Nat.reduceLeDiff, Nat.reduceLT, Nat.reduceEqDiff, Int.reduceNeg, Nat.reduceBEq]; (try clear hr))))
    all_goals (refine fin_eq ?_ (by rfl))
    all_goals simp_all
end Go.Proofs.YtadileniakikeaaGreatDoor
set_option maxRecDepth 100000
set_option linter.unusedSimpArgs false
set_option linter.unusedVariables false
namespace Go.Proofs.YtadileniakikeaaGreatDoor
open Go Go.Vo

theorem akeyFind_s {P : Program} {T : TypeId} (hT : P.underlying T = some .string) {x : Str} : ∀ (l : List Str), akeyFind P T (.s x) (l.map .s) = some (l.findIdx? fun y => decide (x = y))
  | [] => rfl
  | y :: l => by
    simp only [List.map_cons, akeyFind, aEq, leafEqT, hT, akeyFind_s hT l, List.findIdx?_cons]
    cases h : decide (x = y) <;> simp
theorem findIdx_no {x : Str} {l : List Str} (h : l.contains x = false) : (l.findIdx? fun y => decide (x = y)) = none := by
  rw [List.findIdx?_eq_none_iff]
  intro y hy
  have : x ∉ l := by simpa using h
  simp only [decide_eq_false_iff_not]
  exact fun he => this (he ▸ hy)
end Go.Proofs.YtadileniakikeaaGreatDoor
set_option maxRecDepth 100000
set_option linter.unusedSimpArgs false
set_option linter.unusedVariables false
namespace Go.Proofs.YtadileniakikeaaGreatDoor
open Go Go.Vo
theorem key9 (x : Str) (l : List Str) : akeyFind Tryz.prog 9 (.s x) (l.map .s) = some (l.findIdx? fun y => decide (x = y)) := akeyFind_s un9 l
theorem findIdx_yes {x : Str} {l : List Str} (h : l.contains x = true) : ∃ i, i < l.length ∧ (l.findIdx? fun y => decide (x = y)) = some i := by
  cases hf : l.findIdx? fun y => decide (x = y) with
  | none =>
    rw [List.findIdx?_eq_none_iff] at hf
    have hm : x ∈ l := by simpa using h
    have := hf x hm
    simp at this
  | some i =>
    rw [List.findIdx?_eq_some_iff_getElem] at hf
    exact ⟨i, hf.1, rfl⟩
theorem take_next {l : List Str} {k : Nat} (h : k < l.length) : l.take (k + 1) = l.take k ++ [l.getD k []] := by
  rw [List.take_succ_eq_append_getElem h]; simp [List.getD, h]
theorem rep_get {n i : Nat} {a : AV} (h : i < n) : (List.replicate n a)[i]? = some a := by simp [h]
set_option maxHeartbeats 4000000 in
theorem ctr45 (l : List Str) (hl : l.length ≤ 140737488355328): Ctr Tryz.prog G0 45 [avs l] (.b (decide l.Nodup)) := by
  refine sem_intro (rx := false) mixed Tryz.func45 rfl (by kernel_rfl) (by kernel_rfl) (ac := ?_) ?_ g0 ?_
  rotate_left
  · simp only [strip, stripOps, stripOp, hoist, List.filter_cons, List.filter_nil, List.nil_append, List.cons_append, isFree, anyPre, Region.binds, Bool.not_true, Bool.not_false, Bool.false_eq_true, if_true, if_false, Option.isNone_none, Option.isNone_some, Bool.true_and, Bool.false_and, List.map_nil, List.map_cons, List.isEmpty_nil, List.isEmpty_cons, List.append_nil]
    rfl
  · simp -implicitDefEqProofs (disch := omega) only [Tryz.f45, go_sem, List.replicate, ↓reduceIte, Nat.reduceAdd, Nat.reduceSub, Nat.reduceMul, Nat.reduceLeDiff, Nat.reduceLT, Nat.reduceEqDiff, Int.reduceNeg, Nat.reduceBEq, avs]
    refine x_loopJ (fun (k : Nat) => [.k, .k, .j, .k, .k, .j, .k, .k, .k, .v (.i .i64 k), .j, .j, .j, .j, .j, .j, .j, .j, .j]) (fun k => [.map false ((l.take k).map .s) (List.replicate k (.b true))]) (fun k => k ≤ l.length ∧ ∀ j, j < k → (l.take j).contains (l.getD j []) = false) (fun k => l.length - k) (0) ⟨Nat.zero_le _, fun j h => by omega⟩ rfl (by simp [Fits]) ?_
    rintro k j ⟨hk, ha⟩
    simp -implicitDefEqProofs (disch := omega) only [go_sem, ↓reduceIte, Nat.reduceAdd, Nat.reduceSub, Nat.reduceMul, Nat.reduceLeDiff, Nat.reduceLT, Nat.reduceEqDiff, Int.reduceNeg, Nat.reduceBEq]
    (repeat' (first | refine g_true ?_ ?_ | refine g_false ?_ ?_ | refine cond_intro ?_ ?_ | refine And.intro (by omega) ?_ | (intro hr; have hc := hr; (try simp only [decide_eq_true_eq, decide_eq_false_iff_not, Bool.not_eq_true', Bool.not_eq_false'] at hc); simp -implicitDefEqProofs (disch := omega) only [hr, go_sem, ↓reduceIte, Nat.reduceAdd, Nat.reduceSub, Nat.reduceMul, Nat.reduceLeDiff, Nat.reduceLT, Nat.reduceEqDiff, Int.reduceNeg, Nat.reduceBEq]; (try clear hr))))
    · by_cases hx : (l.take k).contains (l.getD k []) = true
      · obtain ⟨i, hi, hf⟩ := findIdx_yes hx
        have hi' : i < k := by simp at hi; omega
        simp -implicitDefEqProofs (disch := omega) only [keyOK, key9, hf, rep_get hi', go_sem, ↓reduceIte, Nat.reduceAdd, Nat.reduceSub, Nat.reduceMul, Nat.reduceLeDiff, Nat.reduceLT, Nat.reduceEqDiff, Int.reduceNeg, Nat.reduceBEq]
        refine fin_eq ?_ (by rfl)
        rw [decide_eq_false (fun hn => by rw [nodup_no hn (by omega)] at hx; cases hx)]
      · have hx := Bool.eq_false_iff.2 hx
        simp -implicitDefEqProofs (disch := omega) only [keyOK, key9, findIdx_no hx, go_sem, ↓reduceIte, Nat.reduceAdd, Nat.reduceSub, Nat.reduceMul, Nat.reduceLeDiff, Nat.reduceLT, Nat.reduceEqDiff, Int.reduceNeg, Nat.reduceBEq]
        refine ⟨k + 1, ⟨by omega, below_succ ha hx⟩, by omega, ?_, by simp⟩
        rw [take_next (by omega), List.map_append, List.replicate_succ']; rfl
    · refine fin_eq ?_ (by rfl)
      have h1 : k = l.length := by omega
      rw [decide_eq_true (nodup_of (h1 ▸ ha))]
end Go.Proofs.YtadileniakikeaaGreatDoor
set_option maxRecDepth 100000
set_option linter.unusedSimpArgs false
set_option linter.unusedVariables false
namespace Go.Proofs.YtadileniakikeaaGreatDoor
open Go Go.Vo

set_option maxHeartbeats 4000000 in
theorem ctr91 (l m : List (Str × Str)) (hl : l.length ≤ 140737488355328) (hm : m.length ≤ 140737488355328): Ctr Tryz.prog G0 91 [avb l, avb m] (.b (decide (l = m))) := by
  refine sem_intro (rx := false) mixed Tryz.func91 rfl (by kernel_rfl) (by kernel_rfl) (ac := ?_) ?_ g0 ?_
  rotate_left
  · simp only [strip, stripOps, stripOp, hoist, List.filter_cons, List.filter_nil, List.nil_append, List.cons_append, isFree, anyPre, Region.binds, Bool.not_true, Bool.not_false, Bool.false_eq_true, if_true, if_false, Option.isNone_none, Option.isNone_some, Bool.true_and, Bool.false_and, List.map_nil, List.map_cons, List.isEmpty_nil, List.isEmpty_cons, List.append_nil]
    rfl
  · simp -implicitDefEqProofs (disch := omega) only [Tryz.f91, go_sem, List.replicate, ↓reduceIte, Nat.reduceAdd, Nat.reduceSub, Nat.reduceMul, Nat.reduceLeDiff, Nat.reduceLT, Nat.reduceEqDiff, Int.reduceNeg, Nat.reduceBEq]
    (repeat' (first | refine g_true ?_ ?_ | refine g_false ?_ ?_ | refine cond_intro ?_ ?_ | refine And.intro (by omega) ?_ | (intro hr; have hc := hr; (try simp only [decide_eq_true_eq, decide_eq_false_iff_not, Bool.not_eq_true', Bool.not_eq_false'] at hc); simp -implicitDefEqProofs (disch := omega) only [hr, go_sem, ↓reduceIte, Nat.reduceAdd, Nat.reduceSub, Nat.reduceMul, Nat.reduceLeDiff, Nat.reduceLT, Nat.reduceEqDiff, Int.reduceNeg, Nat.reduceBEq]; (try clear hr))))
    · refine fin_eq ?_ (by rfl)
      have : l ≠ m := fun h => hc (by rw [h])
      rw [decide_eq_false this]
    refine x_loopJ (fun (k : Nat) => [.k, .k, .k, .k, .j, .j, .k, .k, .k, .k, .k, .k, .k, .v (.i .i64 k), .j, .j, .j, .j, .j, .j, .j, .j, .j, .j, .j, .j]) (fun k => []) (fun k => k ≤ l.length ∧ ∀ j, j < k → l.getD j ([], []) = m.getD j ([], [])) (fun k => l.length - k) (0) ⟨Nat.zero_le _, fun j h => by omega⟩ rfl (by simp [Fits]) ?_
    rintro k j ⟨hk, ha⟩
    simp -implicitDefEqProofs (disch := omega) only [go_sem, ↓reduceIte, Nat.reduceAdd, Nat.reduceSub, Nat.reduceMul, Nat.reduceLeDiff, Nat.reduceLT, Nat.reduceEqDiff, Int.reduceNeg, Nat.reduceBEq]
    (repeat' (first | refine g_true ?_ ?_ | refine g_false ?_ ?_ | refine cond_intro ?_ ?_ | refine And.intro (by omega) ?_ | (intro hr; have hc := hr; (try simp only [decide_eq_true_eq, decide_eq_false_iff_not, Bool.not_eq_true', Bool.not_eq_false'] at hc); simp -implicitDefEqProofs (disch := omega) only [hr, go_sem, ↓reduceIte, Nat.reduceAdd, Nat.reduceSub, Nat.reduceMul, Nat.reduceLeDiff, Nat.reduceLT, Nat.reduceEqDiff, Int.reduceNeg, Nat.reduceBEq]; (try clear hr))))
    · refine fin_eq ?_ (by rfl)
      have : l ≠ m := fun h => by simp_all
      rw [decide_eq_false this]
    · exact ⟨k + 1, ⟨by omega, below_succ ha (by simp_all [Prod.ext_iff])⟩, by omega, by simp⟩
    · refine fin_eq ?_ (by rfl)
      have : l = m := eq_getD (d := ([], [])) (by omega) (fun j hj => ha j (by omega))
      rw [decide_eq_true this]
set_option maxHeartbeats 4000000 in
theorem ctr127 (l m : List (Str × Str)) (hl : l.length ≤ 140737488355328) (hm : m.length ≤ 140737488355328): Ctr Tryz.prog G0 127 [avb l, avb m] (.b (decide (l = m))) := by
  refine sem_intro (rx := false) mixed Tryz.func127 rfl (by kernel_rfl) (by kernel_rfl) (ac := ?_) ?_ g0 ?_
  rotate_left
  · simp only [strip, stripOps, stripOp, hoist, List.filter_cons, List.filter_nil, List.nil_append, List.cons_append, isFree, anyPre, Region.binds, Bool.not_true, Bool.not_false, Bool.false_eq_true, if_true, if_false, Option.isNone_none, Option.isNone_some, Bool.true_and, Bool.false_and, List.map_nil, List.map_cons, List.isEmpty_nil, List.isEmpty_cons, List.append_nil]
    rfl
  · simp -implicitDefEqProofs (disch := omega) only [Tryz.f127, go_sem, List.replicate, ↓reduceIte, Nat.reduceAdd, Nat.reduceSub, Nat.reduceMul, Nat.reduceLeDiff, Nat.reduceLT, Nat.reduceEqDiff, Int.reduceNeg, Nat.reduceBEq]
    (repeat' (first | refine g_true ?_ ?_ | refine g_false ?_ ?_ | refine cond_intro ?_ ?_ | refine And.intro (by omega) ?_ | (intro hr; have hc := hr; (try simp only [decide_eq_true_eq, decide_eq_false_iff_not, Bool.not_eq_true', Bool.not_eq_false'] at hc); simp -implicitDefEqProofs (disch := omega) only [hr, go_sem, ↓reduceIte, Nat.reduceAdd, Nat.reduceSub, Nat.reduceMul, Nat.reduceLeDiff, Nat.reduceLT, Nat.reduceEqDiff, Int.reduceNeg, Nat.reduceBEq]; (try clear hr))))
    · refine fin_eq ?_ (by rfl)
      have : l ≠ m := fun h => hc (by rw [h])
      rw [decide_eq_false this]
    refine x_loopJ (fun (k : Nat) => [.k, .k, .k, .k, .j, .j, .k, .k, .k, .k, .k, .k, .k, .v (.i .i64 k), .j, .j, .j, .j, .j, .j, .j, .j, .j, .j, .j, .j]) (fun k => []) (fun k => k ≤ l.length ∧ ∀ j, j < k → l.getD j ([], []) = m.getD j ([], [])) (fun k => l.length - k) (0) ⟨Nat.zero_le _, fun j h => by omega⟩ rfl (by simp [Fits]) ?_
    rintro k j ⟨hk, ha⟩
    simp -implicitDefEqProofs (disch := omega) only [go_sem, ↓reduceIte, Nat.reduceAdd, Nat.reduceSub, Nat.reduceMul, Nat.reduceLeDiff, Nat.reduceLT, Nat.reduceEqDiff, Int.reduceNeg, Nat.reduceBEq]
    (repeat' (first | refine g_true ?_ ?_ | refine g_false ?_ ?_ | refine cond_intro ?_ ?_ | refine And.intro (by omega) ?_ | (intro hr; have hc := hr; (try simp only [decide_eq_true_eq, decide_eq_false_iff_not, Bool.not_eq_true', Bool.not_eq_false'] at hc); simp -implicitDefEqProofs (disch := omega) only [hr, go_sem, ↓reduceIte, Nat.reduceAdd, Nat.reduceSub, Nat.reduceMul, Nat.reduceLeDiff, Nat.reduceLT, Nat.reduceEqDiff, Int.reduceNeg, Nat.reduceBEq]; (try clear hr))))
    · refine fin_eq ?_ (by rfl)
      have : l ≠ m := fun h => by simp_all
      rw [decide_eq_false this]
    · exact ⟨k + 1, ⟨by omega, below_succ ha (by simp_all [Prod.ext_iff])⟩, by omega, by simp⟩
    · refine fin_eq ?_ (by rfl)
      have : l = m := eq_getD (d := ([], [])) (by omega) (fun j hj => ha j (by omega))
      rw [decide_eq_true this]
set_option maxHeartbeats 4000000 in
theorem ctr128 (l m : List (Int)) (hl : l.length ≤ 140737488355328) (hm : m.length ≤ 140737488355328): Ctr Tryz.prog G0 128 [avi l, avi m] (.b (decide (l = m))) := by
  refine sem_intro (rx := false) mixed Tryz.func128 rfl (by kernel_rfl) (by kernel_rfl) (ac := ?_) ?_ g0 ?_
  rotate_left
  · simp only [strip, stripOps, stripOp, hoist, List.filter_cons, List.filter_nil, List.nil_append, List.cons_append, isFree, anyPre, Region.binds, Bool.not_true, Bool.not_false, Bool.false_eq_true, if_true, if_false, Option.isNone_none, Option.isNone_some, Bool.true_and, Bool.false_and, List.map_nil, List.map_cons, List.isEmpty_nil, List.isEmpty_cons, List.append_nil]
    rfl
  · simp -implicitDefEqProofs (disch := omega) only [Tryz.f128, go_sem, List.replicate, ↓reduceIte, Nat.reduceAdd, Nat.reduceSub, Nat.reduceMul, Nat.reduceLeDiff, Nat.reduceLT, Nat.reduceEqDiff, Int.reduceNeg, Nat.reduceBEq]
    (repeat' (first | refine g_true ?_ ?_ | refine g_false ?_ ?_ | refine cond_intro ?_ ?_ | refine And.intro (by omega) ?_ | (intro hr; have hc := hr; (try simp only [decide_eq_true_eq, decide_eq_false_iff_not, Bool.not_eq_true', Bool.not_eq_false'] at hc); simp -implicitDefEqProofs (disch := omega) only [hr, go_sem, ↓reduceIte, Nat.reduceAdd, Nat.reduceSub, Nat.reduceMul, Nat.reduceLeDiff, Nat.reduceLT, Nat.reduceEqDiff, Int.reduceNeg, Nat.reduceBEq]; (try clear hr))))
    · refine fin_eq ?_ (by rfl)
      have : l ≠ m := fun h => hc (by rw [h])
      rw [decide_eq_false this]
    refine x_loopJ (fun (k : Nat) => [.k, .k, .k, .k, .j, .j, .k, .k, .k, .k, .k, .k, .k, .v (.i .i64 k), .j, .j, .j, .j, .j, .j, .j, .j, .j, .j, .j, .j]) (fun k => []) (fun k => k ≤ l.length ∧ ∀ j, j < k → l.getD j 0 = m.getD j 0) (fun k => l.length - k) (0) ⟨Nat.zero_le _, fun j h => by omega⟩ rfl (by simp [Fits]) ?_
    rintro k j ⟨hk, ha⟩
    simp -implicitDefEqProofs (disch := omega) only [go_sem, ↓reduceIte, Nat.reduceAdd, Nat.reduceSub, Nat.reduceMul, Nat.reduceLeDiff, Nat.reduceLT, Nat.reduceEqDiff, Int.reduceNeg, Nat.reduceBEq]
    (repeat' (first | refine g_true ?_ ?_ | refine g_false ?_ ?_ | refine cond_intro ?_ ?_ | refine And.intro (by omega) ?_ | (intro hr; have hc := hr; (try simp only [decide_eq_true_eq, decide_eq_false_iff_not, Bool.not_eq_true', Bool.not_eq_false'] at hc); simp -implicitDefEqProofs (disch := omega) only [hr, go_sem, ↓reduceIte, Nat.reduceAdd, Nat.reduceSub, Nat.reduceMul, Nat.reduceLeDiff, Nat.reduceLT, Nat.reduceEqDiff, Int.reduceNeg, Nat.reduceBEq]; (try clear hr))))
    · refine fin_eq ?_ (by rfl)
      have : l ≠ m := fun h => by simp_all
      rw [decide_eq_false this]
    · exact ⟨k + 1, ⟨by omega, below_succ ha (by simp_all [Prod.ext_iff])⟩, by omega, by simp⟩
    · refine fin_eq ?_ (by rfl)
      have : l = m := eq_getD (d := 0) (by omega) (fun j hj => ha j (by omega))
      rw [decide_eq_true this]

def elB (x : Str × Str) : AV := .agg (pairCells x)
def elO (x : LOp) : AV := .agg (opCells x)
attribute [go_sem] elB elO
set_option maxHeartbeats 4000000 in
theorem ctr133 (l : List (Str × Str)) (f : FuncId) (a b : List AV) (p : Str × Str → Bool) (hl : l.length ≤ 140737488355328) (ha : persL a = true) (hb : persL b = true) (hw : ∀ k, k < l.length → Ctr Tryz.prog G0 f (a ++ [elB (l.getD k ([], []))] ++ b) (.b (p (l.getD k ([], []))))): Ctr Tryz.prog G0 133 [avb l, .fn f a b] (.i .i64 (idx p l)) := by
  refine sem_intro (rx := false) mixed Tryz.func133 rfl (by kernel_rfl) (by kernel_rfl) (ac := ?_) ?_ g0 ?_
  rotate_left
  · simp only [strip, stripOps, stripOp, hoist, List.filter_cons, List.filter_nil, List.nil_append, List.cons_append, isFree, anyPre, Region.binds, Bool.not_true, Bool.not_false, Bool.false_eq_true, if_true, if_false, Option.isNone_none, Option.isNone_some, Bool.true_and, Bool.false_and, List.map_nil, List.map_cons, List.isEmpty_nil, List.isEmpty_cons, List.append_nil]
    rfl
  · simp -implicitDefEqProofs (disch := omega) only [Tryz.f133, go_sem, List.replicate, ↓reduceIte, Nat.reduceAdd, Nat.reduceSub, Nat.reduceMul, Nat.reduceLeDiff, Nat.reduceLT, Nat.reduceEqDiff, Int.reduceNeg, Nat.reduceBEq]
    refine x_loopJ (fun (k : Nat) => [.k, .k, .k, .k, .j, .j, .k, .k, .v (.i .i64 k), .j, .j, .j, .j, .j, .j, .j, .j, .j, .j]) (fun k => []) (fun k => k ≤ l.length ∧ ∀ j, j < k → p (l.getD j ([], [])) = false) (fun k => l.length - k) (0) ⟨Nat.zero_le _, fun j h => by omega⟩ rfl (by simp [Fits]) ?_
    rintro k j ⟨hk, hn⟩
    simp -implicitDefEqProofs (disch := omega) only [go_sem, ↓reduceIte, Nat.reduceAdd, Nat.reduceSub, Nat.reduceMul, Nat.reduceLeDiff, Nat.reduceLT, Nat.reduceEqDiff, Int.reduceNeg, Nat.reduceBEq]
    (repeat' (first | refine g_true ?_ ?_ | refine g_false ?_ ?_ | refine cond_intro ?_ ?_ | refine And.intro (by omega) ?_ | (intro hr; have hc := hr; (try simp only [decide_eq_true_eq, decide_eq_false_iff_not, Bool.not_eq_true', Bool.not_eq_false'] at hc); simp -implicitDefEqProofs (disch := omega) only [hr, go_sem, ↓reduceIte, Nat.reduceAdd, Nat.reduceSub, Nat.reduceMul, Nat.reduceLeDiff, Nat.reduceLT, Nat.reduceEqDiff, Int.reduceNeg, Nat.reduceBEq]; (try clear hr))))
    · refine c_ctrE (hw k (by omega)) ?_ ?_
      · simp -implicitDefEqProofs (disch := omega) only [List.map_append, snapL ha, snapL hb, go_sem, ↓reduceIte, Nat.reduceAdd, Nat.reduceSub, Nat.reduceMul, Nat.reduceLeDiff, Nat.reduceLT, Nat.reduceEqDiff, Int.reduceNeg, Nat.reduceBEq]
      · simp -implicitDefEqProofs (disch := omega) only [go_sem, ↓reduceIte, Nat.reduceAdd, Nat.reduceSub, Nat.reduceMul, Nat.reduceLeDiff, Nat.reduceLT, Nat.reduceEqDiff, Int.reduceNeg, Nat.reduceBEq]
        (repeat' (first | refine g_true ?_ ?_ | refine g_false ?_ ?_ | refine cond_intro ?_ ?_ | refine And.intro (by omega) ?_ | (intro hr; have hc := hr; (try simp only [decide_eq_true_eq, decide_eq_false_iff_not, Bool.not_eq_true', Bool.not_eq_false'] at hc); simp -implicitDefEqProofs (disch := omega) only [hr, go_sem, ↓reduceIte, Nat.reduceAdd, Nat.reduceSub, Nat.reduceMul, Nat.reduceLeDiff, Nat.reduceLT, Nat.reduceEqDiff, Int.reduceNeg, Nat.reduceBEq]; (try clear hr))))
        · refine fin_eq ?_ (by rfl)
          rw [idx_some (d := ([], [])) (k := k) (by omega) hc hn]
        · exact ⟨k + 1, ⟨by omega, below_succ hn hc⟩, by omega, by simp⟩
    · refine fin_eq ?_ (by rfl)
      have h1 : k = l.length := by omega
      rw [idx_none (h1 ▸ hn)]
set_option maxHeartbeats 4000000 in
theorem ctr134 (l : List (LOp)) (f : FuncId) (a b : List AV) (p : LOp → Bool) (hl : l.length ≤ 140737488355328) (ha : persL a = true) (hb : persL b = true) (hw : ∀ k, k < l.length → Ctr Tryz.prog G0 f (a ++ [elO (l.getD k default)] ++ b) (.b (p (l.getD k default)))): Ctr Tryz.prog G0 134 [avo l, .fn f a b] (.i .i64 (idx p l)) := by
  refine sem_intro (rx := false) mixed Tryz.func134 rfl (by kernel_rfl) (by kernel_rfl) (ac := ?_) ?_ g0 ?_
  rotate_left
  · simp only [strip, stripOps, stripOp, hoist, List.filter_cons, List.filter_nil, List.nil_append, List.cons_append, isFree, anyPre, Region.binds, Bool.not_true, Bool.not_false, Bool.false_eq_true, if_true, if_false, Option.isNone_none, Option.isNone_some, Bool.true_and, Bool.false_and, List.map_nil, List.map_cons, List.isEmpty_nil, List.isEmpty_cons, List.append_nil]
    rfl
  · simp -implicitDefEqProofs (disch := omega) only [Tryz.f134, go_sem, List.replicate, ↓reduceIte, Nat.reduceAdd, Nat.reduceSub, Nat.reduceMul, Nat.reduceLeDiff, Nat.reduceLT, Nat.reduceEqDiff, Int.reduceNeg, Nat.reduceBEq]
    refine x_loopJ (fun (k : Nat) => [.k, .k, .k, .k, .j, .j, .k, .k, .v (.i .i64 k), .j, .j, .j, .j, .j, .j, .j, .j, .j, .j]) (fun k => []) (fun k => k ≤ l.length ∧ ∀ j, j < k → p (l.getD j default) = false) (fun k => l.length - k) (0) ⟨Nat.zero_le _, fun j h => by omega⟩ rfl (by simp [Fits]) ?_
    rintro k j ⟨hk, hn⟩
    simp -implicitDefEqProofs (disch := omega) only [go_sem, ↓reduceIte, Nat.reduceAdd, Nat.reduceSub, Nat.reduceMul, Nat.reduceLeDiff, Nat.reduceLT, Nat.reduceEqDiff, Int.reduceNeg, Nat.reduceBEq]
    (repeat' (first | refine g_true ?_ ?_ | refine g_false ?_ ?_ | refine cond_intro ?_ ?_ | refine And.intro (by omega) ?_ | (intro hr; have hc := hr; (try simp only [decide_eq_true_eq, decide_eq_false_iff_not, Bool.not_eq_true', Bool.not_eq_false'] at hc); simp -implicitDefEqProofs (disch := omega) only [hr, go_sem, ↓reduceIte, Nat.reduceAdd, Nat.reduceSub, Nat.reduceMul, Nat.reduceLeDiff, Nat.reduceLT, Nat.reduceEqDiff, Int.reduceNeg, Nat.reduceBEq]; (try clear hr))))
    · refine c_ctrE (hw k (by omega)) ?_ ?_
      · simp -implicitDefEqProofs (disch := omega) only [List.map_append, snapL ha, snapL hb, go_sem, ↓reduceIte, Nat.reduceAdd, Nat.reduceSub, Nat.reduceMul, Nat.reduceLeDiff, Nat.reduceLT, Nat.reduceEqDiff, Int.reduceNeg, Nat.reduceBEq]
      · simp -implicitDefEqProofs (disch := omega) only [go_sem, ↓reduceIte, Nat.reduceAdd, Nat.reduceSub, Nat.reduceMul, Nat.reduceLeDiff, Nat.reduceLT, Nat.reduceEqDiff, Int.reduceNeg, Nat.reduceBEq]
        (repeat' (first | refine g_true ?_ ?_ | refine g_false ?_ ?_ | refine cond_intro ?_ ?_ | refine And.intro (by omega) ?_ | (intro hr; have hc := hr; (try simp only [decide_eq_true_eq, decide_eq_false_iff_not, Bool.not_eq_true', Bool.not_eq_false'] at hc); simp -implicitDefEqProofs (disch := omega) only [hr, go_sem, ↓reduceIte, Nat.reduceAdd, Nat.reduceSub, Nat.reduceMul, Nat.reduceLeDiff, Nat.reduceLT, Nat.reduceEqDiff, Int.reduceNeg, Nat.reduceBEq]; (try clear hr))))
        · refine fin_eq ?_ (by rfl)
          rw [idx_some (d := default) (k := k) (by omega) hc hn]
        · exact ⟨k + 1, ⟨by omega, below_succ hn hc⟩, by omega, by simp⟩
    · refine fin_eq ?_ (by rfl)
      have h1 : k = l.length := by omega
      rw [idx_none (h1 ▸ hn)]
set_option maxHeartbeats 4000000 in
theorem ctr146 (l : List (Int)) (f : FuncId) (a b : List AV) (p : Int → Bool) (hl : l.length ≤ 140737488355328) (ha : persL a = true) (hb : persL b = true) (hw : ∀ k, k < l.length → Ctr Tryz.prog G0 f (a ++ [.i .i64 (l.getD k 0)] ++ b) (.b (p (l.getD k 0)))): Ctr Tryz.prog G0 146 [avi l, .fn f a b] (.i .i64 (idx p l)) := by
  refine sem_intro (rx := false) mixed Tryz.func146 rfl (by kernel_rfl) (by kernel_rfl) (ac := ?_) ?_ g0 ?_
  rotate_left
  · simp only [strip, stripOps, stripOp, hoist, List.filter_cons, List.filter_nil, List.nil_append, List.cons_append, isFree, anyPre, Region.binds, Bool.not_true, Bool.not_false, Bool.false_eq_true, if_true, if_false, Option.isNone_none, Option.isNone_some, Bool.true_and, Bool.false_and, List.map_nil, List.map_cons, List.isEmpty_nil, List.isEmpty_cons, List.append_nil]
    rfl
  · simp -implicitDefEqProofs (disch := omega) only [Tryz.f146, go_sem, List.replicate, ↓reduceIte, Nat.reduceAdd, Nat.reduceSub, Nat.reduceMul, Nat.reduceLeDiff, Nat.reduceLT, Nat.reduceEqDiff, Int.reduceNeg, Nat.reduceBEq]
    refine x_loopJ (fun (k : Nat) => [.k, .k, .k, .k, .j, .j, .k, .k, .v (.i .i64 k), .j, .j, .j, .j, .j, .j, .j, .j, .j, .j]) (fun k => []) (fun k => k ≤ l.length ∧ ∀ j, j < k → p (l.getD j 0) = false) (fun k => l.length - k) (0) ⟨Nat.zero_le _, fun j h => by omega⟩ rfl (by simp [Fits]) ?_
    rintro k j ⟨hk, hn⟩
    simp -implicitDefEqProofs (disch := omega) only [go_sem, ↓reduceIte, Nat.reduceAdd, Nat.reduceSub, Nat.reduceMul, Nat.reduceLeDiff, Nat.reduceLT, Nat.reduceEqDiff, Int.reduceNeg, Nat.reduceBEq]
    (repeat' (first | refine g_true ?_ ?_ | refine g_false ?_ ?_ | refine cond_intro ?_ ?_ | refine And.intro (by omega) ?_ | (intro hr; have hc := hr; (try simp only [decide_eq_true_eq, decide_eq_false_iff_not, Bool.not_eq_true', Bool.not_eq_false'] at hc); simp -implicitDefEqProofs (disch := omega) only [hr, go_sem, ↓reduceIte, Nat.reduceAdd, Nat.reduceSub, Nat.reduceMul, Nat.reduceLeDiff, Nat.reduceLT, Nat.reduceEqDiff, Int.reduceNeg, Nat.reduceBEq]; (try clear hr))))
    · refine c_ctrE (hw k (by omega)) ?_ ?_
      · simp -implicitDefEqProofs (disch := omega) only [List.map_append, snapL ha, snapL hb, go_sem, ↓reduceIte, Nat.reduceAdd, Nat.reduceSub, Nat.reduceMul, Nat.reduceLeDiff, Nat.reduceLT, Nat.reduceEqDiff, Int.reduceNeg, Nat.reduceBEq]
      · simp -implicitDefEqProofs (disch := omega) only [go_sem, ↓reduceIte, Nat.reduceAdd, Nat.reduceSub, Nat.reduceMul, Nat.reduceLeDiff, Nat.reduceLT, Nat.reduceEqDiff, Int.reduceNeg, Nat.reduceBEq]
        (repeat' (first | refine g_true ?_ ?_ | refine g_false ?_ ?_ | refine cond_intro ?_ ?_ | refine And.intro (by omega) ?_ | (intro hr; have hc := hr; (try simp only [decide_eq_true_eq, decide_eq_false_iff_not, Bool.not_eq_true', Bool.not_eq_false'] at hc); simp -implicitDefEqProofs (disch := omega) only [hr, go_sem, ↓reduceIte, Nat.reduceAdd, Nat.reduceSub, Nat.reduceMul, Nat.reduceLeDiff, Nat.reduceLT, Nat.reduceEqDiff, Int.reduceNeg, Nat.reduceBEq]; (try clear hr))))
        · refine fin_eq ?_ (by rfl)
          rw [idx_some (d := 0) (k := k) (by omega) hc hn]
        · exact ⟨k + 1, ⟨by omega, below_succ hn hc⟩, by omega, by simp⟩
    · refine fin_eq ?_ (by rfl)
      have h1 : k = l.length := by omega
      rw [idx_none (h1 ▸ hn)]

set_option maxHeartbeats 4000000 in
theorem ctr105 (l : List (Str × Str)) (f : FuncId) (a b : List AV) (p : Str × Str → Bool) (hl : l.length ≤ 140737488355328) (ha : persL a = true) (hb : persL b = true) (hw : ∀ k, k < l.length → Ctr Tryz.prog G0 f (a ++ [elB (l.getD k ([], []))] ++ b) (.b (p (l.getD k ([], []))))): Ctr Tryz.prog G0 105 [avb l, .fn f a b] (.b (l.any p)) := by
  refine sem_intro (rx := false) mixed Tryz.func105 rfl (by kernel_rfl) (by kernel_rfl) (ac := ?_) ?_ g0 ?_
  rotate_left
  · simp only [strip, stripOps, stripOp, hoist, List.filter_cons, List.filter_nil, List.nil_append, List.cons_append, isFree, anyPre, Region.binds, Bool.not_true, Bool.not_false, Bool.false_eq_true, if_true, if_false, Option.isNone_none, Option.isNone_some, Bool.true_and, Bool.false_and, List.map_nil, List.map_cons, List.isEmpty_nil, List.isEmpty_cons, List.append_nil]
    rfl
  · simp -implicitDefEqProofs (disch := omega) only [Tryz.f105, go_sem, List.replicate, ↓reduceIte, Nat.reduceAdd, Nat.reduceSub, Nat.reduceMul, Nat.reduceLeDiff, Nat.reduceLT, Nat.reduceEqDiff, Int.reduceNeg, Nat.reduceBEq]
    refine c_ctrE (ctr133 l f a b p hl ha hb hw) ?_ ?_
    · simp -implicitDefEqProofs (disch := omega) only [ha, hb, go_sem, ↓reduceIte, Nat.reduceAdd, Nat.reduceSub, Nat.reduceMul, Nat.reduceLeDiff, Nat.reduceLT, Nat.reduceEqDiff, Int.reduceNeg, Nat.reduceBEq]
    · simp -implicitDefEqProofs (disch := omega) only [go_sem, ↓reduceIte, Nat.reduceAdd, Nat.reduceSub, Nat.reduceMul, Nat.reduceLeDiff, Nat.reduceLT, Nat.reduceEqDiff, Int.reduceNeg, Nat.reduceBEq]
      refine fin_eq ?_ (by rfl)
      rw [idx_any]
set_option maxHeartbeats 4000000 in
theorem ctr107 (l : List (LOp)) (f : FuncId) (a b : List AV) (p : LOp → Bool) (hl : l.length ≤ 140737488355328) (ha : persL a = true) (hb : persL b = true) (hw : ∀ k, k < l.length → Ctr Tryz.prog G0 f (a ++ [elO (l.getD k default)] ++ b) (.b (p (l.getD k default)))): Ctr Tryz.prog G0 107 [avo l, .fn f a b] (.b (l.any p)) := by
  refine sem_intro (rx := false) mixed Tryz.func107 rfl (by kernel_rfl) (by kernel_rfl) (ac := ?_) ?_ g0 ?_
  rotate_left
  · simp only [strip, stripOps, stripOp, hoist, List.filter_cons, List.filter_nil, List.nil_append, List.cons_append, isFree, anyPre, Region.binds, Bool.not_true, Bool.not_false, Bool.false_eq_true, if_true, if_false, Option.isNone_none, Option.isNone_some, Bool.true_and, Bool.false_and, List.map_nil, List.map_cons, List.isEmpty_nil, List.isEmpty_cons, List.append_nil]
    rfl
  · simp -implicitDefEqProofs (disch := omega) only [Tryz.f107, go_sem, List.replicate, ↓reduceIte, Nat.reduceAdd, Nat.reduceSub, Nat.reduceMul, Nat.reduceLeDiff, Nat.reduceLT, Nat.reduceEqDiff, Int.reduceNeg, Nat.reduceBEq]
    refine c_ctrE (ctr134 l f a b p hl ha hb hw) ?_ ?_
    · simp -implicitDefEqProofs (disch := omega) only [ha, hb, go_sem, ↓reduceIte, Nat.reduceAdd, Nat.reduceSub, Nat.reduceMul, Nat.reduceLeDiff, Nat.reduceLT, Nat.reduceEqDiff, Int.reduceNeg, Nat.reduceBEq]
    · simp -implicitDefEqProofs (disch := omega) only [go_sem, ↓reduceIte, Nat.reduceAdd, Nat.reduceSub, Nat.reduceMul, Nat.reduceLeDiff, Nat.reduceLT, Nat.reduceEqDiff, Int.reduceNeg, Nat.reduceBEq]
      refine fin_eq ?_ (by rfl)
      rw [idx_any]
set_option maxHeartbeats 4000000 in
theorem ctr135 (l : List (Int)) (f : FuncId) (a b : List AV) (p : Int → Bool) (hl : l.length ≤ 140737488355328) (ha : persL a = true) (hb : persL b = true) (hw : ∀ k, k < l.length → Ctr Tryz.prog G0 f (a ++ [.i .i64 (l.getD k 0)] ++ b) (.b (p (l.getD k 0)))): Ctr Tryz.prog G0 135 [avi l, .fn f a b] (.b (l.any p)) := by
  refine sem_intro (rx := false) mixed Tryz.func135 rfl (by kernel_rfl) (by kernel_rfl) (ac := ?_) ?_ g0 ?_
  rotate_left
  · simp only [strip, stripOps, stripOp, hoist, List.filter_cons, List.filter_nil, List.nil_append, List.cons_append, isFree, anyPre, Region.binds, Bool.not_true, Bool.not_false, Bool.false_eq_true, if_true, if_false, Option.isNone_none, Option.isNone_some, Bool.true_and, Bool.false_and, List.map_nil, List.map_cons, List.isEmpty_nil, List.isEmpty_cons, List.append_nil]
    rfl
  · simp -implicitDefEqProofs (disch := omega) only [Tryz.f135, go_sem, List.replicate, ↓reduceIte, Nat.reduceAdd, Nat.reduceSub, Nat.reduceMul, Nat.reduceLeDiff, Nat.reduceLT, Nat.reduceEqDiff, Int.reduceNeg, Nat.reduceBEq]
    refine c_ctrE (ctr146 l f a b p hl ha hb hw) ?_ ?_
    · simp -implicitDefEqProofs (disch := omega) only [ha, hb, go_sem, ↓reduceIte, Nat.reduceAdd, Nat.reduceSub, Nat.reduceMul, Nat.reduceLeDiff, Nat.reduceLT, Nat.reduceEqDiff, Int.reduceNeg, Nat.reduceBEq]
    · simp -implicitDefEqProofs (disch := omega) only [go_sem, ↓reduceIte, Nat.reduceAdd, Nat.reduceSub, Nat.reduceMul, Nat.reduceLeDiff, Nat.reduceLT, Nat.reduceEqDiff, Int.reduceNeg, Nat.reduceBEq]
      refine fin_eq ?_ (by rfl)
      rw [idx_any]

set_option maxHeartbeats 4000000 in
theorem ctr106 (x : Str × Str) (f : FuncId) (a b : List AV) (p : Bool) (ha : persL a = true) (hb : persL b = true) (hw : Ctr Tryz.prog G0 f (a ++ [elB x] ++ b) (.b p)): Ctr Tryz.prog G0 106 [elB x, .box [.fn f a b] 0] (.b (!p)) := by
  refine sem_intro (rx := false) mixed Tryz.func106 rfl (by kernel_rfl) (by kernel_rfl) (ac := ?_) ?_ g0 ?_
  rotate_left
  · simp only [strip, stripOps, stripOp, hoist, List.filter_cons, List.filter_nil, List.nil_append, List.cons_append, isFree, anyPre, Region.binds, Bool.not_true, Bool.not_false, Bool.false_eq_true, if_true, if_false, Option.isNone_none, Option.isNone_some, Bool.true_and, Bool.false_and, List.map_nil, List.map_cons, List.isEmpty_nil, List.isEmpty_cons, List.append_nil]
    rfl
  · simp -implicitDefEqProofs (disch := omega) only [Tryz.f106, go_sem, List.replicate, ↓reduceIte, Nat.reduceAdd, Nat.reduceSub, Nat.reduceMul, Nat.reduceLeDiff, Nat.reduceLT, Nat.reduceEqDiff, Int.reduceNeg, Nat.reduceBEq]
    refine c_ctrE hw ?_ ?_
    · simp -implicitDefEqProofs (disch := omega) only [List.map_append, snapL ha, snapL hb, go_sem, ↓reduceIte, Nat.reduceAdd, Nat.reduceSub, Nat.reduceMul, Nat.reduceLeDiff, Nat.reduceLT, Nat.reduceEqDiff, Int.reduceNeg, Nat.reduceBEq]
    · simp -implicitDefEqProofs (disch := omega) only [go_sem, ↓reduceIte, Nat.reduceAdd, Nat.reduceSub, Nat.reduceMul, Nat.reduceLeDiff, Nat.reduceLT, Nat.reduceEqDiff, Int.reduceNeg, Nat.reduceBEq]
      refine fin_eq ?_ (by rfl)
      rfl
set_option maxHeartbeats 4000000 in
theorem ctr108 (x : LOp) (f : FuncId) (a b : List AV) (p : Bool) (ha : persL a = true) (hb : persL b = true) (hw : Ctr Tryz.prog G0 f (a ++ [elO x] ++ b) (.b p)): Ctr Tryz.prog G0 108 [elO x, .box [.fn f a b] 0] (.b (!p)) := by
  refine sem_intro (rx := false) mixed Tryz.func108 rfl (by kernel_rfl) (by kernel_rfl) (ac := ?_) ?_ g0 ?_
  rotate_left
  · simp only [strip, stripOps, stripOp, hoist, List.filter_cons, List.filter_nil, List.nil_append, List.cons_append, isFree, anyPre, Region.binds, Bool.not_true, Bool.not_false, Bool.false_eq_true, if_true, if_false, Option.isNone_none, Option.isNone_some, Bool.true_and, Bool.false_and, List.map_nil, List.map_cons, List.isEmpty_nil, List.isEmpty_cons, List.append_nil]
    rfl
  · simp -implicitDefEqProofs (disch := omega) only [Tryz.f108, go_sem, List.replicate, ↓reduceIte, Nat.reduceAdd, Nat.reduceSub, Nat.reduceMul, Nat.reduceLeDiff, Nat.reduceLT, Nat.reduceEqDiff, Int.reduceNeg, Nat.reduceBEq]
    refine c_ctrE hw ?_ ?_
    · simp -implicitDefEqProofs (disch := omega) only [List.map_append, snapL ha, snapL hb, go_sem, ↓reduceIte, Nat.reduceAdd, Nat.reduceSub, Nat.reduceMul, Nat.reduceLeDiff, Nat.reduceLT, Nat.reduceEqDiff, Int.reduceNeg, Nat.reduceBEq]
    · simp -implicitDefEqProofs (disch := omega) only [go_sem, ↓reduceIte, Nat.reduceAdd, Nat.reduceSub, Nat.reduceMul, Nat.reduceLeDiff, Nat.reduceLT, Nat.reduceEqDiff, Int.reduceNeg, Nat.reduceBEq]
      refine fin_eq ?_ (by rfl)
      rfl
set_option maxHeartbeats 4000000 in
theorem ctr136 (x : Int) (f : FuncId) (a b : List AV) (p : Bool) (ha : persL a = true) (hb : persL b = true) (hw : Ctr Tryz.prog G0 f (a ++ [.i .i64 x] ++ b) (.b p)): Ctr Tryz.prog G0 136 [.i .i64 x, .box [.fn f a b] 0] (.b (!p)) := by
  refine sem_intro (rx := false) mixed Tryz.func136 rfl (by kernel_rfl) (by kernel_rfl) (ac := ?_) ?_ g0 ?_
  rotate_left
  · simp only [strip, stripOps, stripOp, hoist, List.filter_cons, List.filter_nil, List.nil_append, List.cons_append, isFree, anyPre, Region.binds, Bool.not_true, Bool.not_false, Bool.false_eq_true, if_true, if_false, Option.isNone_none, Option.isNone_some, Bool.true_and, Bool.false_and, List.map_nil, List.map_cons, List.isEmpty_nil, List.isEmpty_cons, List.append_nil]
    rfl
  · simp -implicitDefEqProofs (disch := omega) only [Tryz.f136, go_sem, List.replicate, ↓reduceIte, Nat.reduceAdd, Nat.reduceSub, Nat.reduceMul, Nat.reduceLeDiff, Nat.reduceLT, Nat.reduceEqDiff, Int.reduceNeg, Nat.reduceBEq]
    refine c_ctrE hw ?_ ?_
    · simp -implicitDefEqProofs (disch := omega) only [List.map_append, snapL ha, snapL hb, go_sem, ↓reduceIte, Nat.reduceAdd, Nat.reduceSub, Nat.reduceMul, Nat.reduceLeDiff, Nat.reduceLT, Nat.reduceEqDiff, Int.reduceNeg, Nat.reduceBEq]
    · simp -implicitDefEqProofs (disch := omega) only [go_sem, ↓reduceIte, Nat.reduceAdd, Nat.reduceSub, Nat.reduceMul, Nat.reduceLeDiff, Nat.reduceLT, Nat.reduceEqDiff, Int.reduceNeg, Nat.reduceBEq]
      refine fin_eq ?_ (by rfl)
      rfl

set_option maxHeartbeats 4000000 in
theorem ctr52 (l : List (Str × Str)) (f : FuncId) (a b : List AV) (p : Str × Str → Bool) (hl : l.length ≤ 140737488355328) (ha : persL a = true) (hb : persL b = true) (hw : ∀ k, k < l.length → Ctr Tryz.prog G0 f (a ++ [elB (l.getD k ([], []))] ++ b) (.b (p (l.getD k ([], []))))): Ctr Tryz.prog G0 52 [avb l, .fn f a b] (.b (l.all p)) := by
  refine sem_intro (rx := false) mixed Tryz.func52 rfl (by kernel_rfl) (by kernel_rfl) (ac := ?_) ?_ g0 ?_
  rotate_left
  · simp only [strip, stripOps, stripOp, hoist, List.filter_cons, List.filter_nil, List.nil_append, List.cons_append, isFree, anyPre, Region.binds, Bool.not_true, Bool.not_false, Bool.false_eq_true, if_true, if_false, Option.isNone_none, Option.isNone_some, Bool.true_and, Bool.false_and, List.map_nil, List.map_cons, List.isEmpty_nil, List.isEmpty_cons, List.append_nil]
    rfl
  · simp -implicitDefEqProofs (disch := omega) only [Tryz.f52, go_sem, List.replicate, ↓reduceIte, Nat.reduceAdd, Nat.reduceSub, Nat.reduceMul, Nat.reduceLeDiff, Nat.reduceLT, Nat.reduceEqDiff, Int.reduceNeg, Nat.reduceBEq]
    refine c_ctrE (ctr105 l 106 [] [.box [.fn f a b] 0] (fun x => !p x) hl rfl (by simp [persL, pers, ha, hb]) (fun k hk => ctr106 _ f a b _ ha hb (hw k hk))) ?_ ?_
    · simp -implicitDefEqProofs (disch := omega) only [ha, hb, go_sem, ↓reduceIte, Nat.reduceAdd, Nat.reduceSub, Nat.reduceMul, Nat.reduceLeDiff, Nat.reduceLT, Nat.reduceEqDiff, Int.reduceNeg, Nat.reduceBEq]
    · simp -implicitDefEqProofs (disch := omega) only [ha, hb, go_sem, ↓reduceIte, Nat.reduceAdd, Nat.reduceSub, Nat.reduceMul, Nat.reduceLeDiff, Nat.reduceLT, Nat.reduceEqDiff, Int.reduceNeg, Nat.reduceBEq]
      refine fin_eq ?_ (by rfl)
      rw [List.all_eq_not_any_not]
set_option maxHeartbeats 4000000 in
theorem ctr55 (l : List (LOp)) (f : FuncId) (a b : List AV) (p : LOp → Bool) (hl : l.length ≤ 140737488355328) (ha : persL a = true) (hb : persL b = true) (hw : ∀ k, k < l.length → Ctr Tryz.prog G0 f (a ++ [elO (l.getD k default)] ++ b) (.b (p (l.getD k default)))): Ctr Tryz.prog G0 55 [avo l, .fn f a b] (.b (l.all p)) := by
  refine sem_intro (rx := false) mixed Tryz.func55 rfl (by kernel_rfl) (by kernel_rfl) (ac := ?_) ?_ g0 ?_
  rotate_left
  · simp only [strip, stripOps, stripOp, hoist, List.filter_cons, List.filter_nil, List.nil_append, List.cons_append, isFree, anyPre, Region.binds, Bool.not_true, Bool.not_false, Bool.false_eq_true, if_true, if_false, Option.isNone_none, Option.isNone_some, Bool.true_and, Bool.false_and, List.map_nil, List.map_cons, List.isEmpty_nil, List.isEmpty_cons, List.append_nil]
    rfl
  · simp -implicitDefEqProofs (disch := omega) only [Tryz.f55, go_sem, List.replicate, ↓reduceIte, Nat.reduceAdd, Nat.reduceSub, Nat.reduceMul, Nat.reduceLeDiff, Nat.reduceLT, Nat.reduceEqDiff, Int.reduceNeg, Nat.reduceBEq]
    refine c_ctrE (ctr107 l 108 [] [.box [.fn f a b] 0] (fun x => !p x) hl rfl (by simp [persL, pers, ha, hb]) (fun k hk => ctr108 _ f a b _ ha hb (hw k hk))) ?_ ?_
    · simp -implicitDefEqProofs (disch := omega) only [ha, hb, go_sem, ↓reduceIte, Nat.reduceAdd, Nat.reduceSub, Nat.reduceMul, Nat.reduceLeDiff, Nat.reduceLT, Nat.reduceEqDiff, Int.reduceNeg, Nat.reduceBEq]
    · simp -implicitDefEqProofs (disch := omega) only [ha, hb, go_sem, ↓reduceIte, Nat.reduceAdd, Nat.reduceSub, Nat.reduceMul, Nat.reduceLeDiff, Nat.reduceLT, Nat.reduceEqDiff, Int.reduceNeg, Nat.reduceBEq]
      refine fin_eq ?_ (by rfl)
      rw [List.all_eq_not_any_not]
set_option maxHeartbeats 4000000 in
theorem ctr111 (l : List (Int)) (f : FuncId) (a b : List AV) (p : Int → Bool) (hl : l.length ≤ 140737488355328) (ha : persL a = true) (hb : persL b = true) (hw : ∀ k, k < l.length → Ctr Tryz.prog G0 f (a ++ [.i .i64 (l.getD k 0)] ++ b) (.b (p (l.getD k 0)))): Ctr Tryz.prog G0 111 [avi l, .fn f a b] (.b (l.all p)) := by
  refine sem_intro (rx := false) mixed Tryz.func111 rfl (by kernel_rfl) (by kernel_rfl) (ac := ?_) ?_ g0 ?_
  rotate_left
  · simp only [strip, stripOps, stripOp, hoist, List.filter_cons, List.filter_nil, List.nil_append, List.cons_append, isFree, anyPre, Region.binds, Bool.not_true, Bool.not_false, Bool.false_eq_true, if_true, if_false, Option.isNone_none, Option.isNone_some, Bool.true_and, Bool.false_and, List.map_nil, List.map_cons, List.isEmpty_nil, List.isEmpty_cons, List.append_nil]
    rfl
  · simp -implicitDefEqProofs (disch := omega) only [Tryz.f111, go_sem, List.replicate, ↓reduceIte, Nat.reduceAdd, Nat.reduceSub, Nat.reduceMul, Nat.reduceLeDiff, Nat.reduceLT, Nat.reduceEqDiff, Int.reduceNeg, Nat.reduceBEq]
    refine c_ctrE (ctr135 l 136 [] [.box [.fn f a b] 0] (fun x => !p x) hl rfl (by simp [persL, pers, ha, hb]) (fun k hk => ctr136 _ f a b _ ha hb (hw k hk))) ?_ ?_
    · simp -implicitDefEqProofs (disch := omega) only [ha, hb, go_sem, ↓reduceIte, Nat.reduceAdd, Nat.reduceSub, Nat.reduceMul, Nat.reduceLeDiff, Nat.reduceLT, Nat.reduceEqDiff, Int.reduceNeg, Nat.reduceBEq]
    · simp -implicitDefEqProofs (disch := omega) only [ha, hb, go_sem, ↓reduceIte, Nat.reduceAdd, Nat.reduceSub, Nat.reduceMul, Nat.reduceLeDiff, Nat.reduceLT, Nat.reduceEqDiff, Int.reduceNeg, Nat.reduceBEq]
      refine fin_eq ?_ (by rfl)
      rw [List.all_eq_not_any_not]
end Go.Proofs.YtadileniakikeaaGreatDoor
set_option maxRecDepth 100000
set_option linter.unusedSimpArgs false
set_option linter.unusedVariables false
namespace Go.Proofs.YtadileniakikeaaGreatDoor
open Go Go.Vo

theorem akeyFind_of {α : Type} [DecidableEq α] {P : Program} {T : TypeId} {el : α → AV} (hT : ∀ x y, aEq P T (el x) (el y) = some (decide (x = y))) {x : α} : ∀ (l : List α), akeyFind P T (el x) (l.map el) = some (l.findIdx? fun y => decide (x = y))
  | [] => rfl
  | y :: l => by
    simp only [List.map_cons, akeyFind, hT, akeyFind_of hT l, List.findIdx?_cons]
    cases h : decide (x = y) <;> simp
theorem keyB (x : Str × Str) (l : List (Str × Str)) : akeyFind Tryz.prog 57 (elB x) (l.map elB) = some (l.findIdx? fun y => decide (x = y)) := akeyFind_of (fun x y => by
  simp only [elB, pairCells, aEq, lf57, leavesEq, leafEqT, un9, Option.some.injEq]
  rw [Bool.eq_iff_iff]; simp [Prod.ext_iff]) l
theorem keyI (x : Int) (l : List Int) : akeyFind Tryz.prog 3 (.i .i64 x) (l.map (.i .i64)) = some (l.findIdx? fun y => decide (x = y)) := akeyFind_of (fun x y => by
  simp [aEq, leafEqT, un3]) l
theorem findIdx_noG {α : Type} [BEq α] [LawfulBEq α] [DecidableEq α] {x : α} {l : List α} (h : l.contains x = false) : (l.findIdx? fun y => decide (x = y)) = none := by
  rw [List.findIdx?_eq_none_iff]
  intro y hy
  have : x ∉ l := by simpa using h
  simp only [decide_eq_false_iff_not]
  exact fun he => this (he ▸ hy)
theorem findIdx_yesG {α : Type} [BEq α] [LawfulBEq α] [DecidableEq α] {x : α} {l : List α} (h : l.contains x = true) : ∃ i, i < l.length ∧ (l.findIdx? fun y => decide (x = y)) = some i := by
  cases hf : l.findIdx? fun y => decide (x = y) with
  | none =>
    rw [List.findIdx?_eq_none_iff] at hf
    have hm : x ∈ l := by simpa using h
    have := hf x hm
    simp at this
  | some i =>
    rw [List.findIdx?_eq_some_iff_getElem] at hf
    exact ⟨i, hf.1, rfl⟩
theorem nodup_noG {α : Type} [BEq α] [LawfulBEq α] [DecidableEq α] {l : List α} {k : Nat} {d : α} (hn : l.Nodup) (hk : k < l.length) : (l.take k).contains (l.getD k d) = false := by
  have : l.getD k d ∉ l.take k := by
    intro hm
    obtain ⟨j, hj, he⟩ := List.mem_iff_getElem.1 hm
    have := (List.pairwise_iff_getElem.1 hn) j k (by simp at hj; omega) hk (by simp at hj; omega)
    simp [List.getD, hk] at he
    exact this he
  simpa using this
theorem nodup_ofG {α : Type} [BEq α] [LawfulBEq α] [DecidableEq α] {l : List α} {d : α} (h : ∀ j, j < l.length → (l.take j).contains (l.getD j d) = false) : l.Nodup := by
  refine List.pairwise_iff_getElem.2 (fun i j hi hj hij he => ?_)
  have := h j hj
  have hm : l.getD j d ∈ l.take j := by
    rw [List.mem_iff_getElem]
    exact ⟨i, by simp; omega, by simp [List.getD, hj, he]⟩
  have h2 : (l.take j).contains (l.getD j d) = true := by simpa using hm
  rw [h2] at this; cases this

set_option maxHeartbeats 4000000 in
theorem ctr44 (l : List (Str × Str)) (hl : l.length ≤ 140737488355328): Ctr Tryz.prog G0 44 [avb l] (.b (decide l.Nodup)) := by
  refine sem_intro (rx := false) mixed Tryz.func44 rfl (by kernel_rfl) (by kernel_rfl) (ac := ?_) ?_ g0 ?_
  rotate_left
  · simp only [strip, stripOps, stripOp, hoist, List.filter_cons, List.filter_nil, List.nil_append, List.cons_append, isFree, anyPre, Region.binds, Bool.not_true, Bool.not_false, Bool.false_eq_true, if_true, if_false, Option.isNone_none, Option.isNone_some, Bool.true_and, Bool.false_and, List.map_nil, List.map_cons, List.isEmpty_nil, List.isEmpty_cons, List.append_nil]
    rfl
  · simp -implicitDefEqProofs (disch := omega) only [Tryz.f44, go_sem, List.replicate, ↓reduceIte, Nat.reduceAdd, Nat.reduceSub, Nat.reduceMul, Nat.reduceLeDiff, Nat.reduceLT, Nat.reduceEqDiff, Int.reduceNeg, Nat.reduceBEq]
    refine x_loopG (fun (k : Nat) => [.k, .k, .j, .k, .k, .j, .k, .k, .k, .v (.i .i64 k), .j, .j, .j, .j, .j, .j, .j, .j, .j]) (fun k => [.map false ((l.take k).map elB) (List.replicate k (.b true))]) (fun k => k ≤ l.length ∧ ∀ j, j < k → (l.take j).contains (l.getD j ([], [])) = false) (fun k => l.length - k) (0) _ ⟨Nat.zero_le _, fun j h => by omega⟩ rfl (by simp [Fits]) ?_
    rintro k g j ⟨hk, ha⟩
    simp -implicitDefEqProofs (disch := omega) only [go_sem, ↓reduceIte, Nat.reduceAdd, Nat.reduceSub, Nat.reduceMul, Nat.reduceLeDiff, Nat.reduceLT, Nat.reduceEqDiff, Int.reduceNeg, Nat.reduceBEq]
    (repeat' (first | refine g_true ?_ ?_ | refine g_false ?_ ?_ | refine cond_intro ?_ ?_ | refine And.intro (by omega) ?_ | (intro hr; have hc := hr; (try simp only [decide_eq_true_eq, decide_eq_false_iff_not, Bool.not_eq_true', Bool.not_eq_false'] at hc); simp -implicitDefEqProofs (disch := omega) only [hr, go_sem, ↓reduceIte, Nat.reduceAdd, Nat.reduceSub, Nat.reduceMul, Nat.reduceLeDiff, Nat.reduceLT, Nat.reduceEqDiff, Int.reduceNeg, Nat.reduceBEq]; (try clear hr))))
    · by_cases hx : (l.take k).contains (l.getD k ([], [])) = true
      · obtain ⟨i, hi, hf⟩ := findIdx_yesG hx
        have hi' : i < k := by simp at hi; omega
        have hk2 := keyB (l.getD k ([], [])) (l.take k)
        simp only [elB, pairCells] at hk2
        simp -implicitDefEqProofs (disch := omega) only [keyOK, hk2, hf, rep_get hi', go_sem, ↓reduceIte, Nat.reduceAdd, Nat.reduceSub, Nat.reduceMul, Nat.reduceLeDiff, Nat.reduceLT, Nat.reduceEqDiff, Int.reduceNeg, Nat.reduceBEq]
        refine fin_eq ?_ (by rfl)
        rw [decide_eq_false (fun hn => by rw [nodup_noG hn (by omega)] at hx; cases hx)]
      · have hx := Bool.eq_false_iff.2 hx
        have hk2 := keyB (l.getD k ([], [])) (l.take k)
        simp only [elB, pairCells] at hk2
        simp -implicitDefEqProofs (disch := omega) only [keyOK, hk2, findIdx_noG hx, go_sem, ↓reduceIte, Nat.reduceAdd, Nat.reduceSub, Nat.reduceMul, Nat.reduceLeDiff, Nat.reduceLT, Nat.reduceEqDiff, Int.reduceNeg, Nat.reduceBEq]
        refine ⟨k + 1, _, ⟨by omega, below_succ ha hx⟩, by omega, congr (congrArg List.cons ?_) rfl, by simp⟩
        rw [take_getD (d := ([], [])) (by omega), List.map_append, List.replicate_succ']; rfl
    · refine fin_eq ?_ (by rfl)
      have h1 : k = l.length := by omega
      rw [decide_eq_true (nodup_ofG (h1 ▸ ha))]
set_option maxHeartbeats 4000000 in
theorem ctr112 (l : List Int) (hl : l.length ≤ 140737488355328): Ctr Tryz.prog G0 112 [avi l] (.b (decide l.Nodup)) := by
  refine sem_intro (rx := false) mixed Tryz.func112 rfl (by kernel_rfl) (by kernel_rfl) (ac := ?_) ?_ g0 ?_
  rotate_left
  · simp only [strip, stripOps, stripOp, hoist, List.filter_cons, List.filter_nil, List.nil_append, List.cons_append, isFree, anyPre, Region.binds, Bool.not_true, Bool.not_false, Bool.false_eq_true, if_true, if_false, Option.isNone_none, Option.isNone_some, Bool.true_and, Bool.false_and, List.map_nil, List.map_cons, List.isEmpty_nil, List.isEmpty_cons, List.append_nil]
    rfl
  · simp -implicitDefEqProofs (disch := omega) only [Tryz.f112, go_sem, List.replicate, ↓reduceIte, Nat.reduceAdd, Nat.reduceSub, Nat.reduceMul, Nat.reduceLeDiff, Nat.reduceLT, Nat.reduceEqDiff, Int.reduceNeg, Nat.reduceBEq]
    refine x_loopJ (fun (k : Nat) => [.k, .k, .j, .k, .k, .j, .k, .k, .k, .v (.i .i64 k), .j, .j, .j, .j, .j, .j, .j, .j, .j]) (fun k => [.map false ((l.take k).map (.i .i64)) (List.replicate k (.b true))]) (fun k => k ≤ l.length ∧ ∀ j, j < k → (l.take j).contains (l.getD j 0) = false) (fun k => l.length - k) (0) ⟨Nat.zero_le _, fun j h => by omega⟩ rfl (by simp [Fits]) ?_
    rintro k j ⟨hk, ha⟩
    simp -implicitDefEqProofs (disch := omega) only [go_sem, ↓reduceIte, Nat.reduceAdd, Nat.reduceSub, Nat.reduceMul, Nat.reduceLeDiff, Nat.reduceLT, Nat.reduceEqDiff, Int.reduceNeg, Nat.reduceBEq]
    (repeat' (first | refine g_true ?_ ?_ | refine g_false ?_ ?_ | refine cond_intro ?_ ?_ | refine And.intro (by omega) ?_ | (intro hr; have hc := hr; (try simp only [decide_eq_true_eq, decide_eq_false_iff_not, Bool.not_eq_true', Bool.not_eq_false'] at hc); simp -implicitDefEqProofs (disch := omega) only [hr, go_sem, ↓reduceIte, Nat.reduceAdd, Nat.reduceSub, Nat.reduceMul, Nat.reduceLeDiff, Nat.reduceLT, Nat.reduceEqDiff, Int.reduceNeg, Nat.reduceBEq]; (try clear hr))))
    · by_cases hx : (l.take k).contains (l.getD k 0) = true
      · obtain ⟨i, hi, hf⟩ := findIdx_yesG hx
        have hi' : i < k := by simp at hi; omega
        simp -implicitDefEqProofs (disch := omega) only [keyOK, keyI, hf, rep_get hi', go_sem, ↓reduceIte, Nat.reduceAdd, Nat.reduceSub, Nat.reduceMul, Nat.reduceLeDiff, Nat.reduceLT, Nat.reduceEqDiff, Int.reduceNeg, Nat.reduceBEq]
        refine fin_eq ?_ (by rfl)
        rw [decide_eq_false (fun hn => by rw [nodup_noG hn (by omega)] at hx; cases hx)]
      · have hx := Bool.eq_false_iff.2 hx
        simp -implicitDefEqProofs (disch := omega) only [keyOK, keyI, findIdx_noG hx, go_sem, ↓reduceIte, Nat.reduceAdd, Nat.reduceSub, Nat.reduceMul, Nat.reduceLeDiff, Nat.reduceLT, Nat.reduceEqDiff, Int.reduceNeg, Nat.reduceBEq]
        refine ⟨k + 1, ⟨by omega, below_succ ha hx⟩, by omega, ?_, by simp⟩
        rw [take_getD (d := 0) (by omega), List.map_append, List.replicate_succ']; rfl
    · refine fin_eq ?_ (by rfl)
      have h1 : k = l.length := by omega
      rw [decide_eq_true (nodup_ofG (h1 ▸ ha))]

/-- lengths that the machine bears -/
def mx : Nat := 140737488355328
structure OkO (o : LOp) : Prop where
  name : o.name.length ≤ 140737488355328
  args : o.args.length ≤ 140737488355328
  argsS : ∀ x ∈ o.args, x.length ≤ 140737488355328
  sort : o.sort.length ≤ 140737488355328
  pieces : o.pieces.length ≤ 140737488355328
  piecesS : ∀ x ∈ o.pieces, x.1.length ≤ 140737488355328 ∧ x.2.length ≤ 140737488355328
  strict : o.strict.length ≤ 140737488355328
  piecesT : o.pieces.length ≤ 4398046511104
  argsT : o.args.length ≤ 8796093022208
  strictT : o.strict.length ≤ 17592186044416
structure OkS (s : LSig) : Prop where
  sorts : s.sorts.length ≤ 140737488355328
  sortsS : ∀ x ∈ s.sorts, x.length ≤ 140737488355328
  below : s.below.length ≤ 140737488355328
  belowS : ∀ x ∈ s.below, x.1.length ≤ 140737488355328 ∧ x.2.length ≤ 140737488355328
  ops : s.ops.length ≤ 140737488355328
  opsO : ∀ x ∈ s.ops, OkO x
  funs : s.funs.length ≤ 140737488355328
  funsO : ∀ x ∈ s.funs, OkO x
  values : s.values.length ≤ 140737488355328
  opsT : s.ops.length ≤ 1172812402961
  funsT : s.funs.length ≤ 1172812402961
  valuesS : ∀ x ∈ s.values, x.length ≤ 140737488355328
theorem mem_getD {α : Type} {l : List α} {d : α} {k : Nat} (h : k < l.length) : l.getD k d ∈ l := by simp [List.getD, h]

theorem op_ext {a b : LOp} (h1 : a.name = b.name) (h2 : a.args = b.args) (h3 : a.sort = b.sort) (h4 : a.pieces = b.pieces) (h5 : a.prec = b.prec) (h6 : a.assoc = b.assoc) (h7 : a.strict = b.strict) : a = b := by
  cases a; cases b; simp_all
def opSame (a b : LOp) : Bool := decide (a.name = b.name) && decide (a.sort = b.sort) && decide (a.prec = b.prec) && decide (a.assoc = b.assoc) && decide (a.args = b.args) && decide (a.pieces = b.pieces) && decide (a.strict = b.strict)
theorem opSame_eq {a b : LOp} : opSame a b = decide (a = b) := by
  rw [Bool.eq_iff_iff]
  simp only [opSame, Bool.and_eq_true, decide_eq_true_eq]
  exact ⟨fun ⟨⟨⟨⟨⟨⟨h1, h3⟩, h5⟩, h6⟩, h2⟩, h4⟩, h7⟩ => op_ext h1 h2 h3 h4 h5 h6 h7, fun h => by rw [h]; simp⟩
set_option maxHeartbeats 4000000 in
theorem ctr93 (a b : LOp) (ha : OkO a) (hb : OkO b): Ctr Tryz.prog G0 93 [elO a, elO b] (.b (decide (a = b))) := by
  refine sem_intro (rx := false) mixed Tryz.func93 rfl (by kernel_rfl) (by kernel_rfl) (ac := ?_) ?_ g0 ?_
  rotate_left
  · simp only [strip, stripOps, stripOp, hoist, List.filter_cons, List.filter_nil, List.nil_append, List.cons_append, isFree, anyPre, Region.binds, Bool.not_true, Bool.not_false, Bool.false_eq_true, if_true, if_false, Option.isNone_none, Option.isNone_some, Bool.true_and, Bool.false_and, List.map_nil, List.map_cons, List.isEmpty_nil, List.isEmpty_cons, List.append_nil]
    rfl
  · simp -implicitDefEqProofs (disch := omega) only [Tryz.f93, go_sem, List.replicate, ↓reduceIte, Nat.reduceAdd, Nat.reduceSub, Nat.reduceMul, Nat.reduceLeDiff, Nat.reduceLT, Nat.reduceEqDiff, Int.reduceNeg, Nat.reduceBEq]
    (repeat' (first | refine g_true ?_ ?_ | refine g_false ?_ ?_ | refine cond_intro ?_ ?_ | (refine c_ctrE (ctr90 a.args b.args ha.args hb.args) ?_ ?_; (focus (simp -implicitDefEqProofs (disch := omega) only [avs, avb, avi, avo, sigCells, opCells, pairCells, go_sem, ↓reduceIte, Nat.reduceAdd, Nat.reduceSub, Nat.reduceMul, Nat.reduceLeDiff, Nat.reduceLT, Nat.reduceEqDiff, Int.reduceNeg, Nat.reduceBEq]; done)); simp -implicitDefEqProofs (disch := omega) only [go_sem, ↓reduceIte, Nat.reduceAdd, Nat.reduceSub, Nat.reduceMul, Nat.reduceLeDiff, Nat.reduceLT, Nat.reduceEqDiff, Int.reduceNeg, Nat.reduceBEq]) | (refine c_ctrE (ctr127 a.pieces b.pieces ha.pieces hb.pieces) ?_ ?_; (focus (simp -implicitDefEqProofs (disch := omega) only [avs, avb, avi, avo, sigCells, opCells, pairCells, go_sem, ↓reduceIte, Nat.reduceAdd, Nat.reduceSub, Nat.reduceMul, Nat.reduceLeDiff, Nat.reduceLT, Nat.reduceEqDiff, Int.reduceNeg, Nat.reduceBEq]; done)); simp -implicitDefEqProofs (disch := omega) only [go_sem, ↓reduceIte, Nat.reduceAdd, Nat.reduceSub, Nat.reduceMul, Nat.reduceLeDiff, Nat.reduceLT, Nat.reduceEqDiff, Int.reduceNeg, Nat.reduceBEq]) | (refine c_ctrE (ctr128 a.strict b.strict ha.strict hb.strict) ?_ ?_; (focus (simp -implicitDefEqProofs (disch := omega) only [avs, avb, avi, avo, sigCells, opCells, pairCells, go_sem, ↓reduceIte, Nat.reduceAdd, Nat.reduceSub, Nat.reduceMul, Nat.reduceLeDiff, Nat.reduceLT, Nat.reduceEqDiff, Int.reduceNeg, Nat.reduceBEq]; done)); simp -implicitDefEqProofs (disch := omega) only [go_sem, ↓reduceIte, Nat.reduceAdd, Nat.reduceSub, Nat.reduceMul, Nat.reduceLeDiff, Nat.reduceLT, Nat.reduceEqDiff, Int.reduceNeg, Nat.reduceBEq]) | refine And.intro (by omega) ?_ | (intro hr; have hc := hr; (try simp only [decide_eq_true_eq, decide_eq_false_iff_not, Bool.not_eq_true', Bool.not_eq_false'] at hc); simp -implicitDefEqProofs (disch := omega) only [hr, go_sem, ↓reduceIte, Nat.reduceAdd, Nat.reduceSub, Nat.reduceMul, Nat.reduceLeDiff, Nat.reduceLT, Nat.reduceEqDiff, Int.reduceNeg, Nat.reduceBEq]; (try clear hr))))
    all_goals (refine fin_eq ?_ (by rfl))
    all_goals (rw [← opSame_eq]; simp_all [opSame])
end Go.Proofs.YtadileniakikeaaGreatDoor

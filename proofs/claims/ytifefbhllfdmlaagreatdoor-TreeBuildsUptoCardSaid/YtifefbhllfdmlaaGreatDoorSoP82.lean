/-
  The types of the program, as far as its code asks; no condition.
-/
import Derived.Test.YtifefbhllfdmlaaGreatDoorProg
import Derived.Test.YtifefbhllfdmlaaGreatDoorVoP85
import Derived.Lib.Space
import Derived.Lib.ItoaNum
import Derived.Test.YtifefbhllfdmlaaGreatDoorSoP81
set_option linter.unusedVariables false
set_option maxRecDepth 100000
set_option linter.unusedSimpArgs false
set_option maxHeartbeats 4000000
namespace Go.Proofs.YtifefbhllfdmlaaGreatDoor
open Go Go.Vo
open Nat (reduceAdd reduceSub reduceMul reduceLeDiff reduceLT reduceEqDiff)
open Int (reduceNeg)
theorem mixed:Tryz.prog.follows .mixedOrders=true:=by kernel_rfl
def xY:List AV:=Lib.asciiSpaceTab.map (.i .u8)
def Q8:List AV:=Lib.pow10Tab.map (.i .u64)
def G0:fS:=fun g=>if g=0 then some (.box xY 0) else if g=2 then some (.box Q8 0) else none
theorem g0:rL G0:=fun k a h=>by
 unfold G0 at h
 split at h
 · cases h; simp only [pers,xY,eP]
 · split at h
   · cases h; simp only [pers,Q8,eP]
   · cases h
@[go_sem] theorem az3:jP Tryz.prog 3=none:=by kernel_rfl
@[go_sem] theorem az4:jP Tryz.prog 4=none:=by kernel_rfl
@[go_sem] theorem az9:jP Tryz.prog 9=none:=by kernel_rfl
@[go_sem] theorem cEp:jP Tryz.prog 26=none:=by kernel_rfl
@[go_sem] theorem cEo:jP Tryz.prog 30=none:=by kernel_rfl
@[go_sem] theorem cEn:jP Tryz.prog 32=none:=by kernel_rfl
@[go_sem] theorem cEm:jP Tryz.prog 35=none:=by kernel_rfl
@[go_sem] theorem cEl:jP Tryz.prog 37=none:=by kernel_rfl
@[go_sem] theorem cEk:jP Tryz.prog 41=none:=by kernel_rfl
@[go_sem] theorem cEj:jP Tryz.prog 56=none:=by kernel_rfl
@[go_sem] theorem cEi:jP Tryz.prog 87=none:=by kernel_rfl
@[go_sem] theorem cCm:jP Tryz.prog 100=none:=by kernel_rfl
@[go_sem] theorem cCl:jP Tryz.prog 102=none:=by kernel_rfl
@[go_sem] theorem cCk:jP Tryz.prog 104=none:=by kernel_rfl
@[go_sem] theorem cCj:jP Tryz.prog 108=none:=by kernel_rfl
@[go_sem] theorem cCi:jP Tryz.prog 119=none:=by kernel_rfl
@[go_sem] theorem cCh:jP Tryz.prog 122=none:=by kernel_rfl
@[go_sem] theorem cCg:jP Tryz.prog 124=none:=by kernel_rfl
@[go_sem] theorem cCf:jP Tryz.prog 127=none:=by kernel_rfl
@[go_sem] theorem cCe:jP Tryz.prog 133=none:=by kernel_rfl
@[go_sem] theorem cCd:jP Tryz.prog 135=none:=by kernel_rfl
@[go_sem] theorem cCc:jP Tryz.prog 139=none:=by kernel_rfl
@[go_sem] theorem cCb:jP Tryz.prog 143=none:=by kernel_rfl
@[go_sem] theorem cCa:jP Tryz.prog 167=none:=by kernel_rfl
@[go_sem] theorem cBz:jP Tryz.prog 187=none:=by kernel_rfl
@[go_sem] theorem cBy:jP Tryz.prog 216=none:=by kernel_rfl
@[go_sem] theorem sz3:kH Tryz.prog 3=some 1:=by kernel_rfl
@[go_sem] theorem ag3:fP Tryz.prog 3=some false:=by kernel_rfl
@[go_sem] theorem by3:aFm Tryz.prog 3=some 8:=by kernel_rfl
@[go_sem] theorem zo3:zeroOf Tryz.prog 3=some [.i .i64 0]:=by kernel_rfl
@[go_sem] theorem zv3:pT Tryz.prog 3=some (.i .i64 0):=by kernel_rfl
@[go_sem] theorem un3:Program.underlying Tryz.prog 3=some (.int .i64):=by kernel_rfl
@[go_sem] theorem sz4:kH Tryz.prog 4=some 1:=by kernel_rfl
@[go_sem] theorem ag4:fP Tryz.prog 4=some false:=by kernel_rfl
@[go_sem] theorem zo4:zeroOf Tryz.prog 4=some [.b false]:=by kernel_rfl
@[go_sem] theorem zv4:pT Tryz.prog 4=some (.b false):=by kernel_rfl
@[go_sem] theorem un4:Program.underlying Tryz.prog 4=some .bool:=by kernel_rfl
@[go_sem] theorem sz9:kH Tryz.prog 9=some 1:=by kernel_rfl
@[go_sem] theorem ag9:fP Tryz.prog 9=some false:=by kernel_rfl
@[go_sem] theorem by9:aFm Tryz.prog 9=some 16:=by kernel_rfl
@[go_sem] theorem zo9:zeroOf Tryz.prog 9=some [.s []]:=by kernel_rfl
@[go_sem] theorem zv9:pT Tryz.prog 9=some (.s []):=by kernel_rfl
@[go_sem] theorem un9:Program.underlying Tryz.prog 9=some .string:=by kernel_rfl
@[go_sem] theorem cEb:kH Tryz.prog 22=some 1:=by kernel_rfl
@[go_sem] theorem cFf:fP Tryz.prog 22=some false:=by kernel_rfl
@[go_sem] theorem cDl:zeroOf Tryz.prog 22=some [.e0]:=by kernel_rfl
@[go_sem] theorem cDe:pT Tryz.prog 22=some (.e0):=by kernel_rfl
@[go_sem] theorem bZl:Program.underlying Tryz.prog 22=some (.slice 9):=by kernel_rfl
@[go_sem] theorem bIr:eF Tryz.prog 22=some 9:=by kernel_rfl
@[go_sem] theorem cFe:fP Tryz.prog 23=some false:=by kernel_rfl
@[go_sem] theorem cDq:Program.underlying Tryz.prog 23=some (.slice 122):=by kernel_rfl
@[go_sem] theorem cFd:fP Tryz.prog 24=some false:=by kernel_rfl
@[go_sem] theorem cDp:Program.underlying Tryz.prog 24=some (.slice 119):=by kernel_rfl
@[go_sem] theorem cEh:eF Tryz.prog 24=some 119:=by kernel_rfl
@[go_sem] theorem cEa:kH Tryz.prog 26=some 5:=by kernel_rfl
@[go_sem] theorem cFc:fP Tryz.prog 26=some true:=by kernel_rfl
@[go_sem] theorem bYo:cO Tryz.prog 26 0=some (0,some 1):=by kernel_rfl
@[go_sem] theorem bYn:cO Tryz.prog 26 1=some (1,some 1):=by kernel_rfl
@[go_sem] theorem bYm:cO Tryz.prog 26 2=some (2,some 1):=by kernel_rfl
@[go_sem] theorem bYl:cO Tryz.prog 26 3=some (3,some 1):=by kernel_rfl
@[go_sem] theorem bYk:cO Tryz.prog 26 4=some (4,some 1):=by kernel_rfl
@[go_sem] theorem cFb:fP Tryz.prog 27=some false:=by kernel_rfl
@[go_sem] theorem cDz:kH Tryz.prog 28=some 1:=by kernel_rfl
@[go_sem] theorem cFa:fP Tryz.prog 28=some false:=by kernel_rfl
@[go_sem] theorem cDk:zeroOf Tryz.prog 28=some [.e0]:=by kernel_rfl
@[go_sem] theorem bZi:Program.underlying Tryz.prog 28=some (.slice 30):=by kernel_rfl
@[go_sem] theorem bYp:eF Tryz.prog 28=some 30:=by kernel_rfl
@[go_sem] theorem bXh:kH Tryz.prog 30=some 6:=by kernel_rfl
@[go_sem] theorem cEz:fP Tryz.prog 30=some true:=by kernel_rfl
@[go_sem] theorem bYu:aFm Tryz.prog 30=some 96:=by kernel_rfl
@[go_sem] theorem bXf:zeroOf Tryz.prog 30=some [.i .i64 0,.i .i64 0,.s [],.s [],.e0,.e0]:=by kernel_rfl
@[go_sem] theorem bYj:cO Tryz.prog 30 0=some (0,some 1):=by kernel_rfl
@[go_sem] theorem bYi:cO Tryz.prog 30 1=some (1,some 1):=by kernel_rfl
@[go_sem] theorem bYh:cO Tryz.prog 30 2=some (2,some 1):=by kernel_rfl
@[go_sem] theorem bYg:cO Tryz.prog 30 3=some (3,some 1):=by kernel_rfl
@[go_sem] theorem bYf:cO Tryz.prog 30 4=some (4,some 1):=by kernel_rfl
@[go_sem] theorem bYe:cO Tryz.prog 30 5=some (5,some 1):=by kernel_rfl
@[go_sem] theorem cEf:gQ Tryz.prog 30=some [(0,1),(1,1),(2,1),(3,1),(4,1),(5,1)]:=by kernel_rfl
@[go_sem] theorem cDy:kH Tryz.prog 32=some 1:=by kernel_rfl
@[go_sem] theorem cEy:fP Tryz.prog 32=some false:=by kernel_rfl
@[go_sem] theorem cDo:Program.underlying Tryz.prog 32=some (.slice 3):=by kernel_rfl
@[go_sem] theorem bVx:eF Tryz.prog 32=some 3:=by kernel_rfl
@[go_sem] theorem cDx:kH Tryz.prog 33=some 1:=by kernel_rfl
@[go_sem] theorem cEx:fP Tryz.prog 33=some false:=by kernel_rfl
@[go_sem] theorem cDw:kH Tryz.prog 35=some 9:=by kernel_rfl
@[go_sem] theorem cEw:fP Tryz.prog 35=some true:=by kernel_rfl
@[go_sem] theorem cDj:zeroOf Tryz.prog 35=some [.i .i64 0,.i .i64 0,.i .i64 0,.s [],.s [],.e0,.e0,.s [],.i .i64 0]:=by kernel_rfl
@[go_sem] theorem bYd:cO Tryz.prog 35 0=some (0,some 1):=by kernel_rfl
@[go_sem] theorem bYc:cO Tryz.prog 35 1=some (1,some 6):=by kernel_rfl
@[go_sem] theorem bYb:cO Tryz.prog 35 2=some (7,some 1):=by kernel_rfl
@[go_sem] theorem bYa:cO Tryz.prog 35 3=some (8,some 1):=by kernel_rfl
@[go_sem] theorem cEe:gQ Tryz.prog 35=some [(0,1),(1,6),(7,1),(8,1)]:=by kernel_rfl
@[go_sem] theorem bKl:kH Tryz.prog 37=some 10:=by kernel_rfl
@[go_sem] theorem cEv:fP Tryz.prog 37=some true:=by kernel_rfl
@[go_sem] theorem bKs:aFm Tryz.prog 37=some 152:=by kernel_rfl
@[go_sem] theorem bKj:zeroOf Tryz.prog 37=some [.e0,.i .i64 0,.i .i64 0,.i .i64 0,.s [],.s [],.e0,.e0,.s [],.i .i64 0]:=by kernel_rfl
@[go_sem] theorem bXz:cO Tryz.prog 37 0=some (0,some 1):=by kernel_rfl
@[go_sem] theorem bXy:cO Tryz.prog 37 1=some (1,some 9):=by kernel_rfl
@[go_sem] theorem cEd:gQ Tryz.prog 37=some [(0,1),(1,9)]:=by kernel_rfl
@[go_sem] theorem cDv:kH Tryz.prog 41=some 1:=by kernel_rfl
@[go_sem] theorem cEu:fP Tryz.prog 41=some false:=by kernel_rfl
@[go_sem] theorem cDi:zeroOf Tryz.prog 41=some [.e0]:=by kernel_rfl
@[go_sem] theorem bZh:Program.underlying Tryz.prog 41=some (.slice 37):=by kernel_rfl
@[go_sem] theorem bKr:eF Tryz.prog 41=some 37:=by kernel_rfl
@[go_sem] theorem cDu:kH Tryz.prog 53=some 1:=by kernel_rfl
@[go_sem] theorem cEt:fP Tryz.prog 53=some false:=by kernel_rfl
@[go_sem] theorem cDn:Program.underlying Tryz.prog 53=some (.slice 100):=by kernel_rfl
@[go_sem] theorem bNh:eF Tryz.prog 53=some 100:=by kernel_rfl
@[go_sem] theorem cDt:kH Tryz.prog 54=some 1:=by kernel_rfl
@[go_sem] theorem cEs:fP Tryz.prog 54=some false:=by kernel_rfl
@[go_sem] theorem cDh:zeroOf Tryz.prog 54=some [.e0]:=by kernel_rfl
@[go_sem] theorem cDm:Program.underlying Tryz.prog 54=some (.slice 56):=by kernel_rfl
@[go_sem] theorem cEg:eF Tryz.prog 54=some 56:=by kernel_rfl
@[go_sem] theorem cDs:kH Tryz.prog 56=some 13:=by kernel_rfl
@[go_sem] theorem cEr:fP Tryz.prog 56=some true:=by kernel_rfl
@[go_sem] theorem cDg:zeroOf Tryz.prog 56=some [.e0,.e0,.i .i64 0,.i .i64 0,.i .i64 0,.s [],.s [],.e0,.e0,.s [],.i .i64 0,.e0,.e0]:=by kernel_rfl
@[go_sem] theorem bXx:cO Tryz.prog 56 0=some (0,some 1):=by kernel_rfl
@[go_sem] theorem bXw:cO Tryz.prog 56 1=some (1,some 10):=by kernel_rfl
@[go_sem] theorem bXv:cO Tryz.prog 56 2=some (11,some 1):=by kernel_rfl
@[go_sem] theorem bXu:cO Tryz.prog 56 3=some (12,some 1):=by kernel_rfl
@[go_sem] theorem cEc:gQ Tryz.prog 56=some [(0,1),(1,10),(11,1),(12,1)]:=by kernel_rfl
@[go_sem] theorem cDr:kH Tryz.prog 87=some 1:=by kernel_rfl
@[go_sem] theorem cEq:fP Tryz.prog 87=some false:=by kernel_rfl
@[go_sem] theorem cDf:zeroOf Tryz.prog 87=some [.p (.pointer Option.none)]:=by kernel_rfl
@[go_sem] theorem aOd:kH Tryz.prog 100=some 2:=by kernel_rfl
@[go_sem] theorem cDb:fP Tryz.prog 100=some true:=by kernel_rfl
@[go_sem] theorem aTs:aFm Tryz.prog 100=some 32:=by kernel_rfl
@[go_sem] theorem aNi:zeroOf Tryz.prog 100=some [.i .i64 0,.e0]:=by kernel_rfl
@[go_sem] theorem bVv:cO Tryz.prog 100 0=some (0,some 1):=by kernel_rfl
@[go_sem] theorem bVu:cO Tryz.prog 100 1=some (1,some 1):=by kernel_rfl
@[go_sem] theorem cAk:gQ Tryz.prog 100=some [(0,1),(1,1)]:=by kernel_rfl
@[go_sem] theorem cDa:fP Tryz.prog 102=some false:=by kernel_rfl
@[go_sem] theorem bZe:zeroOf Tryz.prog 104=some [.p (.pointer Option.none),.i .i64 0]:=by kernel_rfl
@[go_sem] theorem bVt:cO Tryz.prog 104 0=some (0,some 1):=by kernel_rfl
@[go_sem] theorem bVs:cO Tryz.prog 104 1=some (1,some 1):=by kernel_rfl
@[go_sem] theorem cAj:gQ Tryz.prog 104=some [(0,1),(1,1)]:=by kernel_rfl
@[go_sem] theorem bZd:zeroOf Tryz.prog 108=some [.i .i64 0]:=by kernel_rfl
@[go_sem] theorem bVr:cO Tryz.prog 108 0=some (0,some 1):=by kernel_rfl
@[go_sem] theorem cAi:gQ Tryz.prog 108=some [(0,1)]:=by kernel_rfl
@[go_sem] theorem cCz:fP Tryz.prog 116=some false:=by kernel_rfl
@[go_sem] theorem bZv:Program.underlying Tryz.prog 116=some (.slice 216):=by kernel_rfl
@[go_sem] theorem cCy:fP Tryz.prog 117=some false:=by kernel_rfl
@[go_sem] theorem cAa:kH Tryz.prog 119=some 7:=by kernel_rfl
@[go_sem] theorem cCx:fP Tryz.prog 119=some true:=by kernel_rfl
@[go_sem] theorem cBx:aFm Tryz.prog 119=some 120:=by kernel_rfl
@[go_sem] theorem bZc:zeroOf Tryz.prog 119=some [.s [],.e0,.s [],.e0,.i .i64 0,.i .i64 0,.e0]:=by kernel_rfl
@[go_sem] theorem bYw:pT Tryz.prog 119=some (.agg [.s [],.e0,.s [],.e0,.i .i64 0,.i .i64 0,.e0]):=by kernel_rfl
@[go_sem] theorem bVq:cO Tryz.prog 119 0=some (0,some 1):=by kernel_rfl
@[go_sem] theorem bVp:cO Tryz.prog 119 1=some (1,some 1):=by kernel_rfl
@[go_sem] theorem bVo:cO Tryz.prog 119 2=some (2,some 1):=by kernel_rfl
@[go_sem] theorem bVn:cO Tryz.prog 119 3=some (3,some 1):=by kernel_rfl
@[go_sem] theorem bVm:cO Tryz.prog 119 4=some (4,some 1):=by kernel_rfl
@[go_sem] theorem bVl:cO Tryz.prog 119 5=some (5,some 1):=by kernel_rfl
@[go_sem] theorem bVk:cO Tryz.prog 119 6=some (6,some 1):=by kernel_rfl
@[go_sem] theorem cAh:gQ Tryz.prog 119=some [(0,1),(1,1),(2,1),(3,1),(4,1),(5,1),(6,1)]:=by kernel_rfl
@[go_sem] theorem bZz:kH Tryz.prog 122=some 2:=by kernel_rfl
@[go_sem] theorem cCw:fP Tryz.prog 122=some true:=by kernel_rfl
@[go_sem] theorem bZb:zeroOf Tryz.prog 122=some [.s [],.s []]:=by kernel_rfl
@[go_sem] theorem bVj:cO Tryz.prog 122 0=some (0,some 1):=by kernel_rfl
@[go_sem] theorem bVi:cO Tryz.prog 122 1=some (1,some 1):=by kernel_rfl
@[go_sem] theorem bUk:iS Tryz.prog 122=some [9,9]:=by kernel_rfl
@[go_sem] theorem cCv:fP Tryz.prog 124=some false:=by kernel_rfl
@[go_sem] theorem cCu:fP Tryz.prog 127=some false:=by kernel_rfl
@[go_sem] theorem cCt:fP Tryz.prog 133=some false:=by kernel_rfl
@[go_sem] theorem cCs:fP Tryz.prog 135=some false:=by kernel_rfl
@[go_sem] theorem cCr:fP Tryz.prog 136=some false:=by kernel_rfl
@[go_sem] theorem bZu:Program.underlying Tryz.prog 136=some (.map 9 22):=by kernel_rfl
@[go_sem] theorem cCq:fP Tryz.prog 137=some false:=by kernel_rfl
@[go_sem] theorem bZt:Program.underlying Tryz.prog 137=some (.map 9 119):=by kernel_rfl
@[go_sem] theorem bZa:zeroOf Tryz.prog 139=some [.e0,.e0,.e0,.e0,.e0,.p (.map Option.none),.p (.map Option.none),.p (.map Option.none)]:=by kernel_rfl
@[go_sem] theorem bVh:cO Tryz.prog 139 0=some (0,some 5):=by kernel_rfl
@[go_sem] theorem bVg:cO Tryz.prog 139 1=some (5,some 1):=by kernel_rfl
@[go_sem] theorem bVf:cO Tryz.prog 139 2=some (6,some 1):=by kernel_rfl
@[go_sem] theorem bVe:cO Tryz.prog 139 3=some (7,some 1):=by kernel_rfl
@[go_sem] theorem cAg:gQ Tryz.prog 139=some [(0,5),(5,1),(6,1),(7,1)]:=by kernel_rfl
@[go_sem] theorem cCp:fP Tryz.prog 143=some false:=by kernel_rfl
@[go_sem] theorem bZs:Program.underlying Tryz.prog 153=some (.slice 54):=by kernel_rfl
@[go_sem] theorem cBp:eF Tryz.prog 153=some 54:=by kernel_rfl
@[go_sem] theorem bZr:Program.underlying Tryz.prog 158=some (.map 9 3):=by kernel_rfl
@[go_sem] theorem bZy:kH Tryz.prog 167=some 1:=by kernel_rfl
@[go_sem] theorem cCo:fP Tryz.prog 167=some false:=by kernel_rfl
@[go_sem] theorem bYz:zeroOf Tryz.prog 167=some [.p (.map Option.none)]:=by kernel_rfl
@[go_sem] theorem bZq:Program.underlying Tryz.prog 167=some (.map 9 9):=by kernel_rfl
@[go_sem] theorem bZp:Program.underlying Tryz.prog 175=some (.map 122 4):=by kernel_rfl
@[go_sem] theorem bZo:Program.underlying Tryz.prog 176=some (.map 9 4):=by kernel_rfl
@[go_sem] theorem bZn:Program.underlying Tryz.prog 183=some (.slice 22):=by kernel_rfl
@[go_sem] theorem cBo:eF Tryz.prog 183=some 22:=by kernel_rfl
@[go_sem] theorem bZx:kH Tryz.prog 187=some 2:=by kernel_rfl
@[go_sem] theorem bYy:zeroOf Tryz.prog 187=some [.i .i64 0,.b false]:=by kernel_rfl
@[go_sem] theorem bVd:cO Tryz.prog 187 0=some (0,some 1):=by kernel_rfl
@[go_sem] theorem bVc:cO Tryz.prog 187 1=some (1,some 1):=by kernel_rfl
@[go_sem] theorem cAf:gQ Tryz.prog 187=some [(0,1),(1,1)]:=by kernel_rfl
@[go_sem] theorem bZm:Program.underlying Tryz.prog 214=some (.map 3 4):=by kernel_rfl
@[go_sem] theorem bZw:kH Tryz.prog 216=some 2:=by kernel_rfl
@[go_sem] theorem cCn:fP Tryz.prog 216=some true:=by kernel_rfl
@[go_sem] theorem bYx:zeroOf Tryz.prog 216=some [.s [],.s []]:=by kernel_rfl
@[go_sem] theorem bVb:cO Tryz.prog 216 0=some (0,some 1):=by kernel_rfl
@[go_sem] theorem bVa:cO Tryz.prog 216 1=some (1,some 1):=by kernel_rfl
@[go_sem] theorem bUz:cO Tryz.prog 235 0=some (0,some 2):=by kernel_rfl
@[go_sem] theorem bZk:Program.underlying Tryz.prog 237=some (.slice 41):=by kernel_rfl
@[go_sem] theorem cBn:eF Tryz.prog 237=some 41:=by kernel_rfl
@[go_sem] theorem bZj:Program.underlying Tryz.prog 245=some (.slice 28):=by kernel_rfl
@[go_sem] theorem cBm:eF Tryz.prog 245=some 28:=by kernel_rfl
end Go.Proofs.YtifefbhllfdmlaaGreatDoor
namespace Go.Vo
theorem zdA:(∀ l,avs l=.sl (l.map .s) l.length)∧(∀ l,avb l=.sl (l.flatMap cD) l.length)∧(∀ l,avi l=.sl (l.map (.i .i64)) l.length)∧(∀ l,avo l=.sl (l.flatMap bK) l.length)∧(∀ s,aO s=[avs s.sorts,avb s.below,avo s.ops,avo s.funs,avs s.values])∧(∀ o,bK o=[.s o.name,avs o.args,.s o.sort,avb o.pieces,.i .i64 o.prec,.i .i64 o.assoc,avi o.strict])∧(∀ b,cD b=[.s b.1,.s b.2]):=⟨fun _=>rfl,fun _=>rfl,fun _=>rfl,fun _=>rfl,fun _=>rfl,fun _=>rfl,fun _=>rfl⟩
theorem cE {P:Program} {G:fS} {dr:Option DR} {d:Option Nat} {os:List fZ} {K:List AV→List AObj→Prop} {env:List AV} {h:List AObj} {f:FuncId} {A A':List AV} {r:AV} (s:Ctr P G f A' r)
 (k:dG P G dr os K (gN env d (mat r (gG r h A)).1) (mat r (gG r h A)).2) (hA:A.map (gH dep h)=A':=by (simp -implicitDefEqProofs (disch:=omega) only [zdA,go_sem,↓reduceIte,reduceAdd,reduceSub,reduceMul,reduceLeDiff,reduceLT,reduceEqDiff,reduceNeg,Nat.reduceBEq]; done)):wS P G dr f A d os K env h:=bF s hA k
theorem zs1 {K1:Prop} {p q:Prop} (k1:K1) (h:q) (e:K1→Cv q p:=by
   intro k1
   repeat' first | with_reducible apply vT | with_reducible apply vF | with_reducible apply vC | ((first | ((with_reducible apply vE); (focus exact k1); (focus (simp -implicitDefEqProofs (disch:=omega) only [zdA,go_sem,simprocAttr]; done))) | ((with_reducible apply vE); (focus (apply k1 <;> omega)); (focus (simp -implicitDefEqProofs (disch:=omega) only [zdA,go_sem,simprocAttr]; done))) | ((with_reducible apply vR); focus exact k1 ..)); simp -implicitDefEqProofs (disch:=omega) only [go_sem,simprocAttr]) | ((with_reducible apply vA); focus omega) | ((with_reducible apply vI); (focus (intro hr; (try simp only [zdz] at hr); exact hr)); intro hr; have hc:=hr; (try simp only [zdz] at hc); simp -implicitDefEqProofs (disch:=omega) only [hr,go_sem,simprocAttr]; (try clear hr))
   any_goals exact vS):p:=(e k1).1 h
theorem zx1 {K1:Prop} {x:Prop} {p q:Prop} (X:x) (k1:K1) (h:q) (e:x→K1→Cv q p:=by
   intro X k1
   repeat' first | with_reducible apply vT | with_reducible apply vF | with_reducible apply vC | ((first | ((with_reducible apply vE); (focus exact k1); (focus (simp -implicitDefEqProofs (disch:=omega) only [X,zdA,go_sem,simprocAttr]; done))) | ((with_reducible apply vE); (focus (apply k1 <;> omega)); (focus (simp -implicitDefEqProofs (disch:=omega) only [X,zdA,go_sem,simprocAttr]; done))) | ((with_reducible apply vR); focus exact k1 ..)); simp -implicitDefEqProofs (disch:=omega) only [X,go_sem,simprocAttr]) | ((with_reducible apply vA); focus omega) | ((with_reducible apply vI); (focus (intro hr; (try simp only [zdz] at hr); exact hr)); intro hr; have hc:=hr; (try simp only [zdz] at hc); simp -implicitDefEqProofs (disch:=omega) only [hr,X,go_sem,simprocAttr]; (try clear hr))
   any_goals exact vS):p:=(e X k1).1 h
theorem zs2 {K1:Prop} {K2:Prop} {p q:Prop} (k1:K1) (k2:K2) (h:q) (e:K1→K2→Cv q p:=by
   intro k1 k2
   repeat' first | with_reducible apply vT | with_reducible apply vF | with_reducible apply vC | ((first | ((with_reducible apply vE); (focus exact k1); (focus (simp -implicitDefEqProofs (disch:=omega) only [zdA,go_sem,simprocAttr]; done))) | ((with_reducible apply vE); (focus (apply k1 <;> omega)); (focus (simp -implicitDefEqProofs (disch:=omega) only [zdA,go_sem,simprocAttr]; done))) | ((with_reducible apply vR); focus exact k1 ..) | ((with_reducible apply vE); (focus exact k2); (focus (simp -implicitDefEqProofs (disch:=omega) only [zdA,go_sem,simprocAttr]; done))) | ((with_reducible apply vE); (focus (apply k2 <;> omega)); (focus (simp -implicitDefEqProofs (disch:=omega) only [zdA,go_sem,simprocAttr]; done))) | ((with_reducible apply vR); focus exact k2 ..)); simp -implicitDefEqProofs (disch:=omega) only [go_sem,simprocAttr]) | ((with_reducible apply vA); focus omega) | ((with_reducible apply vI); (focus (intro hr; (try simp only [zdz] at hr); exact hr)); intro hr; have hc:=hr; (try simp only [zdz] at hc); simp -implicitDefEqProofs (disch:=omega) only [hr,go_sem,simprocAttr]; (try clear hr))
   any_goals exact vS):p:=(e k1 k2).1 h
theorem zx2 {K1:Prop} {K2:Prop} {x:Prop} {p q:Prop} (X:x) (k1:K1) (k2:K2) (h:q) (e:x→K1→K2→Cv q p:=by
   intro X k1 k2
   repeat' first | with_reducible apply vT | with_reducible apply vF | with_reducible apply vC | ((first | ((with_reducible apply vE); (focus exact k1); (focus (simp -implicitDefEqProofs (disch:=omega) only [X,zdA,go_sem,simprocAttr]; done))) | ((with_reducible apply vE); (focus (apply k1 <;> omega)); (focus (simp -implicitDefEqProofs (disch:=omega) only [X,zdA,go_sem,simprocAttr]; done))) | ((with_reducible apply vR); focus exact k1 ..) | ((with_reducible apply vE); (focus exact k2); (focus (simp -implicitDefEqProofs (disch:=omega) only [X,zdA,go_sem,simprocAttr]; done))) | ((with_reducible apply vE); (focus (apply k2 <;> omega)); (focus (simp -implicitDefEqProofs (disch:=omega) only [X,zdA,go_sem,simprocAttr]; done))) | ((with_reducible apply vR); focus exact k2 ..)); simp -implicitDefEqProofs (disch:=omega) only [X,go_sem,simprocAttr]) | ((with_reducible apply vA); focus omega) | ((with_reducible apply vI); (focus (intro hr; (try simp only [zdz] at hr); exact hr)); intro hr; have hc:=hr; (try simp only [zdz] at hc); simp -implicitDefEqProofs (disch:=omega) only [hr,X,go_sem,simprocAttr]; (try clear hr))
   any_goals exact vS):p:=(e X k1 k2).1 h
theorem zs3 {K1:Prop} {K2:Prop} {K3:Prop} {p q:Prop} (k1:K1) (k2:K2) (k3:K3) (h:q) (e:K1→K2→K3→Cv q p:=by
   intro k1 k2 k3
   repeat' first | with_reducible apply vT | with_reducible apply vF | with_reducible apply vC | ((first | ((with_reducible apply vE); (focus exact k1); (focus (simp -implicitDefEqProofs (disch:=omega) only [zdA,go_sem,simprocAttr]; done))) | ((with_reducible apply vE); (focus (apply k1 <;> omega)); (focus (simp -implicitDefEqProofs (disch:=omega) only [zdA,go_sem,simprocAttr]; done))) | ((with_reducible apply vR); focus exact k1 ..) | ((with_reducible apply vE); (focus exact k2); (focus (simp -implicitDefEqProofs (disch:=omega) only [zdA,go_sem,simprocAttr]; done))) | ((with_reducible apply vE); (focus (apply k2 <;> omega)); (focus (simp -implicitDefEqProofs (disch:=omega) only [zdA,go_sem,simprocAttr]; done))) | ((with_reducible apply vR); focus exact k2 ..) | ((with_reducible apply vE); (focus exact k3); (focus (simp -implicitDefEqProofs (disch:=omega) only [zdA,go_sem,simprocAttr]; done))) | ((with_reducible apply vE); (focus (apply k3 <;> omega)); (focus (simp -implicitDefEqProofs (disch:=omega) only [zdA,go_sem,simprocAttr]; done))) | ((with_reducible apply vR); focus exact k3 ..)); simp -implicitDefEqProofs (disch:=omega) only [go_sem,simprocAttr]) | ((with_reducible apply vA); focus omega) | ((with_reducible apply vI); (focus (intro hr; (try simp only [zdz] at hr); exact hr)); intro hr; have hc:=hr; (try simp only [zdz] at hc); simp -implicitDefEqProofs (disch:=omega) only [hr,go_sem,simprocAttr]; (try clear hr))
   any_goals exact vS):p:=(e k1 k2 k3).1 h
theorem zx3 {K1:Prop} {K2:Prop} {K3:Prop} {x:Prop} {p q:Prop} (X:x) (k1:K1) (k2:K2) (k3:K3) (h:q) (e:x→K1→K2→K3→Cv q p:=by
   intro X k1 k2 k3
   repeat' first | with_reducible apply vT | with_reducible apply vF | with_reducible apply vC | ((first | ((with_reducible apply vE); (focus exact k1); (focus (simp -implicitDefEqProofs (disch:=omega) only [X,zdA,go_sem,simprocAttr]; done))) | ((with_reducible apply vE); (focus (apply k1 <;> omega)); (focus (simp -implicitDefEqProofs (disch:=omega) only [X,zdA,go_sem,simprocAttr]; done))) | ((with_reducible apply vR); focus exact k1 ..) | ((with_reducible apply vE); (focus exact k2); (focus (simp -implicitDefEqProofs (disch:=omega) only [X,zdA,go_sem,simprocAttr]; done))) | ((with_reducible apply vE); (focus (apply k2 <;> omega)); (focus (simp -implicitDefEqProofs (disch:=omega) only [X,zdA,go_sem,simprocAttr]; done))) | ((with_reducible apply vR); focus exact k2 ..) | ((with_reducible apply vE); (focus exact k3); (focus (simp -implicitDefEqProofs (disch:=omega) only [X,zdA,go_sem,simprocAttr]; done))) | ((with_reducible apply vE); (focus (apply k3 <;> omega)); (focus (simp -implicitDefEqProofs (disch:=omega) only [X,zdA,go_sem,simprocAttr]; done))) | ((with_reducible apply vR); focus exact k3 ..)); simp -implicitDefEqProofs (disch:=omega) only [X,go_sem,simprocAttr]) | ((with_reducible apply vA); focus omega) | ((with_reducible apply vI); (focus (intro hr; (try simp only [zdz] at hr); exact hr)); intro hr; have hc:=hr; (try simp only [zdz] at hc); simp -implicitDefEqProofs (disch:=omega) only [hr,X,go_sem,simprocAttr]; (try clear hr))
   any_goals exact vS):p:=(e X k1 k2 k3).1 h
theorem zs4 {K1:Prop} {K2:Prop} {K3:Prop} {K4:Prop} {p q:Prop} (k1:K1) (k2:K2) (k3:K3) (k4:K4) (h:q) (e:K1→K2→K3→K4→Cv q p:=by
   intro k1 k2 k3 k4
   repeat' first | with_reducible apply vT | with_reducible apply vF | with_reducible apply vC | ((first | ((with_reducible apply vE); (focus exact k1); (focus (simp -implicitDefEqProofs (disch:=omega) only [zdA,go_sem,simprocAttr]; done))) | ((with_reducible apply vE); (focus (apply k1 <;> omega)); (focus (simp -implicitDefEqProofs (disch:=omega) only [zdA,go_sem,simprocAttr]; done))) | ((with_reducible apply vR); focus exact k1 ..) | ((with_reducible apply vE); (focus exact k2); (focus (simp -implicitDefEqProofs (disch:=omega) only [zdA,go_sem,simprocAttr]; done))) | ((with_reducible apply vE); (focus (apply k2 <;> omega)); (focus (simp -implicitDefEqProofs (disch:=omega) only [zdA,go_sem,simprocAttr]; done))) | ((with_reducible apply vR); focus exact k2 ..) | ((with_reducible apply vE); (focus exact k3); (focus (simp -implicitDefEqProofs (disch:=omega) only [zdA,go_sem,simprocAttr]; done))) | ((with_reducible apply vE); (focus (apply k3 <;> omega)); (focus (simp -implicitDefEqProofs (disch:=omega) only [zdA,go_sem,simprocAttr]; done))) | ((with_reducible apply vR); focus exact k3 ..) | ((with_reducible apply vE); (focus exact k4); (focus (simp -implicitDefEqProofs (disch:=omega) only [zdA,go_sem,simprocAttr]; done))) | ((with_reducible apply vE); (focus (apply k4 <;> omega)); (focus (simp -implicitDefEqProofs (disch:=omega) only [zdA,go_sem,simprocAttr]; done))) | ((with_reducible apply vR); focus exact k4 ..)); simp -implicitDefEqProofs (disch:=omega) only [go_sem,simprocAttr]) | ((with_reducible apply vA); focus omega) | ((with_reducible apply vI); (focus (intro hr; (try simp only [zdz] at hr); exact hr)); intro hr; have hc:=hr; (try simp only [zdz] at hc); simp -implicitDefEqProofs (disch:=omega) only [hr,go_sem,simprocAttr]; (try clear hr))
   any_goals exact vS):p:=(e k1 k2 k3 k4).1 h
theorem zx4 {K1:Prop} {K2:Prop} {K3:Prop} {K4:Prop} {x:Prop} {p q:Prop} (X:x) (k1:K1) (k2:K2) (k3:K3) (k4:K4) (h:q) (e:x→K1→K2→K3→K4→Cv q p:=by
   intro X k1 k2 k3 k4
   repeat' first | with_reducible apply vT | with_reducible apply vF | with_reducible apply vC | ((first | ((with_reducible apply vE); (focus exact k1); (focus (simp -implicitDefEqProofs (disch:=omega) only [X,zdA,go_sem,simprocAttr]; done))) | ((with_reducible apply vE); (focus (apply k1 <;> omega)); (focus (simp -implicitDefEqProofs (disch:=omega) only [X,zdA,go_sem,simprocAttr]; done))) | ((with_reducible apply vR); focus exact k1 ..) | ((with_reducible apply vE); (focus exact k2); (focus (simp -implicitDefEqProofs (disch:=omega) only [X,zdA,go_sem,simprocAttr]; done))) | ((with_reducible apply vE); (focus (apply k2 <;> omega)); (focus (simp -implicitDefEqProofs (disch:=omega) only [X,zdA,go_sem,simprocAttr]; done))) | ((with_reducible apply vR); focus exact k2 ..) | ((with_reducible apply vE); (focus exact k3); (focus (simp -implicitDefEqProofs (disch:=omega) only [X,zdA,go_sem,simprocAttr]; done))) | ((with_reducible apply vE); (focus (apply k3 <;> omega)); (focus (simp -implicitDefEqProofs (disch:=omega) only [X,zdA,go_sem,simprocAttr]; done))) | ((with_reducible apply vR); focus exact k3 ..) | ((with_reducible apply vE); (focus exact k4); (focus (simp -implicitDefEqProofs (disch:=omega) only [X,zdA,go_sem,simprocAttr]; done))) | ((with_reducible apply vE); (focus (apply k4 <;> omega)); (focus (simp -implicitDefEqProofs (disch:=omega) only [X,zdA,go_sem,simprocAttr]; done))) | ((with_reducible apply vR); focus exact k4 ..)); simp -implicitDefEqProofs (disch:=omega) only [X,go_sem,simprocAttr]) | ((with_reducible apply vA); focus omega) | ((with_reducible apply vI); (focus (intro hr; (try simp only [zdz] at hr); exact hr)); intro hr; have hc:=hr; (try simp only [zdz] at hc); simp -implicitDefEqProofs (disch:=omega) only [hr,X,go_sem,simprocAttr]; (try clear hr))
   any_goals exact vS):p:=(e X k1 k2 k3 k4).1 h
end Go.Vo
namespace Go.Proofs.YtifefbhllfdmlaaGreatDoor
open Go Go.Vo
open Nat (reduceAdd reduceSub reduceMul reduceLeDiff reduceLT reduceEqDiff)
open Int (reduceNeg)
abbrev CT:=Ctr Tryz.prog G0

def vW (n:Int):Bool:=decide (97≤n) && decide (n≤122) || decide (65≤n) && decide (n≤90)
def aSn (n:Int):Bool:=decide (48≤n) && decide (n≤57)

theorem bNp (n:Int): CT 137 [.i .u8 n] (.b (vW n)):=by
 refine aL mixed Tryz.func137 g0 ?_
 · skip
   repeat' (first | refine gT ?_ ?_ | refine gF ?_ ?_ | refine gC ?_ ?_ | (intro hc; simp -implicitDefEqProofs only [hc,go_sem]))
   all_goals (refine aF ?_ (by rfl); simp_all [vW] <;> omega)
theorem bNn (n:Int): CT 207 [.i .u8 n] (.b (vW n)):=by
 refine aL mixed Tryz.func207 g0 ?_
 · skip
   repeat' (first | refine gT ?_ ?_ | refine gF ?_ ?_ | refine gC ?_ ?_ | (intro hc; simp -implicitDefEqProofs only [hc,go_sem]))
   all_goals (refine aF ?_ (by rfl); simp_all [vW] <;> omega)
theorem bNm (n:Int): CT 208 [.i .u8 n] (.b (aSn n)):=by
 refine aL mixed Tryz.func208 g0 ?_
 · skip
   repeat' (first | refine gT ?_ ?_ | refine gF ?_ ?_ | refine gC ?_ ?_ | (intro hc; simp -implicitDefEqProofs only [hc,go_sem]))
   all_goals (refine aF ?_ (by rfl); simp_all [aSn] <;> omega)
def part (n:Int):Bool:=vW n || aSn n || decide (n=95)
theorem bNo (n:Int): CT 138 [.i .u8 n] (.b (part n)):=by
 refine aL mixed Tryz.func138 g0 ?_
 · skip
   repeat' (first | refine gT ?_ ?_ | refine gF ?_ ?_ | refine gC ?_ ?_ | refine aMl (bNp _) ?_; simp -implicitDefEqProofs only [go_sem] | (intro hc; simp -implicitDefEqProofs only [hc,go_sem]))
   all_goals (refine aF ?_ (by rfl); simp_all [part,aSn] <;> omega)

def at_ (s:Str) (k:Nat):Int:=((s.getD k 0).toNat:Int)
def dN (s:Str):Bool := !s.isEmpty && decide (s.length≤40) && vW (at_ s 0) && s.all fun c=>part c.toNat

theorem aJw {s:Str} {q:Int→Bool} (h:∀ j,j < s.length→q (at_ s j)=true):(s.all fun c=>q c.toNat)=true:=by
 rw [aN]
 intro c hc
 obtain ⟨j,hj,rfl⟩:=bU.1 hc
 have:=h j hj
 simpa [at_,hj] using this
theorem lM {s:Str} {q:Int→Bool} {j:Nat} (hj:j < s.length) (h:q (at_ s j)=false):(s.all fun c=>q c.toNat)=false:=by
 rw [fR]
 exact ⟨s[j],uL hj,by simpa [at_,hj] using h⟩

theorem T8 (s:Str) (hs:s.length≤140737488355328): CT 83 [.s s] (.b (dN s)):=by
 refine aL mixed Tryz.func83 g0 ?_
 · skip
   (refine zs1 bNp ?_; repeat' first | exact trivial | refine zJ ?_ ?_ | refine zH fun hc=>?_)
   any_goals (refine aF ?_ (by rfl); simp_all [dN,at_] <;> omega)
   refine bP (fun (k:Nat)=>[.k,.k,.j,.j,.k,.k,.k,.k,.k,.k,.k,.k,.k,.k,.k,.k,.k,.k,.k,.v (.i .i64 k),.j,.j,.j,.j,.j,.j,.j,.j]) (fun k=>[]) (fun k=>k≤s.length∧∀ j,j < k→part (at_ s j)=true) (fun k=>s.length - k) (0) ⟨aG _,fun j h=>by omega⟩ rfl (by simp [eN]) ?_
   rintro k j ⟨hk,ha⟩
   refine zg ?_
   (refine zs1 bNo ?_; repeat' first | exact trivial | refine zJ ?_ ?_ | refine zH fun hc=>?_)
   · refine aF ?_ (by rfl)
     simp only [dN,lM (show k < s.length by omega) (by simpa [at_] using hc),Bool.and_false]
   · exact ⟨k+1,⟨by omega,bD ha (by simpa [at_] using hc)⟩,by omega,by simp⟩
   · refine aF ?_ (by rfl)
     have h1:k=s.length:=by omega
     simp only [dN,aJw (h1 ▸ ha)]
     simp_all [at_] <;> omega

def aXj (s:Str) (j:Nat):Bool:=vW (at_ s j) || (decide (j ≠ 0) && part (at_ s j))
theorem aRe {s:Str} (h:∀ j,j < s.length→aXj s j=true) (h1:1≤s.length) (h2:s.length≤40):dN s=true:=by
 have h0:=h 0 (by omega)
 have hp:(s.all fun c=>part c.toNat)=true:=aJw (fun j hj=>by
   have:=h j hj
   unfold aXj at this
   simp only [bJ,aA] at this
   rcases this with h | h
   · simp [part,h]
   · exact h.2)
 have hl:vW (at_ s 0)=true:=by simpa [aXj] using h0
 have hne:s ≠ []:=by intro h; simp [h] at h1
 simp [dN,hp,hl,h2,hne]
theorem aBi {s:Str} {j:Nat} (hj:j < s.length) (h:aXj s j=false):dN s=false:=by
 unfold aXj at h
 simp only [uM,iG] at h
 rcases h with ⟨h1,h2 | h2⟩
 · have:j=0:=by simpa using h2
   subst this
   simp [dN,h1]
 · simp [dN,lM hj h2]

theorem T7 (s:Str) (hs:s.length≤140737488355328): CT 161 [.s s] (.b (dN s)):=by
 refine aL mixed Tryz.func161 g0 ?_
 · skip
   refine bP (fun (k:Nat)=>[.k,.k,.j,.j,.k,.k,.v (.i .i64 k),.j,.j,.j,.j,.j,.j,.j,.j,.j,.j,.j,.j,.j,.j,.j,.j,.j,.j,.j,.j,.j,.j,.j,.j,.j,.k,.k,.k,.k,.k,.k,.k,.k]) (fun k=>[]) (fun k=>k≤s.length∧∀ j,j < k→aXj s j=true) (fun k=>s.length - k) (0) ⟨aG _,fun j h=>by omega⟩ rfl (by simp [eN]) ?_
   rintro k j ⟨hk,ha⟩
   refine zg ?_
   (refine zs2 bNn bNm ?_; repeat' first | exact trivial | refine zJ ?_ ?_ | refine zH fun hc=>?_)
   all_goals first | refine Exists.intro (k+1) ⟨⟨by omega,bD ha (by simp_all [aXj,at_,part] <;> omega)⟩,by omega,by simp⟩ | refine aF ?_ (by rfl)
   · rw [aBi (j:=k) (by omega) (by simp_all [aXj,at_,part] <;> omega)]
   · rw [aBi (j:=k) (by omega) (by simp_all [aXj,at_,part] <;> omega)]
   · have h1:k=s.length:=by omega
     by_cases h2:s.length≤40
     · rw [aRe (h1 ▸ ha) (by omega) h2]; simp; omega
     · have e1:dN s=false:=by simp [dN,h2]
       rw [e1]; congr 1; symm; simp; omega
   · have:s=[]:=List.eq_nil_of_length_eq_zero (by omega)
     simp [this,dN]
def nG (s:Str):Bool:=decide (2 < s.length) && decide (at_ s (s.length - 2)=39) && decide (49≤at_ s (s.length - 1)) && decide (at_ s (s.length - 1)≤56)
def tG (s:Str):Str:=if nG s then s.take (s.length - 2) else s
def frame (s:Str):Str:=if nG s then s.drop (s.length - 2) else []
theorem bEe (s:Str) (hs:s.length≤140737488355328): CT 146 [.s s] (.tup [.s (tG s),.s (frame s)]):=by
 refine aL mixed Tryz.func146 g0 ?_
 · skip
   (refine zs0 ?_; repeat' first | exact trivial | refine zJ ?_ ?_ | refine zH fun hc=>?_)
   all_goals (refine aF ?_ (by rfl))
   · have h:nG s=true:=by simp_all [nG,at_] <;> omega
     simp [tG,frame,h]
   all_goals (have h:nG s=false:=by simp_all [nG,at_] <;> omega)
   all_goals simp [tG,frame,h]
theorem bQu (s:Str) (hs:s.length≤140737488355328): CT 209 [.s s] (.tup [.s (tG s),.s (frame s)]):=by
 refine aL mixed Tryz.func209 g0 ?_
 · skip
   (refine zs0 ?_; repeat' first | exact trivial | refine zJ ?_ ?_ | refine zH fun hc=>?_)
   all_goals (refine aF ?_ (by rfl))
   · have h:nG s=true:=by simp_all [nG,at_] <;> omega
     simp [tG,frame,h]
   all_goals (have h:nG s=false:=by simp_all [nG,at_] <;> omega)
   all_goals simp [tG,frame,h]
theorem U6 (s:Str):(tG s).length≤s.length:=by unfold tG; split <;> simp <;> omega
theorem aTe (s:Str) (hs:s.length≤140737488355328): CT 165 [.s s] (.b (dN (tG s))):=by
 refine aL mixed Tryz.func165 g0 ?_
 · skip
   (repeat' (first | refine gT ?_ ?_ | refine gF ?_ ?_ | refine gC ?_ ?_ | (refine cE (bQu s hs) ?_; simp -implicitDefEqProofs (disch:=omega) only [go_sem,simprocAttr]) | (refine aMl (T7 _ (dI (U6 s) hs)) ?_; simp -implicitDefEqProofs (disch:=omega) only [go_sem,simprocAttr]) | refine bB (by omega) ?_ | (intro hr; have hc:=hr; (try simp only [zdz] at hc); simp -implicitDefEqProofs (disch:=omega) only [hr,go_sem,simprocAttr]; (try clear hr))))
   refine aF ?_ (by rfl); rfl
theorem aFf {l:List Str} {s:Str} {k:Nat} (hk:k < l.length) (h:l.getD k []=s):l.contains s=true:=by
 have h1:l[k]? = some s:=by simpa [List.getD,hk] using h
 simpa using cP h1
theorem aAx {l:List Str} {s:Str} (h:∀ j,j < l.length→l.getD j [] ≠ s):l.contains s=false:=by
 have:s ∉ l:=by
   intro hm
   obtain ⟨j,hj,he⟩:=bU.1 hm
   exact h j hj (by simp [List.getD,hj,he])
 simpa using this
theorem zI (l:List Str) (s:Str) (hl:l.length≤140737488355328): CT 162 [avs l,.s s] (.b (l.contains s)):=by
 refine bQ mixed Tryz.func162 g0 ?_
 · simp -implicitDefEqProofs (disch:=omega) only [Tryz.f162,go_sem,List.replicate,simprocAttr,avs]
   refine bP (fun (k:Nat)=>[.k,.k,.k,.k,.j,.k,.j,.k,.k,.v (.i .i64 k),.j,.j,.j,.j,.j,.j,.j]) (fun k=>[]) (fun k=>k≤l.length∧∀ j,j < k→l.getD j [] ≠ s) (fun k=>l.length - k) (0) ⟨aG _,fun j h=>by omega⟩ rfl (by simp [eN]) ?_
   rintro k j ⟨hk,ha⟩
   refine zg ?_
   (refine zs0 ?_; repeat' first | exact trivial | refine zJ ?_ ?_ | refine zH fun hc=>?_)
   · refine aF ?_ (by rfl)
     rw [aFf (k:=k) (by omega) (by assumption)]
   · exact ⟨k+1,⟨by omega,bD ha (by assumption)⟩,by omega,by simp⟩
   · refine aF ?_ (by rfl)
     have h1:k=l.length:=by omega
     rw [aAx (h1 ▸ ha)]

def gI:List Str:=[[65,110,121],[73,110,116],[66,111,111,108],[84,101,120,116],[73,100],[76,105,115,116],[77,97,112]]
theorem bOc:CT 85 [] (.own 1 (gI.map .s) gI.length):=by
 refine aL mixed Tryz.func85 g0 ?_
 · skip
   exact S8 rfl rfl rfl rfl rfl
def oP:List Str:=[[65,110,121],[66,111,111,108],[73,100],[73,110,116],[76,105,115,116],[77,97,112],[84,101,120,116]]
theorem bIu:CT 163 [] (.own 1 (oP.map .s) oP.length):=by
 refine aL mixed Tryz.func163 g0 ?_
 · skip
   exact S8 rfl rfl rfl rfl rfl

def idx {α:Type} (p:α→Bool) (l:List α):Int:=match l.findIdx? p with | some i=>i | none => -1
theorem nY {α:Type} {p:α→Bool} {l:List α} {d:α} {k:Nat} (hk:k < l.length) (h:p (l.getD k d)=true) (hn:∀ j,j < k→p (l.getD j d)=false):idx p l=k:=by
 have:l.findIdx? p=some k:=by
   rw [fD]
   refine ⟨hk,by simpa [List.getD,hk] using h,fun j hj=>?_⟩
   have:=hn j hj
   simpa [List.getD,show j < l.length by omega] using this
 simp [idx,this]
theorem nZ {α:Type} {p:α→Bool} {l:List α} {d:α} (hn:∀ j,j < l.length→p (l.getD j d)=false):idx p l = -1:=by
 have:l.findIdx? p=none:=by
   rw [eV]
   intro x hx
   obtain ⟨j,hj,rfl⟩:=bU.1 hx
   have:=hn j hj
   simpa [List.getD,hj] using this
 simp [idx,this]
theorem sB {α:Type} {p:α→Bool} {l:List α}:decide (0≤idx p l)=l.any p:=by
 unfold idx
 cases h:l.findIdx? p with
 | none=>
   rw [eV] at h
   have:l.any p=false:=by rw [eW]; intro x hx; simp [h x hx]
   rw [this]; rfl
 | some i=>
   rw [fD] at h
   obtain ⟨hi,hp,_⟩:=h
   have:l.any p=true:=lG.2 ⟨_,uL hi,hp⟩
   rw [this]; simp
theorem bRq (l:List Str) (s:Str) (hl:l.length≤140737488355328): CT 139 [avs l,.s s] (.i .i64 (idx (fun x=>decide (s=x)) l)):=by
 refine bQ mixed Tryz.func139 g0 ?_
 · simp -implicitDefEqProofs (disch:=omega) only [Tryz.f139,go_sem,List.replicate,simprocAttr,avs]
   refine bP (fun (k:Nat)=>[.k,.k,.k,.k,.j,.j,.k,.k,.v (.i .i64 k),.j,.j,.j,.j,.j,.j,.j,.j,.j,.j]) (fun k=>[]) (fun k=>k≤l.length∧∀ j,j < k→decide (s=l.getD j [])=false) (fun k=>l.length - k) (0) ⟨aG _,fun j h=>by omega⟩ rfl (by simp [eN]) ?_
   rintro k j ⟨hk,ha⟩
   refine zg ?_
   (refine zs0 ?_; repeat' first | exact trivial | refine zJ ?_ ?_ | refine zH fun hc=>?_)
   · refine aF ?_ (by rfl)
     rw [nY (d:=[]) (k:=k) (by omega) (by simpa using hc) ha]
   · exact ⟨k+1,⟨by omega,bD ha (by simpa using hc)⟩,by omega,by simp⟩
   · refine aF ?_ (by rfl)
     have h1:k=l.length:=by omega
     rw [nZ (h1 ▸ ha)]
theorem aBk {s:Str} {l:List Str}:decide (0≤idx (fun x=>decide (s=x)) l)=l.contains s:=by
 rw [sB,List.contains_eq_any_beq]
 congr 1
 funext x
 exact cI.2 (by simp)
theorem K7 (l:List Str) (s:Str) (hl:l.length≤140737488355328): CT 84 [avs l,.s s] (.b (l.contains s)):=by
 refine bQ mixed Tryz.func84 g0 ?_
 · simp -implicitDefEqProofs (disch:=omega) only [Tryz.f84,go_sem,List.replicate,simprocAttr,avs]
   (refine zs1 (bRq l s hl) ?_; repeat' first | exact trivial | refine zJ ?_ ?_ | refine zH fun hc=>?_)
   refine aF ?_ (by rfl)
   rw [aBk]
theorem aGm {l m:List Str} (hl:l.length=m.length) (h:∀ j,j < l.length→l.getD j []=m.getD j []):l=m:=by
 apply X4 hl
 intro j h1 h2
 have:=h j h1
 simpa [List.getD,h1,h2] using this
theorem bNt (l m:List Str) (hl:l.length≤140737488355328) (hm:m.length≤140737488355328): CT 212 [avs l,avs m] (.b (decide (l=m))):=by
 refine bQ mixed Tryz.func212 g0 ?_
 · simp -implicitDefEqProofs (disch:=omega) only [Tryz.f212,go_sem,List.replicate,simprocAttr,avs]
   (refine zs0 ?_; repeat' first | exact trivial | refine zJ ?_ ?_ | refine zH fun hc=>?_)
   · refine aF ?_ (by rfl)
     have:l ≠ m:=fun h=>hc (by rw [h])
     rw [zf this]
   refine bP (fun (k:Nat)=>[.k,.k,.k,.k,.j,.j,.k,.k,.k,.k,.k,.k,.k,.v (.i .i64 k),.j,.j,.j,.j,.j,.j,.j,.j,.j,.j,.j,.j]) (fun k=>[]) (fun k=>k≤l.length∧∀ j,j < k→l.getD j []=m.getD j []) (fun k=>l.length - k) (0) ⟨aG _,fun j h=>by omega⟩ rfl (by simp [eN]) ?_
   rintro k j ⟨hk,ha⟩
   refine zg ?_
   (refine zs0 ?_; repeat' first | exact trivial | refine zJ ?_ ?_ | refine zH fun hc=>?_)
   · refine aF ?_ (by rfl)
     have:l ≠ m:=fun h=>by simp [h] at *
     rw [zf this]
   · exact ⟨k+1,⟨by omega,bD ha (by simpa using hc)⟩,by omega,by simp⟩
   · refine aF ?_ (by rfl)
     have:l=m:=aGm (by omega) (fun j hj=>ha j (by omega))
     rw [zt this]
theorem bNr (l m:List Str) (hl:l.length≤140737488355328) (hm:m.length≤140737488355328): CT 199 [avs l,avs m] (.b (decide (l=m))):=by
 refine bQ mixed Tryz.func199 g0 ?_
 · simp -implicitDefEqProofs (disch:=omega) only [Tryz.f199,go_sem,List.replicate,simprocAttr,avs]
   (refine zs0 ?_; repeat' first | exact trivial | refine zJ ?_ ?_ | refine zH fun hc=>?_)
   · refine aF ?_ (by rfl)
     have:l ≠ m:=fun h=>hc (by rw [h])
     rw [zf this]
   refine bP (fun (k:Nat)=>[.k,.k,.k,.k,.j,.j,.k,.k,.k,.k,.k,.k,.k,.v (.i .i64 k),.j,.j,.j,.j,.j,.j,.j,.j,.j,.j,.j,.j]) (fun k=>[]) (fun k=>k≤l.length∧∀ j,j < k→l.getD j []=m.getD j []) (fun k=>l.length - k) (0) ⟨aG _,fun j h=>by omega⟩ rfl (by simp [eN]) ?_
   rintro k j ⟨hk,ha⟩
   refine zg ?_
   (refine zs0 ?_; repeat' first | exact trivial | refine zJ ?_ ?_ | refine zH fun hc=>?_)
   · refine aF ?_ (by rfl)
     have:l ≠ m:=fun h=>by simp [h] at *
     rw [zf this]
   · exact ⟨k+1,⟨by omega,bD ha (by simpa using hc)⟩,by omega,by simp⟩
   · refine aF ?_ (by rfl)
     have:l=m:=aGm (by omega) (fun j hj=>ha j (by omega))
     rw [zt this]
theorem aHm {l:List Str} {k:Nat} (hn:l.Nodup) (hk:k < l.length):(l.take k).contains (l.getD k [])=false:=by
 have:l.getD k [] ∉ l.take k:=by
   intro hm
   obtain ⟨j,hj,he⟩:=bU.1 hm

   have:=(eR.1 hn) j k (by simp at hj; omega) hk (by simp at hj; omega)
   simp [List.getD,hk] at he
   exact this he
 simpa using this
theorem aHl {l:List Str} (h:∀ j,j < l.length→(l.take j).contains (l.getD j [])=false):l.Nodup:=by
 refine eR.2 (fun i j hi hj hij he=>?_)
 have:=h j hj
 have hm:l.getD j [] ∈ l.take j:=by
   rw [bU]
   exact ⟨i,by simp; omega,by simp [List.getD,hj,he]⟩
 have h2:(l.take j).contains (l.getD j [])=true:=by simpa using hm
 rw [h2] at this; cases this
theorem aZi (l:List Str) (hl:l.length≤140737488355328): CT 106 [avs l] (.b (decide l.Nodup)):=by
 refine bQ mixed Tryz.func106 g0 ?_
 · simp -implicitDefEqProofs (disch:=omega) only [Tryz.f106,go_sem,List.replicate,simprocAttr,avs]
   refine bP (fun (k:Nat)=>[.k,.k,.j,.j,.k,.k,.v (.i .i64 k),.j,.j,.j,.j,.j,.j,.j,.j,.j,.j,.j]) (fun k=>[]) (fun k=>k≤l.length∧∀ j,j < k→(l.take j).contains (l.getD j [])=false) (fun k=>l.length - k) (0) ⟨aG _,fun j h=>by omega⟩ rfl (by simp [eN]) ?_
   rintro k j ⟨hk,ha⟩
   refine zg ?_
   (refine zs1 (zI (l.take k) (l.getD k []) (by simp; omega)) ?_; repeat' first | exact trivial | refine zJ ?_ ?_ | refine zH fun hc=>?_)
   · refine aF ?_ (by rfl)
     rw [zf (fun hn=>by rw [aHm hn (by omega)] at hc; cases hc)]
   · exact ⟨k+1,⟨by omega,bD ha hc⟩,by omega,by simp⟩
   · refine aF ?_ (by rfl)
     have h1:k=l.length:=by omega
     rw [zt (aHl (h1 ▸ ha))]

def iJ:List Str:=[[97,100,100],[97,110,100],[99,97,116],[100,101,108],[100,105,118],[101,113],[103,101],[103,101,116],[103,116],[104,97,115],[105,115],[105,115,118,97,108,117,101],[106,111,105,110],[107,101,121,115],[108,101],[108,101,110,103,116,104],[108,116],[109,111,100],[109,117,108],[110,101],[110,101,103],[110,111,116],[111,114],[112,105,99,107],[112,117,116],[115,105,122,101],[115,117,98],[116,101,120,116]]
theorem bVz:CT 210 [] (.own 1 (iJ.map .s) iJ.length):=by
 refine aL mixed Tryz.func210 g0 ?_
 · skip
   exact S8 rfl rfl rfl rfl rfl
theorem bIx (s:Str): CT 166 [.s s] (.b (iJ.contains s)):=by
 refine aL mixed Tryz.func166 g0 ?_
 · skip
   (refine zs2 bVz (zI iJ s (by decide)) ?_; repeat' first | exact trivial | refine zJ ?_ ?_ | refine zH fun hc=>?_)
   refine aF ?_ (by rfl)
   rfl
def iL (s:bZ) (a:Str):Bool:=oP.contains a || s.sorts.contains a
theorem aMf (s:bZ) (a:Str) (hs:s.sorts.length≤140737488355328): CT 105 [.agg (aO s),.s a] (.b (iL s a)):=by
 refine bQ mixed Tryz.func105 g0 ?_
 · simp -implicitDefEqProofs (disch:=omega) only [Tryz.f105,go_sem,List.replicate,simprocAttr,aO,avs]
   (refine zs3 bIu (zI oP a (by decide)) (zI s.sorts a hs) ?_; repeat' first | exact trivial | refine zJ ?_ ?_ | refine zH fun hc=>?_)
   all_goals (refine aF ?_ (by rfl))
   all_goals simp_all [iL]

theorem aXa:∀ {l:List AV},persL l=true→∀ x ∈ l,pers x=true:=by
 intro l h x hx
 obtain ⟨j,hj,rfl⟩:=bU.1 hx
 exact iB h j _ (by simp [hj])
theorem oV {h:List AObj} {l:List AV} (hl:persL l=true):l.map (gH dep h)=l:=by
 have:l.map (gH dep h)=l.map id:=kW (fun x hx=>by rw [fV,if_pos (aXa hl x hx)]; rfl)
 rw [this,List.map_id]
theorem bRb (l:List Str) (f:FuncId) (a b:List AV) (p:Str→Bool) (hl:l.length≤140737488355328) (ha:persL a=true) (hb:persL b=true) (hw:∀ k,k < l.length→CT f (a++[.s (l.getD k [])]++b) (.b (p (l.getD k [])))): CT 193 [avs l,.fn f a b] (.i .i64 (idx p l)):=by
 refine bQ mixed Tryz.func193 g0 ?_
 · simp -implicitDefEqProofs (disch:=omega) only [Tryz.f193,go_sem,List.replicate,simprocAttr,avs]
   refine bP (fun (k:Nat)=>[.k,.k,.k,.k,.j,.j,.k,.k,.v (.i .i64 k),.j,.j,.j,.j,.j,.j,.j,.j,.j,.j]) (fun k=>[]) (fun k=>k≤l.length∧∀ j,j < k→p (l.getD j [])=false) (fun k=>l.length - k) (0) ⟨aG _,fun j h=>by omega⟩ rfl (by simp [eN]) ?_
   rintro k j ⟨hk,hn⟩
   refine zg ?_
   (refine zs0 ?_; repeat' first | exact trivial | refine zJ ?_ ?_ | refine zH fun hc=>?_)
   · refine bF (hw k (by omega)) ?_ ?_
     · exact zv (zA2 @aV.{0,0} (zA2 (fun h=>oV (h:=h) ha) (fun h=>oV (h:=h) hb)))
     · refine zg ?_
       (refine zs0 ?_; repeat' first | exact trivial | refine zJ ?_ ?_ | refine zH fun hc=>?_)
       · refine aF ?_ (by rfl)
         rw [nY (d:=[]) (k:=k) (by omega) hc hn]
       · exact ⟨k+1,⟨by omega,bD hn hc⟩,by omega,by simp⟩
   · refine aF ?_ (by rfl)
     have h1:k=l.length:=by omega
     rw [nZ (h1 ▸ hn)]
theorem bRp (l:List Str) (f:FuncId) (a b:List AV) (p:Str→Bool) (hl:l.length≤140737488355328) (ha:persL a=true) (hb:persL b=true) (hw:∀ k,k < l.length→CT f (a++[.s (l.getD k [])]++b) (.b (p (l.getD k [])))): CT 140 [avs l,.fn f a b] (.b (l.any p)):=by
 refine bQ mixed Tryz.func140 g0 ?_
 · simp -implicitDefEqProofs (disch:=omega) only [Tryz.f140,go_sem,List.replicate,simprocAttr,avs]
   refine bF (bRb l f a b p hl ha hb hw) ?_ ?_
   · exact zv (zA2 @avs.eq_1 (zA2 ha hb))
   · refine zg ?_
     refine aF ?_ (by rfl)
     rw [sB]

theorem bRo (x:Str) (f:FuncId) (a b:List AV) (p:Bool) (ha:persL a=true) (hb:persL b=true) (hw:CT f (a++[.s x]++b) (.b p)): CT 141 [.s x,.box [.fn f a b] 0] (.b (!p)):=by
 refine aL mixed Tryz.func141 g0 ?_
 · skip
   refine bF hw ?_ ?_
   · exact zv (zA2 @aV.{0,0} (zA2 (fun h=>oV (h:=h) ha) (fun h=>oV (h:=h) hb)))
   · refine zg ?_
     refine aF ?_ (by rfl)
     rfl
theorem aZj (l:List Str) (f:FuncId) (a b:List AV) (p:Str→Bool) (hl:l.length≤140737488355328) (ha:persL a=true) (hb:persL b=true) (hw:∀ k,k < l.length→CT f (a++[.s (l.getD k [])]++b) (.b (p (l.getD k [])))): CT 86 [avs l,.fn f a b] (.b (l.all p)):=by
 refine bQ mixed Tryz.func86 g0 ?_
 · simp -implicitDefEqProofs (disch:=omega) only [Tryz.f86,go_sem,List.replicate,↓reduceIte,reduceAdd,reduceSub,reduceMul,reduceLeDiff,reduceLT,reduceEqDiff,reduceNeg,Nat.reduceBEq,avs]
   refine bF (bRp l 141 [] [.box [.fn f a b] 0] (fun x => !p x) hl rfl (by simp [persL,pers,ha,hb]) (fun k hk=>bRo _ f a b _ ha hb (hw k hk))) ?_ ?_
   · exact zv (zA2 @avs.eq_1 (zA2 ha hb))
   · refine zh (zA2 ha hb) ?_
     refine aF ?_ (by rfl)
     rw [qY]

theorem bWl (s:Str) (hs:s.length≤140737488355328): CT 82 [.s s] (.b (dN s && !gI.contains s)):=by
 refine aL mixed Tryz.func82 g0 ?_
 · skip
   (refine zs3 (T8 s hs) bOc (K7 gI s (by decide)) ?_; repeat' first | exact trivial | refine zJ ?_ ?_ | refine zH fun hc=>?_)
   all_goals (refine aF ?_ (by rfl))
   all_goals simp_all

theorem P7 {P:Program} {T:TypeId} (hT:P.underlying T=some .string) {x:Str}:∀ (l:List Str),eK P T (.s x) (l.map .s)=some (l.findIdx? fun y=>decide (x=y))
 | []=>rfl
 | y::l=>by
   simp only [aT,eK,aEq,jX,hT,P7 hT l,fE]
   cases h:decide (x=y) <;> simp
theorem sY {x:Str} {l:List Str} (h:l.contains x=false):(l.findIdx? fun y=>decide (x=y))=none:=by
 rw [eV]
 intro y hy
 have:x ∉ l:=by simpa using h
 simp only [decide_eq_false_iff_not]
 exact fun he=>this (he ▸ hy)
theorem aBf (x:Str) (l:List Str):eK Tryz.prog 9 (.s x) (l.map .s)=some (l.findIdx? fun y=>decide (x=y)):=P7 un9 l
theorem aEz {x:Str} {l:List Str} (h:l.contains x=true):∃ i,i < l.length∧(l.findIdx? fun y=>decide (x=y))=some i:=by
 cases hf:l.findIdx? fun y=>decide (x=y) with
 | none=>
   rw [eV] at hf
   have hm:x ∈ l:=by simpa using h
   have:=hf x hm
   simp at this
 | some i=>
   rw [fD] at hf
   exact ⟨i,hf.1,rfl⟩
theorem aNx {l:List Str} {k:Nat} (h:k < l.length):l.take (k+1)=l.take k++[l.getD k []]:=by
 rw [rK h]; simp [List.getD,h]
theorem aDq {n i:Nat} {a:AV} (h:i < n):(List.replicate n a)[i]? = some a:=by simp [h]
theorem bIv (l:List Str) (hl:l.length≤140737488355328): CT 81 [avs l] (.b (decide l.Nodup)):=by
 refine bQ mixed Tryz.func81 g0 ?_
 · simp -implicitDefEqProofs (disch:=omega) only [Tryz.f81,go_sem,List.replicate,simprocAttr,avs]
   refine bP (fun (k:Nat)=>[.k,.k,.j,.k,.k,.j,.k,.k,.k,.v (.i .i64 k),.j,.j,.j,.j,.j,.j,.j,.j,.j]) (fun k=>[.map false ((l.take k).map .s) (List.replicate k (.b true))]) (fun k=>k≤l.length∧∀ j,j < k→(l.take j).contains (l.getD j [])=false) (fun k=>l.length - k) (0) ⟨aG _,fun j h=>by omega⟩ rfl (by simp [eN]) ?_
   rintro k j ⟨hk,ha⟩
   refine zg ?_
   (refine zs0 ?_; repeat' first | exact trivial | refine zJ ?_ ?_ | refine zH fun hc=>?_)
   · by_cases hx:(l.take k).contains (l.getD k [])=true
     · obtain ⟨i,hi,hf⟩:=aEz hx
       have hi':i < k:=by simp at hi; omega
       simp -implicitDefEqProofs (disch:=omega) only [kM,aBf,hf,aDq hi',go_sem,simprocAttr]
       refine aF ?_ (by rfl)
       rw [zf (fun hn=>by rw [aHm hn (by omega)] at hx; cases hx)]
     · have hx:=gE.2 hx
       simp -implicitDefEqProofs (disch:=omega) only [kM,aBf,sY hx,go_sem,simprocAttr]
       refine ⟨k+1,⟨by omega,bD ha hx⟩,by omega,?_,by simp⟩
       rw [aNx (by omega),aV,aNf]; rfl
   · refine aF ?_ (by rfl)
     have h1:k=l.length:=by omega
     rw [zt (aHl (h1 ▸ ha))]

def elB (x:Str × Str):AV:=.agg (cD x)
def elO (x:LOp):AV:=.agg (bK x)
attribute [go_sem] elB elO
theorem bQz (l:List (Str × Str)) (f:FuncId) (a b:List AV) (p:Str × Str→Bool) (hl:l.length≤140737488355328) (ha:persL a=true) (hb:persL b=true) (hw:∀ k,k < l.length→CT f (a++[elB (l.getD k ([],[]))]++b) (.b (p (l.getD k ([],[]))))): CT 194 [avb l,.fn f a b] (.i .i64 (idx p l)):=by
 refine aL mixed Tryz.func194 g0 ?_
 · skip
   refine bP (fun (k:Nat)=>[.k,.k,.k,.k,.j,.j,.k,.k,.v (.i .i64 k),.j,.j,.j,.j,.j,.j,.j,.j,.j,.j]) (fun k=>[]) (fun k=>k≤l.length∧∀ j,j < k→p (l.getD j ([],[]))=false) (fun k=>l.length - k) (0) ⟨aG _,fun j h=>by omega⟩ rfl (by simp [eN]) ?_
   rintro k j ⟨hk,hn⟩
   refine zg ?_
   (refine zs0 ?_; repeat' first | exact trivial | refine zJ ?_ ?_ | refine zH fun hc=>?_)
   · refine bF (hw k (by omega)) ?_ ?_
     · exact zv (zA2 @aV.{0,0} (zA2 (fun h=>oV (h:=h) ha) (fun h=>oV (h:=h) hb)))
     · refine zg ?_
       (refine zs0 ?_; repeat' first | exact trivial | refine zJ ?_ ?_ | refine zH fun hc=>?_)
       · refine aF ?_ (by rfl)
         rw [nY (d:=([],[])) (k:=k) (by omega) hc hn]
       · exact ⟨k+1,⟨by omega,bD hn hc⟩,by omega,by simp⟩
   · refine aF ?_ (by rfl)
     have h1:k=l.length:=by omega
     rw [nZ (h1 ▸ hn)]
theorem bQy (l:List (LOp)) (f:FuncId) (a b:List AV) (p:LOp→Bool) (hl:l.length≤140737488355328) (ha:persL a=true) (hb:persL b=true) (hw:∀ k,k < l.length→CT f (a++[elO (l.getD k default)]++b) (.b (p (l.getD k default)))): CT 195 [avo l,.fn f a b] (.i .i64 (idx p l)):=by
 refine aL mixed Tryz.func195 g0 ?_
 · skip
   refine bP (fun (k:Nat)=>[.k,.k,.k,.k,.j,.j,.k,.k,.v (.i .i64 k),.j,.j,.j,.j,.j,.j,.j,.j,.j,.j]) (fun k=>[]) (fun k=>k≤l.length∧∀ j,j < k→p (l.getD j default)=false) (fun k=>l.length - k) (0) ⟨aG _,fun j h=>by omega⟩ rfl (by simp [eN]) ?_
   rintro k j ⟨hk,hn⟩
   refine zg ?_
   (refine zs0 ?_; repeat' first | exact trivial | refine zJ ?_ ?_ | refine zH fun hc=>?_)
   · refine bF (hw k (by omega)) ?_ ?_
     · exact zv (zA2 @aV.{0,0} (zA2 (fun h=>oV (h:=h) ha) (fun h=>oV (h:=h) hb)))
     · refine zg ?_
       (refine zs0 ?_; repeat' first | exact trivial | refine zJ ?_ ?_ | refine zH fun hc=>?_)
       · refine aF ?_ (by rfl)
         rw [nY (d:=default) (k:=k) (by omega) hc hn]
       · exact ⟨k+1,⟨by omega,bD hn hc⟩,by omega,by simp⟩
   · refine aF ?_ (by rfl)
     have h1:k=l.length:=by omega
     rw [nZ (h1 ▸ hn)]
theorem bQs (l:List (Int)) (f:FuncId) (a b:List AV) (p:Int→Bool) (hl:l.length≤140737488355328) (ha:persL a=true) (hb:persL b=true) (hw:∀ k,k < l.length→CT f (a++[.i .i64 (l.getD k 0)]++b) (.b (p (l.getD k 0)))): CT 153 [avi l,.fn f a b] (.i .i64 (idx p l)):=by
 refine aL mixed Tryz.func153 g0 ?_
 · skip
   refine bP (fun (k:Nat)=>[.k,.k,.k,.k,.j,.j,.k,.k,.v (.i .i64 k),.j,.j,.j,.j,.j,.j,.j,.j,.j,.j]) (fun k=>[]) (fun k=>k≤l.length∧∀ j,j < k→p (l.getD j 0)=false) (fun k=>l.length - k) (0) ⟨aG _,fun j h=>by omega⟩ rfl (by simp [eN]) ?_
   rintro k j ⟨hk,hn⟩
   refine zg ?_
   (refine zs0 ?_; repeat' first | exact trivial | refine zJ ?_ ?_ | refine zH fun hc=>?_)
   · refine bF (hw k (by omega)) ?_ ?_
     · exact zv (zA2 @aV.{0,0} (zA2 (fun h=>oV (h:=h) ha) (fun h=>oV (h:=h) hb)))
     · refine zg ?_
       (refine zs0 ?_; repeat' first | exact trivial | refine zJ ?_ ?_ | refine zH fun hc=>?_)
       · refine aF ?_ (by rfl)
         rw [nY (d:=0) (k:=k) (by omega) hc hn]
       · exact ⟨k+1,⟨by omega,bD hn hc⟩,by omega,by simp⟩
   · refine aF ?_ (by rfl)
     have h1:k=l.length:=by omega
     rw [nZ (h1 ▸ hn)]

theorem bRl (l:List (Str × Str)) (f:FuncId) (a b:List AV) (p:Str × Str→Bool) (hl:l.length≤140737488355328) (ha:persL a=true) (hb:persL b=true) (hw:∀ k,k < l.length→CT f (a++[elB (l.getD k ([],[]))]++b) (.b (p (l.getD k ([],[]))))): CT 142 [avb l,.fn f a b] (.b (l.any p)):=by
 refine aL mixed Tryz.func142 g0 ?_
 · skip
   refine bF (bQz l f a b p hl ha hb hw) ?_ ?_
   · exact zv (zA2 ha hb)
   · refine zg ?_
     refine aF ?_ (by rfl)
     rw [sB]
theorem bRj (l:List (LOp)) (f:FuncId) (a b:List AV) (p:LOp→Bool) (hl:l.length≤140737488355328) (ha:persL a=true) (hb:persL b=true) (hw:∀ k,k < l.length→CT f (a++[elO (l.getD k default)]++b) (.b (p (l.getD k default)))): CT 144 [avo l,.fn f a b] (.b (l.any p)):=by
 refine aL mixed Tryz.func144 g0 ?_
 · skip
   refine bF (bQy l f a b p hl ha hb hw) ?_ ?_
   · exact zv (zA2 ha hb)
   · refine zg ?_
     refine aF ?_ (by rfl)
     rw [sB]
theorem bQx (l:List (Int)) (f:FuncId) (a b:List AV) (p:Int→Bool) (hl:l.length≤140737488355328) (ha:persL a=true) (hb:persL b=true) (hw:∀ k,k < l.length→CT f (a++[.i .i64 (l.getD k 0)]++b) (.b (p (l.getD k 0)))): CT 96 [avi l,.fn f a b] (.b (l.any p)):=by
 refine aL mixed Tryz.func96 g0 ?_
 · skip
   refine bF (bQs l f a b p hl ha hb hw) ?_ ?_
   · exact zv (zA2 ha hb)
   · refine zg ?_
     refine aF ?_ (by rfl)
     rw [sB]

theorem bRk (x:Str × Str) (f:FuncId) (a b:List AV) (p:Bool) (ha:persL a=true) (hb:persL b=true) (hw:CT f (a++[elB x]++b) (.b p)): CT 143 [elB x,.box [.fn f a b] 0] (.b (!p)):=by
 refine aL mixed Tryz.func143 g0 ?_
 · skip
   refine bF hw ?_ ?_
   · exact zv (zA2 @aV.{0,0} (zA2 (fun h=>oV (h:=h) ha) (fun h=>oV (h:=h) hb)))
   · refine zg ?_
     refine aF ?_ (by rfl)
     rfl
theorem bRi (x:LOp) (f:FuncId) (a b:List AV) (p:Bool) (ha:persL a=true) (hb:persL b=true) (hw:CT f (a++[elO x]++b) (.b p)): CT 145 [elO x,.box [.fn f a b] 0] (.b (!p)):=by
 refine aL mixed Tryz.func145 g0 ?_
 · skip
   refine bF hw ?_ ?_
   · exact zv (zA2 @aV.{0,0} (zA2 (fun h=>oV (h:=h) ha) (fun h=>oV (h:=h) hb)))
   · refine zg ?_
     refine aF ?_ (by rfl)
     rfl
theorem bQw (x:Int) (f:FuncId) (a b:List AV) (p:Bool) (ha:persL a=true) (hb:persL b=true) (hw:CT f (a++[.i .i64 x]++b) (.b p)): CT 197 [.i .i64 x,.box [.fn f a b] 0] (.b (!p)):=by
 refine aL mixed Tryz.func197 g0 ?_
 · skip
   refine bF hw ?_ ?_
   · exact zv (zA2 @aV.{0,0} (zA2 (fun h=>oV (h:=h) ha) (fun h=>oV (h:=h) hb)))
   · refine zg ?_
     refine aF ?_ (by rfl)
     rfl

theorem bWk (l:List (Str × Str)) (f:FuncId) (a b:List AV) (p:Str × Str→Bool) (hl:l.length≤140737488355328) (ha:persL a=true) (hb:persL b=true) (hw:∀ k,k < l.length→CT f (a++[elB (l.getD k ([],[]))]++b) (.b (p (l.getD k ([],[]))))): CT 88 [avb l,.fn f a b] (.b (l.all p)):=by
 refine aL mixed Tryz.func88 g0 ?_
 · skip
   refine bF (bRl l 143 [] [.box [.fn f a b] 0] (fun x => !p x) hl rfl (by simp [persL,pers,ha,hb]) (fun k hk=>bRk _ f a b _ ha hb (hw k hk))) ?_ ?_
   · exact zv (zA2 ha hb)
   · refine zh (zA2 ha hb) ?_
     refine aF ?_ (by rfl)
     rw [qY]
theorem bNv (l:List (LOp)) (f:FuncId) (a b:List AV) (p:LOp→Bool) (hl:l.length≤140737488355328) (ha:persL a=true) (hb:persL b=true) (hw:∀ k,k < l.length→CT f (a++[elO (l.getD k default)]++b) (.b (p (l.getD k default)))): CT 91 [avo l,.fn f a b] (.b (l.all p)):=by
 refine aL mixed Tryz.func91 g0 ?_
 · skip
   refine bF (bRj l 145 [] [.box [.fn f a b] 0] (fun x => !p x) hl rfl (by simp [persL,pers,ha,hb]) (fun k hk=>bRi _ f a b _ ha hb (hw k hk))) ?_ ?_
   · exact zv (zA2 ha hb)
   · refine zh (zA2 ha hb) ?_
     refine aF ?_ (by rfl)
     rw [qY]
theorem bRg (l:List (Int)) (f:FuncId) (a b:List AV) (p:Int→Bool) (hl:l.length≤140737488355328) (ha:persL a=true) (hb:persL b=true) (hw:∀ k,k < l.length→CT f (a++[.i .i64 (l.getD k 0)]++b) (.b (p (l.getD k 0)))): CT 149 [avi l,.fn f a b] (.b (l.all p)):=by
 refine aL mixed Tryz.func149 g0 ?_
 · skip
   refine bF (bQx l 197 [] [.box [.fn f a b] 0] (fun x => !p x) hl rfl (by simp [persL,pers,ha,hb]) (fun k hk=>bQw _ f a b _ ha hb (hw k hk))) ?_ ?_
   · exact zv (zA2 ha hb)
   · refine zh (zA2 ha hb) ?_
     refine aF ?_ (by rfl)
     rw [qY]

theorem uJ {α:Type} [DecidableEq α] {P:Program} {T:TypeId} {el:α→AV} (hT:∀ x y,aEq P T (el x) (el y)=some (decide (x=y))) {x:α}:∀ (l:List α),eK P T (el x) (l.map el)=some (l.findIdx? fun y=>decide (x=y))
 | []=>rfl
 | y::l=>by
   simp only [aT,eK,hT,uJ hT l,fE]
   cases h:decide (x=y) <;> simp
theorem bXr (x:Str × Str) (l:List (Str × Str)):eK Tryz.prog 122 (elB x) (l.map elB)=some (l.findIdx? fun y=>decide (x=y)):=uJ (fun x y=>by
 simp only [elB,cD,aEq,bUk,gR,jX,un9,aB]
 rw [cI]; simp [Prod.ext_iff]) l
theorem bXq (x:Int) (l:List Int):eK Tryz.prog 3 (.i .i64 x) (l.map (.i .i64))=some (l.findIdx? fun y=>decide (x=y)):=uJ (fun x y=>by
 simp [aEq,jX,un3]) l
theorem nH {α:Type} [BEq α] [LawfulBEq α] [DecidableEq α] {x:α} {l:List α} (h:l.contains x=false):(l.findIdx? fun y=>decide (x=y))=none:=by
 rw [eV]
 intro y hy
 have:x ∉ l:=by simpa using h
 simp only [decide_eq_false_iff_not]
 exact fun he=>this (he ▸ hy)
theorem yU {α:Type} [BEq α] [LawfulBEq α] [DecidableEq α] {x:α} {l:List α} (h:l.contains x=true):∃ i,i < l.length∧(l.findIdx? fun y=>decide (x=y))=some i:=by
 cases hf:l.findIdx? fun y=>decide (x=y) with
 | none=>
   rw [eV] at hf
   have hm:x ∈ l:=by simpa using h
   have:=hf x hm
   simp at this
 | some i=>
   rw [fD] at hf
   exact ⟨i,hf.1,rfl⟩
theorem nE {α:Type} [BEq α] [LawfulBEq α] [DecidableEq α] {l:List α} {k:Nat} {d:α} (hn:l.Nodup) (hk:k < l.length):(l.take k).contains (l.getD k d)=false:=by
 have:l.getD k d ∉ l.take k:=by
   intro hm
   obtain ⟨j,hj,he⟩:=bU.1 hm
   have:=(eR.1 hn) j k (by simp at hj; omega) hk (by simp at hj; omega)
   simp [List.getD,hk] at he
   exact this he
 simpa using this
theorem vQ {α:Type} [BEq α] [LawfulBEq α] [DecidableEq α] {l:List α} {d:α} (h:∀ j,j < l.length→(l.take j).contains (l.getD j d)=false):l.Nodup:=by
 refine eR.2 (fun i j hi hj hij he=>?_)
 have:=h j hj
 have hm:l.getD j d ∈ l.take j:=by
   rw [bU]
   exact ⟨i,by simp; omega,by simp [List.getD,hj,he]⟩
 have h2:(l.take j).contains (l.getD j d)=true:=by simpa using hm
 rw [h2] at this; cases this

theorem bWm (l:List (Str × Str)) (hl:l.length≤140737488355328): CT 80 [avb l] (.b (decide l.Nodup)):=by
 refine aL mixed Tryz.func80 g0 ?_
 · skip
   refine eE (fun (k:Nat)=>[.k,.k,.j,.k,.k,.j,.k,.k,.k,.v (.i .i64 k),.j,.j,.j,.j,.j,.j,.j,.j,.j]) (fun k=>[.map false ((l.take k).map elB) (List.replicate k (.b true))]) (fun k=>k≤l.length∧∀ j,j < k→(l.take j).contains (l.getD j ([],[]))=false) (fun k=>l.length - k) (0) _ ⟨aG _,fun j h=>by omega⟩ rfl (by simp [eN]) ?_
   rintro k g j ⟨hk,ha⟩
   refine zg ?_
   (refine zs0 ?_; repeat' first | exact trivial | refine zJ ?_ ?_ | refine zH fun hc=>?_)
   · by_cases hx:(l.take k).contains (l.getD k ([],[]))=true
     · obtain ⟨i,hi,hf⟩:=yU hx
       have hi':i < k:=by simp at hi; omega
       have hk2:=bXr (l.getD k ([],[])) (l.take k)
       simp only [elB,cD] at hk2
       simp -implicitDefEqProofs (disch:=omega) only [kM,hk2,hf,aDq hi',go_sem,simprocAttr]
       refine aF ?_ (by rfl)
       rw [zf (fun hn=>by rw [nE hn (by omega)] at hx; cases hx)]
     · have hx:=gE.2 hx
       have hk2:=bXr (l.getD k ([],[])) (l.take k)
       simp only [elB,cD] at hk2
       refine zh (zA2 @kM.eq_1 (zA2 hk2 (nH hx))) ?_
       refine ⟨k+1,_,⟨by omega,bD ha hx⟩,by omega,congr (congrArg List.cons ?_) rfl,by simp⟩
       rw [fY (d:=([],[])) (by omega),aV,aNf]; rfl
   · refine aF ?_ (by rfl)
     have h1:k=l.length:=by omega
     rw [zt (vQ (h1 ▸ ha))]
theorem bRf (l:List Int) (hl:l.length≤140737488355328): CT 150 [avi l] (.b (decide l.Nodup)):=by
 refine aL mixed Tryz.func150 g0 ?_
 · skip
   refine bP (fun (k:Nat)=>[.k,.k,.j,.k,.k,.j,.k,.k,.k,.v (.i .i64 k),.j,.j,.j,.j,.j,.j,.j,.j,.j]) (fun k=>[.map false ((l.take k).map (.i .i64)) (List.replicate k (.b true))]) (fun k=>k≤l.length∧∀ j,j < k→(l.take j).contains (l.getD j 0)=false) (fun k=>l.length - k) (0) ⟨aG _,fun j h=>by omega⟩ rfl (by simp [eN]) ?_
   rintro k j ⟨hk,ha⟩
   refine zg ?_
   (refine zs0 ?_; repeat' first | exact trivial | refine zJ ?_ ?_ | refine zH fun hc=>?_)
   · by_cases hx:(l.take k).contains (l.getD k 0)=true
     · obtain ⟨i,hi,hf⟩:=yU hx
       have hi':i < k:=by simp at hi; omega
       simp -implicitDefEqProofs (disch:=omega) only [kM,bXq,hf,aDq hi',go_sem,simprocAttr]
       refine aF ?_ (by rfl)
       rw [zf (fun hn=>by rw [nE hn (by omega)] at hx; cases hx)]
     · have hx:=gE.2 hx
       simp -implicitDefEqProofs (disch:=omega) only [kM,bXq,nH hx,go_sem,simprocAttr]
       refine ⟨k+1,⟨by omega,bD ha hx⟩,by omega,?_,by simp⟩
       rw [fY (d:=0) (by omega),aV,aNf]; rfl
   · refine aF ?_ (by rfl)
     have h1:k=l.length:=by omega
     rw [zt (vQ (h1 ▸ ha))]

structure OkO (o:LOp):Prop where
 name:o.name.length≤140737488355328
 args:o.args.length≤140737488355328
 argsS:∀ x ∈ o.args,x.length≤140737488355328
 sort:o.sort.length≤140737488355328
 pieces:o.pieces.length≤140737488355328
 piecesS:∀ x ∈ o.pieces,x.1.length≤140737488355328∧x.2.length≤140737488355328
 strict:o.strict.length≤140737488355328
 piecesT:o.pieces.length≤4398046511104
 argsT:o.args.length≤8796093022208
 strictT:o.strict.length≤17592186044416
structure OkS (s:bZ):Prop where
 sorts:s.sorts.length≤140737488355328
 sortsS:∀ x ∈ s.sorts,x.length≤140737488355328
 below:s.below.length≤140737488355328
 belowS:∀ x ∈ s.below,x.1.length≤140737488355328∧x.2.length≤140737488355328
 ops:s.ops.length≤140737488355328
 opsO:∀ x ∈ s.ops,OkO x
 funs:s.funs.length≤140737488355328
 funsO:∀ x ∈ s.funs,OkO x
 values:s.values.length≤140737488355328
 opsT:s.ops.length≤1172812402961
 funsT:s.funs.length≤1172812402961
 valuesS:∀ x ∈ s.values,x.length≤140737488355328
theorem aU {α:Type} {l:List α} {d:α} {k:Nat} (h:k < l.length):l.getD k d ∈ l:=by simp [List.getD,h]

end Go.Proofs.YtifefbhllfdmlaaGreatDoor

/-
  The types of the program, as far as its code asks; no condition.
-/
import Derived.Test.YtifefbhllfdmlaaGreatDoorProg
import Derived.Test.YtifefbhllfdmlaaGreatDoorVoP125
import Derived.Lib.Space
import Derived.Lib.ItoaNum
import Derived.Test.YtifefbhllfdmlaaGreatDoorSoP121
set_option linter.unusedVariables false
set_option maxRecDepth 100000
set_option linter.unusedSimpArgs false
set_option maxHeartbeats 4000000
namespace Go.Proofs.YtifefbhllfdmlaaGreatDoor
open Go Go.Vo
open Nat (reduceAdd reduceSub reduceMul reduceLeDiff reduceLT reduceEqDiff)
open Int (reduceNeg)
theorem mixed:Tryz.prog.follows .mixedOrders=true:=by kernel_rfl
def uT:List AV:=Lib.asciiSpaceTab.map (.i .u8)
def H3:List AV:=Lib.pow10Tab.map (.i .u64)
def G0:Glob:=fun g=>if g=0 then some (.box uT 0) else if g=2 then some (.box H3 0) else none
theorem g0:oT G0:=fun k a h=>by
 unfold G0 at h
 split at h
 · cases h; simp only [pers,uT,fX]
 · split at h
   · cases h; simp only [pers,H3,fX]
   · cases h
@[go_sem] theorem az4:jN Tryz.prog 4=none:=by kernel_rfl
@[go_sem] theorem az9:jN Tryz.prog 9=none:=by kernel_rfl
@[go_sem] theorem bUh:jN Tryz.prog 26=none:=by kernel_rfl
@[go_sem] theorem bUg:jN Tryz.prog 30=none:=by kernel_rfl
@[go_sem] theorem bUf:jN Tryz.prog 32=none:=by kernel_rfl
@[go_sem] theorem bUe:jN Tryz.prog 35=none:=by kernel_rfl
@[go_sem] theorem bUd:jN Tryz.prog 37=none:=by kernel_rfl
@[go_sem] theorem bUc:jN Tryz.prog 41=none:=by kernel_rfl
@[go_sem] theorem bUb:jN Tryz.prog 56=none:=by kernel_rfl
@[go_sem] theorem bUa:jN Tryz.prog 87=none:=by kernel_rfl
@[go_sem] theorem bSg:jN Tryz.prog 100=none:=by kernel_rfl
@[go_sem] theorem bSf:jN Tryz.prog 102=none:=by kernel_rfl
@[go_sem] theorem bSe:jN Tryz.prog 104=none:=by kernel_rfl
@[go_sem] theorem bSd:jN Tryz.prog 108=none:=by kernel_rfl
@[go_sem] theorem bSc:jN Tryz.prog 119=none:=by kernel_rfl
@[go_sem] theorem bSb:jN Tryz.prog 122=none:=by kernel_rfl
@[go_sem] theorem bSa:jN Tryz.prog 124=none:=by kernel_rfl
@[go_sem] theorem bRz:jN Tryz.prog 127=none:=by kernel_rfl
@[go_sem] theorem bRy:jN Tryz.prog 133=none:=by kernel_rfl
@[go_sem] theorem bRx:jN Tryz.prog 135=none:=by kernel_rfl
@[go_sem] theorem bRw:jN Tryz.prog 139=none:=by kernel_rfl
@[go_sem] theorem bRv:jN Tryz.prog 143=none:=by kernel_rfl
@[go_sem] theorem bRu:jN Tryz.prog 167=none:=by kernel_rfl
@[go_sem] theorem bRt:jN Tryz.prog 187=none:=by kernel_rfl
@[go_sem] theorem bRs:jN Tryz.prog 216=none:=by kernel_rfl
@[go_sem] theorem sz3:kB Tryz.prog 3=some 1:=by kernel_rfl
@[go_sem] theorem ag3:eY Tryz.prog 3=some false:=by kernel_rfl
@[go_sem] theorem by3:aAs Tryz.prog 3=some 8:=by kernel_rfl
@[go_sem] theorem zo3:zeroOf Tryz.prog 3=some [.i .i64 0]:=by kernel_rfl
@[go_sem] theorem zv3:nU Tryz.prog 3=some (.i .i64 0):=by kernel_rfl
@[go_sem] theorem un3:Program.underlying Tryz.prog 3=some (.int .i64):=by kernel_rfl
@[go_sem] theorem sz4:kB Tryz.prog 4=some 1:=by kernel_rfl
@[go_sem] theorem ag4:eY Tryz.prog 4=some false:=by kernel_rfl
@[go_sem] theorem zo4:zeroOf Tryz.prog 4=some [.b false]:=by kernel_rfl
@[go_sem] theorem zv4:nU Tryz.prog 4=some (.b false):=by kernel_rfl
@[go_sem] theorem un4:Program.underlying Tryz.prog 4=some .bool:=by kernel_rfl
@[go_sem] theorem sz9:kB Tryz.prog 9=some 1:=by kernel_rfl
@[go_sem] theorem ag9:eY Tryz.prog 9=some false:=by kernel_rfl
@[go_sem] theorem by9:aAs Tryz.prog 9=some 16:=by kernel_rfl
@[go_sem] theorem zo9:zeroOf Tryz.prog 9=some [.s []]:=by kernel_rfl
@[go_sem] theorem zv9:nU Tryz.prog 9=some (.s []):=by kernel_rfl
@[go_sem] theorem un9:Program.underlying Tryz.prog 9=some .string:=by kernel_rfl
@[go_sem] theorem bTt:kB Tryz.prog 22=some 1:=by kernel_rfl
@[go_sem] theorem bUx:eY Tryz.prog 22=some false:=by kernel_rfl
@[go_sem] theorem bTe:zeroOf Tryz.prog 22=some [.e0]:=by kernel_rfl
@[go_sem] theorem bSz:nU Tryz.prog 22=some (.e0):=by kernel_rfl
@[go_sem] theorem bPi:Program.underlying Tryz.prog 22=some (.slice 9):=by kernel_rfl
@[go_sem] theorem bJe:eI Tryz.prog 22=some 9:=by kernel_rfl
@[go_sem] theorem bUw:eY Tryz.prog 23=some false:=by kernel_rfl
@[go_sem] theorem bTj:Program.underlying Tryz.prog 23=some (.slice 122):=by kernel_rfl
@[go_sem] theorem bUv:eY Tryz.prog 24=some false:=by kernel_rfl
@[go_sem] theorem bTi:Program.underlying Tryz.prog 24=some (.slice 119):=by kernel_rfl
@[go_sem] theorem bTz:eI Tryz.prog 24=some 119:=by kernel_rfl
@[go_sem] theorem bTs:kB Tryz.prog 26=some 5:=by kernel_rfl
@[go_sem] theorem bUu:eY Tryz.prog 26=some true:=by kernel_rfl
@[go_sem] theorem bOk:cQ Tryz.prog 26 0=some (0,some 1):=by kernel_rfl
@[go_sem] theorem bOj:cQ Tryz.prog 26 1=some (1,some 1):=by kernel_rfl
@[go_sem] theorem bOi:cQ Tryz.prog 26 2=some (2,some 1):=by kernel_rfl
@[go_sem] theorem bOh:cQ Tryz.prog 26 3=some (3,some 1):=by kernel_rfl
@[go_sem] theorem bOg:cQ Tryz.prog 26 4=some (4,some 1):=by kernel_rfl
@[go_sem] theorem bUt:eY Tryz.prog 27=some false:=by kernel_rfl
@[go_sem] theorem bTr:kB Tryz.prog 28=some 1:=by kernel_rfl
@[go_sem] theorem bUs:eY Tryz.prog 28=some false:=by kernel_rfl
@[go_sem] theorem bTd:zeroOf Tryz.prog 28=some [.e0]:=by kernel_rfl
@[go_sem] theorem bPf:Program.underlying Tryz.prog 28=some (.slice 30):=by kernel_rfl
@[go_sem] theorem bLy:eI Tryz.prog 28=some 30:=by kernel_rfl
@[go_sem] theorem bJw:kB Tryz.prog 30=some 6:=by kernel_rfl
@[go_sem] theorem bUr:eY Tryz.prog 30=some true:=by kernel_rfl
@[go_sem] theorem bMo:aAs Tryz.prog 30=some 96:=by kernel_rfl
@[go_sem] theorem bJl:zeroOf Tryz.prog 30=some [.i .i64 0,.i .i64 0,.s [],.s [],.e0,.e0]:=by kernel_rfl
@[go_sem] theorem bOf:cQ Tryz.prog 30 0=some (0,some 1):=by kernel_rfl
@[go_sem] theorem bOe:cQ Tryz.prog 30 1=some (1,some 1):=by kernel_rfl
@[go_sem] theorem bOd:cQ Tryz.prog 30 2=some (2,some 1):=by kernel_rfl
@[go_sem] theorem bOc:cQ Tryz.prog 30 3=some (3,some 1):=by kernel_rfl
@[go_sem] theorem bOb:cQ Tryz.prog 30 4=some (4,some 1):=by kernel_rfl
@[go_sem] theorem bOa:cQ Tryz.prog 30 5=some (5,some 1):=by kernel_rfl
@[go_sem] theorem bTx:gN Tryz.prog 30=some [(0,1),(1,1),(2,1),(3,1),(4,1),(5,1)]:=by kernel_rfl
@[go_sem] theorem bTq:kB Tryz.prog 32=some 1:=by kernel_rfl
@[go_sem] theorem bUq:eY Tryz.prog 32=some false:=by kernel_rfl
@[go_sem] theorem bTh:Program.underlying Tryz.prog 32=some (.slice 3):=by kernel_rfl
@[go_sem] theorem bOm:eI Tryz.prog 32=some 3:=by kernel_rfl
@[go_sem] theorem bUp:eY Tryz.prog 33=some false:=by kernel_rfl
@[go_sem] theorem bTp:kB Tryz.prog 35=some 9:=by kernel_rfl
@[go_sem] theorem bUo:eY Tryz.prog 35=some true:=by kernel_rfl
@[go_sem] theorem bTc:zeroOf Tryz.prog 35=some [.i .i64 0,.i .i64 0,.i .i64 0,.s [],.s [],.e0,.e0,.s [],.i .i64 0]:=by kernel_rfl
@[go_sem] theorem bNz:cQ Tryz.prog 35 0=some (0,some 1):=by kernel_rfl
@[go_sem] theorem bNy:cQ Tryz.prog 35 1=some (1,some 6):=by kernel_rfl
@[go_sem] theorem bNx:cQ Tryz.prog 35 2=some (7,some 1):=by kernel_rfl
@[go_sem] theorem bNw:cQ Tryz.prog 35 3=some (8,some 1):=by kernel_rfl
@[go_sem] theorem bTw:gN Tryz.prog 35=some [(0,1),(1,6),(7,1),(8,1)]:=by kernel_rfl
@[go_sem] theorem bNd:kB Tryz.prog 37=some 10:=by kernel_rfl
@[go_sem] theorem bUn:eY Tryz.prog 37=some true:=by kernel_rfl
@[go_sem] theorem bOp:aAs Tryz.prog 37=some 152:=by kernel_rfl
@[go_sem] theorem bNb:zeroOf Tryz.prog 37=some [.e0,.i .i64 0,.i .i64 0,.i .i64 0,.s [],.s [],.e0,.e0,.s [],.i .i64 0]:=by kernel_rfl
@[go_sem] theorem bNv:cQ Tryz.prog 37 0=some (0,some 1):=by kernel_rfl
@[go_sem] theorem bNu:cQ Tryz.prog 37 1=some (1,some 9):=by kernel_rfl
@[go_sem] theorem bTv:gN Tryz.prog 37=some [(0,1),(1,9)]:=by kernel_rfl
@[go_sem] theorem bTo:kB Tryz.prog 41=some 1:=by kernel_rfl
@[go_sem] theorem bUm:eY Tryz.prog 41=some false:=by kernel_rfl
@[go_sem] theorem bTb:zeroOf Tryz.prog 41=some [.e0]:=by kernel_rfl
@[go_sem] theorem bPe:Program.underlying Tryz.prog 41=some (.slice 37):=by kernel_rfl
@[go_sem] theorem bOl:eI Tryz.prog 41=some 37:=by kernel_rfl
@[go_sem] theorem bTn:kB Tryz.prog 53=some 1:=by kernel_rfl
@[go_sem] theorem bUl:eY Tryz.prog 53=some false:=by kernel_rfl
@[go_sem] theorem bTg:Program.underlying Tryz.prog 53=some (.slice 100):=by kernel_rfl
@[go_sem] theorem bEs:eI Tryz.prog 53=some 100:=by kernel_rfl
@[go_sem] theorem bTm:kB Tryz.prog 54=some 1:=by kernel_rfl
@[go_sem] theorem bUk:eY Tryz.prog 54=some false:=by kernel_rfl
@[go_sem] theorem bTf:Program.underlying Tryz.prog 54=some (.slice 56):=by kernel_rfl
@[go_sem] theorem bTy:eI Tryz.prog 54=some 56:=by kernel_rfl
@[go_sem] theorem bTl:kB Tryz.prog 56=some 13:=by kernel_rfl
@[go_sem] theorem bUj:eY Tryz.prog 56=some true:=by kernel_rfl
@[go_sem] theorem bNt:cQ Tryz.prog 56 0=some (0,some 1):=by kernel_rfl
@[go_sem] theorem bNs:cQ Tryz.prog 56 1=some (1,some 10):=by kernel_rfl
@[go_sem] theorem bNr:cQ Tryz.prog 56 2=some (11,some 1):=by kernel_rfl
@[go_sem] theorem bNq:cQ Tryz.prog 56 3=some (12,some 1):=by kernel_rfl
@[go_sem] theorem bTu:gN Tryz.prog 56=some [(0,1),(1,10),(11,1),(12,1)]:=by kernel_rfl
@[go_sem] theorem bTk:kB Tryz.prog 87=some 1:=by kernel_rfl
@[go_sem] theorem bUi:eY Tryz.prog 87=some false:=by kernel_rfl
@[go_sem] theorem bTa:zeroOf Tryz.prog 87=some [.p (.pointer Option.none)]:=by kernel_rfl
@[go_sem] theorem aId:kB Tryz.prog 100=some 2:=by kernel_rfl
@[go_sem] theorem bSw:eY Tryz.prog 100=some true:=by kernel_rfl
@[go_sem] theorem aNf:aAs Tryz.prog 100=some 32:=by kernel_rfl
@[go_sem] theorem aHe:zeroOf Tryz.prog 100=some [.i .i64 0,.e0]:=by kernel_rfl
@[go_sem] theorem bLw:cQ Tryz.prog 100 0=some (0,some 1):=by kernel_rfl
@[go_sem] theorem bLv:cQ Tryz.prog 100 1=some (1,some 1):=by kernel_rfl
@[go_sem] theorem bQg:gN Tryz.prog 100=some [(0,1),(1,1)]:=by kernel_rfl
@[go_sem] theorem bSv:eY Tryz.prog 102=some false:=by kernel_rfl
@[go_sem] theorem bPb:zeroOf Tryz.prog 104=some [.p (.pointer Option.none),.i .i64 0]:=by kernel_rfl
@[go_sem] theorem bLu:cQ Tryz.prog 104 0=some (0,some 1):=by kernel_rfl
@[go_sem] theorem bLt:cQ Tryz.prog 104 1=some (1,some 1):=by kernel_rfl
@[go_sem] theorem bQf:gN Tryz.prog 104=some [(0,1),(1,1)]:=by kernel_rfl
@[go_sem] theorem bPa:zeroOf Tryz.prog 108=some [.i .i64 0]:=by kernel_rfl
@[go_sem] theorem bLs:cQ Tryz.prog 108 0=some (0,some 1):=by kernel_rfl
@[go_sem] theorem bQe:gN Tryz.prog 108=some [(0,1)]:=by kernel_rfl
@[go_sem] theorem bSu:eY Tryz.prog 116=some false:=by kernel_rfl
@[go_sem] theorem bPr:Program.underlying Tryz.prog 116=some (.slice 216):=by kernel_rfl
@[go_sem] theorem bSt:eY Tryz.prog 117=some false:=by kernel_rfl
@[go_sem] theorem bPw:kB Tryz.prog 119=some 7:=by kernel_rfl
@[go_sem] theorem bSs:eY Tryz.prog 119=some true:=by kernel_rfl
@[go_sem] theorem bRr:aAs Tryz.prog 119=some 120:=by kernel_rfl
@[go_sem] theorem bOz:zeroOf Tryz.prog 119=some [.s [],.e0,.s [],.e0,.i .i64 0,.i .i64 0,.e0]:=by kernel_rfl
@[go_sem] theorem bOt:nU Tryz.prog 119=some (.agg [.s [],.e0,.s [],.e0,.i .i64 0,.i .i64 0,.e0]):=by kernel_rfl
@[go_sem] theorem bLr:cQ Tryz.prog 119 0=some (0,some 1):=by kernel_rfl
@[go_sem] theorem bLq:cQ Tryz.prog 119 1=some (1,some 1):=by kernel_rfl
@[go_sem] theorem bLp:cQ Tryz.prog 119 2=some (2,some 1):=by kernel_rfl
@[go_sem] theorem bLo:cQ Tryz.prog 119 3=some (3,some 1):=by kernel_rfl
@[go_sem] theorem bLn:cQ Tryz.prog 119 4=some (4,some 1):=by kernel_rfl
@[go_sem] theorem bLm:cQ Tryz.prog 119 5=some (5,some 1):=by kernel_rfl
@[go_sem] theorem bLl:cQ Tryz.prog 119 6=some (6,some 1):=by kernel_rfl
@[go_sem] theorem bQd:gN Tryz.prog 119=some [(0,1),(1,1),(2,1),(3,1),(4,1),(5,1),(6,1)]:=by kernel_rfl
@[go_sem] theorem bPv:kB Tryz.prog 122=some 2:=by kernel_rfl
@[go_sem] theorem bSr:eY Tryz.prog 122=some true:=by kernel_rfl
@[go_sem] theorem bOy:zeroOf Tryz.prog 122=some [.s [],.s []]:=by kernel_rfl
@[go_sem] theorem bLk:cQ Tryz.prog 122 0=some (0,some 1):=by kernel_rfl
@[go_sem] theorem bLj:cQ Tryz.prog 122 1=some (1,some 1):=by kernel_rfl
@[go_sem] theorem bKo:iO Tryz.prog 122=some [9,9]:=by kernel_rfl
@[go_sem] theorem bSq:eY Tryz.prog 124=some false:=by kernel_rfl
@[go_sem] theorem bSp:eY Tryz.prog 127=some false:=by kernel_rfl
@[go_sem] theorem bSo:eY Tryz.prog 133=some false:=by kernel_rfl
@[go_sem] theorem bSn:eY Tryz.prog 135=some false:=by kernel_rfl
@[go_sem] theorem bSm:eY Tryz.prog 136=some false:=by kernel_rfl
@[go_sem] theorem bPq:Program.underlying Tryz.prog 136=some (.map 9 22):=by kernel_rfl
@[go_sem] theorem bSl:eY Tryz.prog 137=some false:=by kernel_rfl
@[go_sem] theorem bPp:Program.underlying Tryz.prog 137=some (.map 9 119):=by kernel_rfl
@[go_sem] theorem bOx:zeroOf Tryz.prog 139=some [.e0,.e0,.e0,.e0,.e0,.p (.map Option.none),.p (.map Option.none),.p (.map Option.none)]:=by kernel_rfl
@[go_sem] theorem bLi:cQ Tryz.prog 139 0=some (0,some 5):=by kernel_rfl
@[go_sem] theorem bLh:cQ Tryz.prog 139 1=some (5,some 1):=by kernel_rfl
@[go_sem] theorem bLg:cQ Tryz.prog 139 2=some (6,some 1):=by kernel_rfl
@[go_sem] theorem bLf:cQ Tryz.prog 139 3=some (7,some 1):=by kernel_rfl
@[go_sem] theorem bQc:gN Tryz.prog 139=some [(0,5),(5,1),(6,1),(7,1)]:=by kernel_rfl
@[go_sem] theorem bSk:eY Tryz.prog 143=some false:=by kernel_rfl
@[go_sem] theorem bPo:Program.underlying Tryz.prog 158=some (.map 9 3):=by kernel_rfl
@[go_sem] theorem bPu:kB Tryz.prog 167=some 1:=by kernel_rfl
@[go_sem] theorem bSj:eY Tryz.prog 167=some false:=by kernel_rfl
@[go_sem] theorem bOw:zeroOf Tryz.prog 167=some [.p (.map Option.none)]:=by kernel_rfl
@[go_sem] theorem bPn:Program.underlying Tryz.prog 167=some (.map 9 9):=by kernel_rfl
@[go_sem] theorem bPm:Program.underlying Tryz.prog 175=some (.map 122 4):=by kernel_rfl
@[go_sem] theorem bPl:Program.underlying Tryz.prog 176=some (.map 9 4):=by kernel_rfl
@[go_sem] theorem bPk:Program.underlying Tryz.prog 183=some (.slice 22):=by kernel_rfl
@[go_sem] theorem bRj:eI Tryz.prog 183=some 22:=by kernel_rfl
@[go_sem] theorem bPt:kB Tryz.prog 187=some 2:=by kernel_rfl
@[go_sem] theorem bOv:zeroOf Tryz.prog 187=some [.i .i64 0,.b false]:=by kernel_rfl
@[go_sem] theorem bLe:cQ Tryz.prog 187 0=some (0,some 1):=by kernel_rfl
@[go_sem] theorem bLd:cQ Tryz.prog 187 1=some (1,some 1):=by kernel_rfl
@[go_sem] theorem bQb:gN Tryz.prog 187=some [(0,1),(1,1)]:=by kernel_rfl
@[go_sem] theorem bPj:Program.underlying Tryz.prog 214=some (.map 3 4):=by kernel_rfl
@[go_sem] theorem bPs:kB Tryz.prog 216=some 2:=by kernel_rfl
@[go_sem] theorem bSi:eY Tryz.prog 216=some true:=by kernel_rfl
@[go_sem] theorem bOu:zeroOf Tryz.prog 216=some [.s [],.s []]:=by kernel_rfl
@[go_sem] theorem bLc:cQ Tryz.prog 216 0=some (0,some 1):=by kernel_rfl
@[go_sem] theorem bLb:cQ Tryz.prog 216 1=some (1,some 1):=by kernel_rfl
@[go_sem] theorem bLa:cQ Tryz.prog 235 0=some (0,some 2):=by kernel_rfl
@[go_sem] theorem bPh:Program.underlying Tryz.prog 237=some (.slice 41):=by kernel_rfl
@[go_sem] theorem bRi:eI Tryz.prog 237=some 41:=by kernel_rfl
@[go_sem] theorem bPg:Program.underlying Tryz.prog 245=some (.slice 28):=by kernel_rfl
@[go_sem] theorem bRh:eI Tryz.prog 245=some 28:=by kernel_rfl
end Go.Proofs.YtifefbhllfdmlaaGreatDoor
namespace Go.Vo
theorem zdA:(∀ l,avs l=.sl (l.map .s) l.length)∧(∀ l,avb l=.sl (l.flatMap dP) l.length)∧(∀ l,avi l=.sl (l.map (.i .i64)) l.length)∧(∀ l,avo l=.sl (l.flatMap dA) l.length)∧(∀ s,cB s=[avs s.sorts,avb s.below,avo s.ops,avo s.funs,avs s.values])∧(∀ o,dA o=[.s o.name,avs o.args,.s o.sort,avb o.pieces,.i .i64 o.prec,.i .i64 o.assoc,avi o.strict])∧(∀ b,dP b=[.s b.1,.s b.2]):=⟨fun _=>rfl,fun _=>rfl,fun _=>rfl,fun _=>rfl,fun _=>rfl,fun _=>rfl,fun _=>rfl⟩
theorem cE {P:Program} {G:Glob} {dr:Option DR} {d:Option Nat} {os:List fI} {K:List AV→List AObj→Prop} {env:List AV} {h:List AObj} {f:FuncId} {A A':List AV} {r:AV} (s:Ctr P G f A' r)
 (k:dB P G dr os K (gJ env d (mat r (fW r h A)).1) (mat r (fW r h A)).2) (hA:A.map (fU dep h)=A':=by (simp -implicitDefEqProofs (disch:=omega) only [zdA,go_sem,↓reduceIte,reduceAdd,reduceSub,reduceMul,reduceLeDiff,reduceLT,reduceEqDiff,reduceNeg,Nat.reduceBEq]; done)):tV P G dr f A d os K env h:=bI s hA k
theorem zs1 {K1:Prop} {p q:Prop} (k1:K1) (h:q) (e:K1→Cv q p:=by
   intro k1
   repeat' first | with_reducible apply vT | with_reducible apply vF | with_reducible apply vC | ((first | ((with_reducible apply vE); (focus exact k1); (focus (simp -implicitDefEqProofs (disch:=omega) only [zdA,go_sem,simprocAttr]; done))) | ((with_reducible apply vE); (focus (apply k1 <;> omega)); (focus (simp -implicitDefEqProofs (disch:=omega) only [zdA,go_sem,simprocAttr]; done))) | ((with_reducible apply vR); focus exact k1 ..)); simp -implicitDefEqProofs (disch:=omega) only [go_sem,simprocAttr]) | ((with_reducible apply vA); focus omega) | ((with_reducible apply vI); (focus (intro hr; (try simp only [zdz] at hr); exact hr)); intro hr; have hc:=hr; (try simp only [zdz] at hc); simp -implicitDefEqProofs (disch:=omega) only [hr,go_sem,simprocAttr]; (try clear hr))
   any_goals exact vS):p:=(e k1).1 h
theorem zx1 {K1:Prop} {x:Prop} {p q:Prop} (X:x) (k1:K1) (h:q) (e:x→K1→Cv q p:=by
   intro X k1
   repeat' first | with_reducible apply vT | with_reducible apply vF | with_reducible apply vC | ((first | ((with_reducible apply vE); (focus exact k1); (focus (simp -implicitDefEqProofs (disch:=omega) only [X,zdA,go_sem,simprocAttr]; done))) | ((with_reducible apply vE); (focus (apply k1 <;> omega)); (focus (simp -implicitDefEqProofs (disch:=omega) only [X,zdA,go_sem,simprocAttr]; done))) | ((with_reducible apply vR); focus exact k1 ..)); simp -implicitDefEqProofs (disch:=omega) only [X,go_sem,simprocAttr]) | ((with_reducible apply vA); focus omega) | ((with_reducible apply vI); (focus (intro hr; (try simp only [zdz] at hr); exact hr)); intro hr; have hc:=hr; (try simp only [zdz] at hc); simp -implicitDefEqProofs (disch:=omega) only [hr,X,go_sem,simprocAttr]; (try clear hr))
   any_goals exact vS):p:=(e X k1).1 h
theorem zs2 {K1:Prop} {K2:Prop} {p q:Prop} (k1:K1) (k2:K2) (h:q) (e:K1→K2→Cv q p:=by
   intro k1 k2
   repeat' first | with_reducible apply vT | with_reducible apply vF | with_reducible apply vC | ((first | ((with_reducible apply vE); (focus exact k1); (focus (simp -implicitDefEqProofs (disch:=omega) only [zdA,go_sem,simprocAttr]; done))) | ((with_reducible apply vE); (focus (apply k1 <;> omega)); (focus (simp -implicitDefEqProofs (disch:=omega) only [zdA,go_sem,simprocAttr]; done))) | ((with_reducible apply vR); focus exact k1 ..) | ((with_reducible apply vE); (focus exact k2); (focus (simp -implicitDefEqProofs (disch:=omega) only [zdA,go_sem,simprocAttr]; done))) | ((with_reducible apply vE); (focus (apply k2 <;> omega)); (focus (simp -implicitDefEqProofs (disch:=omega) only [zdA,go_sem,simprocAttr]; done))) | ((with_reducible apply vR); focus exact k2 ..)); simp -implicitDefEqProofs (disch:=omega) only [go_sem,simprocAttr]) | ((with_reducible apply vA); focus omega) | ((with_reducible apply vI); (focus (intro hr; (try simp only [zdz] at hr); exact hr)); intro hr; have hc:=hr; (try simp only [zdz] at hc); simp -implicitDefEqProofs (disch:=omega) only [hr,go_sem,simprocAttr]; (try clear hr))
   any_goals exact vS):p:=(e k1 k2).1 h
theorem zx2 {K1:Prop} {K2:Prop} {x:Prop} {p q:Prop} (X:x) (k1:K1) (k2:K2) (h:q) (e:x→K1→K2→Cv q p:=by
   intro X k1 k2
   repeat' first | with_reducible apply vT | with_reducible apply vF | with_reducible apply vC | ((first | ((with_reducible apply vE); (focus exact k1); (focus (simp -implicitDefEqProofs (disch:=omega) only [X,zdA,go_sem,simprocAttr]; done))) | ((with_reducible apply vE); (focus (apply k1 <;> omega)); (focus (simp -implicitDefEqProofs (disch:=omega) only [X,zdA,go_sem,simprocAttr]; done))) | ((with_reducible apply vR); focus exact k1 ..) | ((with_reducible apply vE); (focus exact k2); (focus (simp -implicitDefEqProofs (disch:=omega) only [X,zdA,go_sem,simprocAttr]; done))) | ((with_reducible apply vE); (focus (apply k2 <;> omega)); (focus (simp -implicitDefEqProofs (disch:=omega) only [X,zdA,go_sem,simprocAttr]; done))) | ((with_reducible apply vR); focus exact k2 ..)); simp -implicitDefEqProofs (disch:=omega) only [X,go_sem,simprocAttr]) | ((with_reducible apply vA); focus omega) | ((with_reducible apply vI); (focus (intro hr; (try simp only [zdz] at hr); exact hr)); intro hr; have hc:=hr; (try simp only [zdz] at hc); simp -implicitDefEqProofs (disch:=omega) only [hr,X,go_sem,simprocAttr]; (try clear hr))
   any_goals exact vS):p:=(e X k1 k2).1 h
theorem zs3 {K1:Prop} {K2:Prop} {K3:Prop} {p q:Prop} (k1:K1) (k2:K2) (k3:K3) (h:q) (e:K1→K2→K3→Cv q p:=by
   intro k1 k2 k3
   repeat' first | with_reducible apply vT | with_reducible apply vF | with_reducible apply vC | ((first | ((with_reducible apply vE); (focus exact k1); (focus (simp -implicitDefEqProofs (disch:=omega) only [zdA,go_sem,simprocAttr]; done))) | ((with_reducible apply vE); (focus (apply k1 <;> omega)); (focus (simp -implicitDefEqProofs (disch:=omega) only [zdA,go_sem,simprocAttr]; done))) | ((with_reducible apply vR); focus exact k1 ..) | ((with_reducible apply vE); (focus exact k2); (focus (simp -implicitDefEqProofs (disch:=omega) only [zdA,go_sem,simprocAttr]; done))) | ((with_reducible apply vE); (focus (apply k2 <;> omega)); (focus (simp -implicitDefEqProofs (disch:=omega) only [zdA,go_sem,simprocAttr]; done))) | ((with_reducible apply vR); focus exact k2 ..) | ((with_reducible apply vE); (focus exact k3); (focus (simp -implicitDefEqProofs (disch:=omega) only [zdA,go_sem,simprocAttr]; done))) | ((with_reducible apply vE); (focus (apply k3 <;> omega)); (focus (simp -implicitDefEqProofs (disch:=omega) only [zdA,go_sem,simprocAttr]; done))) | ((with_reducible apply vR); focus exact k3 ..)); simp -implicitDefEqProofs (disch:=omega) only [go_sem,simprocAttr]) | ((with_reducible apply vA); focus omega) | ((with_reducible apply vI); (focus (intro hr; (try simp only [zdz] at hr); exact hr)); intro hr; have hc:=hr; (try simp only [zdz] at hc); simp -implicitDefEqProofs (disch:=omega) only [hr,go_sem,simprocAttr]; (try clear hr))
   any_goals exact vS):p:=(e k1 k2 k3).1 h
theorem zx3 {K1:Prop} {K2:Prop} {K3:Prop} {x:Prop} {p q:Prop} (X:x) (k1:K1) (k2:K2) (k3:K3) (h:q) (e:x→K1→K2→K3→Cv q p:=by
   intro X k1 k2 k3
   repeat' first | with_reducible apply vT | with_reducible apply vF | with_reducible apply vC | ((first | ((with_reducible apply vE); (focus exact k1); (focus (simp -implicitDefEqProofs (disch:=omega) only [X,zdA,go_sem,simprocAttr]; done))) | ((with_reducible apply vE); (focus (apply k1 <;> omega)); (focus (simp -implicitDefEqProofs (disch:=omega) only [X,zdA,go_sem,simprocAttr]; done))) | ((with_reducible apply vR); focus exact k1 ..) | ((with_reducible apply vE); (focus exact k2); (focus (simp -implicitDefEqProofs (disch:=omega) only [X,zdA,go_sem,simprocAttr]; done))) | ((with_reducible apply vE); (focus (apply k2 <;> omega)); (focus (simp -implicitDefEqProofs (disch:=omega) only [X,zdA,go_sem,simprocAttr]; done))) | ((with_reducible apply vR); focus exact k2 ..) | ((with_reducible apply vE); (focus exact k3); (focus (simp -implicitDefEqProofs (disch:=omega) only [X,zdA,go_sem,simprocAttr]; done))) | ((with_reducible apply vE); (focus (apply k3 <;> omega)); (focus (simp -implicitDefEqProofs (disch:=omega) only [X,zdA,go_sem,simprocAttr]; done))) | ((with_reducible apply vR); focus exact k3 ..)); simp -implicitDefEqProofs (disch:=omega) only [X,go_sem,simprocAttr]) | ((with_reducible apply vA); focus omega) | ((with_reducible apply vI); (focus (intro hr; (try simp only [zdz] at hr); exact hr)); intro hr; have hc:=hr; (try simp only [zdz] at hc); simp -implicitDefEqProofs (disch:=omega) only [hr,X,go_sem,simprocAttr]; (try clear hr))
   any_goals exact vS):p:=(e X k1 k2 k3).1 h
theorem zs4 {K1:Prop} {K2:Prop} {K3:Prop} {K4:Prop} {p q:Prop} (k1:K1) (k2:K2) (k3:K3) (k4:K4) (h:q) (e:K1→K2→K3→K4→Cv q p:=by
   intro k1 k2 k3 k4
   repeat' first | with_reducible apply vT | with_reducible apply vF | with_reducible apply vC | ((first | ((with_reducible apply vE); (focus exact k1); (focus (simp -implicitDefEqProofs (disch:=omega) only [zdA,go_sem,simprocAttr]; done))) | ((with_reducible apply vE); (focus (apply k1 <;> omega)); (focus (simp -implicitDefEqProofs (disch:=omega) only [zdA,go_sem,simprocAttr]; done))) | ((with_reducible apply vR); focus exact k1 ..) | ((with_reducible apply vE); (focus exact k2); (focus (simp -implicitDefEqProofs (disch:=omega) only [zdA,go_sem,simprocAttr]; done))) | ((with_reducible apply vE); (focus (apply k2 <;> omega)); (focus (simp -implicitDefEqProofs (disch:=omega) only [zdA,go_sem,simprocAttr]; done))) | ((with_reducible apply vR); focus exact k2 ..) | ((with_reducible apply vE); (focus exact k3); (focus (simp -implicitDefEqProofs (disch:=omega) only [zdA,go_sem,simprocAttr]; done))) | ((with_reducible apply vE); (focus (apply k3 <;> omega)); (focus (simp -implicitDefEqProofs (disch:=omega) only [zdA,go_sem,simprocAttr]; done))) | ((with_reducible apply vR); focus exact k3 ..) | ((with_reducible apply vE); (focus exact k4); (focus (simp -implicitDefEqProofs (disch:=omega) only [zdA,go_sem,simprocAttr]; done))) | ((with_reducible apply vE); (focus (apply k4 <;> omega)); (focus (simp -implicitDefEqProofs (disch:=omega) only [zdA,go_sem,simprocAttr]; done))) | ((with_reducible apply vR); focus exact k4 ..)); simp -implicitDefEqProofs (disch:=omega) only [go_sem,simprocAttr]) | ((with_reducible apply vA); focus omega) | ((with_reducible apply vI); (focus (intro hr; (try simp only [zdz] at hr); exact hr)); intro hr; have hc:=hr; (try simp only [zdz] at hc); simp -implicitDefEqProofs (disch:=omega) only [hr,go_sem,simprocAttr]; (try clear hr))
   any_goals exact vS):p:=(e k1 k2 k3 k4).1 h
theorem zx4 {K1:Prop} {K2:Prop} {K3:Prop} {K4:Prop} {x:Prop} {p q:Prop} (X:x) (k1:K1) (k2:K2) (k3:K3) (k4:K4) (h:q) (e:x→K1→K2→K3→K4→Cv q p:=by
   intro X k1 k2 k3 k4
   repeat' first | with_reducible apply vT | with_reducible apply vF | with_reducible apply vC | ((first | ((with_reducible apply vE); (focus exact k1); (focus (simp -implicitDefEqProofs (disch:=omega) only [X,zdA,go_sem,simprocAttr]; done))) | ((with_reducible apply vE); (focus (apply k1 <;> omega)); (focus (simp -implicitDefEqProofs (disch:=omega) only [X,zdA,go_sem,simprocAttr]; done))) | ((with_reducible apply vR); focus exact k1 ..) | ((with_reducible apply vE); (focus exact k2); (focus (simp -implicitDefEqProofs (disch:=omega) only [X,zdA,go_sem,simprocAttr]; done))) | ((with_reducible apply vE); (focus (apply k2 <;> omega)); (focus (simp -implicitDefEqProofs (disch:=omega) only [X,zdA,go_sem,simprocAttr]; done))) | ((with_reducible apply vR); focus exact k2 ..) | ((with_reducible apply vE); (focus exact k3); (focus (simp -implicitDefEqProofs (disch:=omega) only [X,zdA,go_sem,simprocAttr]; done))) | ((with_reducible apply vE); (focus (apply k3 <;> omega)); (focus (simp -implicitDefEqProofs (disch:=omega) only [X,zdA,go_sem,simprocAttr]; done))) | ((with_reducible apply vR); focus exact k3 ..) | ((with_reducible apply vE); (focus exact k4); (focus (simp -implicitDefEqProofs (disch:=omega) only [X,zdA,go_sem,simprocAttr]; done))) | ((with_reducible apply vE); (focus (apply k4 <;> omega)); (focus (simp -implicitDefEqProofs (disch:=omega) only [X,zdA,go_sem,simprocAttr]; done))) | ((with_reducible apply vR); focus exact k4 ..)); simp -implicitDefEqProofs (disch:=omega) only [X,go_sem,simprocAttr]) | ((with_reducible apply vA); focus omega) | ((with_reducible apply vI); (focus (intro hr; (try simp only [zdz] at hr); exact hr)); intro hr; have hc:=hr; (try simp only [zdz] at hc); simp -implicitDefEqProofs (disch:=omega) only [hr,X,go_sem,simprocAttr]; (try clear hr))
   any_goals exact vS):p:=(e X k1 k2 k3 k4).1 h
end Go.Vo
namespace Go.Proofs.YtifefbhllfdmlaaGreatDoor
open Go Go.Vo
open Nat (reduceAdd reduceSub reduceMul reduceLeDiff reduceLT reduceEqDiff)
open Int (reduceNeg)
abbrev CT:=Ctr Tryz.prog G0

def aCk (n:Int):Bool:=decide (97≤n) && decide (n≤122) || decide (65≤n) && decide (n≤90)
def bEw (n:Int):Bool:=decide (48≤n) && decide (n≤57)

theorem bEz (n:Int): CT 137 [.i .u8 n] (.b (aCk n)):=by
 refine aQ mixed Tryz.func137 g0 ?_
 · skip
   repeat' (first | refine gT ?_ ?_ | refine gF ?_ ?_ | refine gC ?_ ?_ | (intro hc; simp -implicitDefEqProofs only [hc,go_sem]))
   all_goals (refine aP ?_ (by rfl); simp_all [aCk] <;> omega)
def part (n:Int):Bool:=aCk n || bEw n || decide (n=95)
theorem bEy (n:Int): CT 138 [.i .u8 n] (.b (part n)):=by
 refine aQ mixed Tryz.func138 g0 ?_
 · skip
   repeat' (first | refine gT ?_ ?_ | refine gF ?_ ?_ | refine gC ?_ ?_ | refine aNe (bEz _) ?_; simp -implicitDefEqProofs only [go_sem] | (intro hc; simp -implicitDefEqProofs only [hc,go_sem]))
   all_goals (refine aP ?_ (by rfl); simp_all [part,bEw] <;> omega)

def at_ (s:Str) (k:Nat):Int:=((s.getD k 0).toNat:Int)
def gG (s:Str):Bool := !s.isEmpty && decide (s.length≤40) && aCk (at_ s 0) && s.all fun c=>part c.toNat

theorem aWt {s:Str} {q:Int→Bool} (h:∀ j,j < s.length→q (at_ s j)=true):(s.all fun c=>q c.toNat)=true:=by
 rw [aV]
 intro c hc
 obtain ⟨j,hj,rfl⟩:=eC.1 hc
 have:=h j hj
 simpa [at_,hj] using this
theorem nN {s:Str} {q:Int→Bool} {j:Nat} (hj:j < s.length) (h:q (at_ s j)=false):(s.all fun c=>q c.toNat)=false:=by
 rw [lX]
 exact ⟨s[j],N1 hj,by simpa [at_,hj] using h⟩

theorem J2 (s:Str) (hs:s.length≤140737488355328): CT 83 [.s s] (.b (gG s)):=by
 refine aQ mixed Tryz.func83 g0 ?_
 · skip
   (refine zs1 bEz ?_; repeat' first | exact trivial | refine zJ ?_ ?_ | refine zH fun hc=>?_)
   any_goals (refine aP ?_ (by rfl); simp_all [gG,at_] <;> omega)
   refine dD (fun (k:Nat)=>[.k,.k,.j,.j,.k,.k,.k,.k,.k,.k,.k,.k,.k,.k,.k,.k,.k,.k,.k,.v (.i .i64 k),.j,.j,.j,.j,.j,.j,.j,.j]) (fun k=>[]) (fun k=>k≤s.length∧∀ j,j < k→part (at_ s j)=true) (fun k=>s.length - k) (0) ⟨aT _,fun j h=>by omega⟩ rfl (by simp [iL]) ?_
   rintro k j ⟨hk,ha⟩
   refine zg ?_
   (refine zs1 bEy ?_; repeat' first | exact trivial | refine zJ ?_ ?_ | refine zH fun hc=>?_)
   · refine aP ?_ (by rfl)
     simp only [gG,nN (show k < s.length by omega) (by simpa [at_] using hc),aW]
   · exact ⟨k+1,⟨by omega,dS ha (by simpa [at_] using hc)⟩,by omega,by simp⟩
   · refine aP ?_ (by rfl)
     have h1:k=s.length:=by omega
     simp only [gG,aWt (h1 ▸ ha)]
     simp_all [at_] <;> omega

def rT (s:Str):Bool:=decide (2 < s.length) && decide (at_ s (s.length - 2)=39) && decide (49≤at_ s (s.length - 1)) && decide (at_ s (s.length - 1)≤56)
def tX (s:Str):Str:=if rT s then s.take (s.length - 2) else s
def frame (s:Str):Str:=if rT s then s.drop (s.length - 2) else []
theorem aWn (s:Str) (hs:s.length≤140737488355328): CT 146 [.s s] (.tup [.s (tX s),.s (frame s)]):=by
 refine aQ mixed Tryz.func146 g0 ?_
 · skip
   (refine zs0 ?_; repeat' first | exact trivial | refine zJ ?_ ?_ | refine zH fun hc=>?_)
   all_goals (refine aP ?_ (by rfl))
   · have h:rT s=true:=by simp_all [rT,at_] <;> omega
     simp [tX,frame,h]
   all_goals (have h:rT s=false:=by simp_all [rT,at_] <;> omega)
   all_goals simp [tX,frame,h]
theorem aDs (s:Str):(tX s).length≤s.length:=by unfold tX; split <;> simp <;> omega

def iQ:List Str:=[[65,110,121],[73,110,116],[66,111,111,108],[84,101,120,116],[73,100],[76,105,115,116],[77,97,112]]
theorem bFi:CT 85 [] (.own 1 (iQ.map .s) iQ.length):=by
 refine aQ mixed Tryz.func85 g0 ?_
 · skip
   exact aLx rfl rfl rfl rfl rfl
def idx {α:Type} (p:α→Bool) (l:List α):Int:=match l.findIdx? p with | some i=>i | none => -1
theorem mT {α:Type} {p:α→Bool} {l:List α} {d:α} {k:Nat} (hk:k < l.length) (h:p (l.getD k d)=true) (hn:∀ j,j < k→p (l.getD j d)=false):idx p l=k:=by
 have:l.findIdx? p=some k:=by
   rw [eR]
   refine ⟨hk,by simpa [List.getD,hk] using h,fun j hj=>?_⟩
   have:=hn j hj
   simpa [List.getD,show j < l.length by omega] using this
 simp [idx,this]
theorem mU {α:Type} {p:α→Bool} {l:List α} {d:α} (hn:∀ j,j < l.length→p (l.getD j d)=false):idx p l = -1:=by
 have:l.findIdx? p=none:=by
   rw [eM]
   intro x hx
   obtain ⟨j,hj,rfl⟩:=eC.1 hx
   have:=hn j hj
   simpa [List.getD,hj] using this
 simp [idx,this]
theorem pU {α:Type} {p:α→Bool} {l:List α}:decide (0≤idx p l)=l.any p:=by
 unfold idx
 cases h:l.findIdx? p with
 | none=>
   rw [eM] at h
   have:l.any p=false:=by rw [qI]; intro x hx; simp [h x hx]
   rw [this]; rfl
 | some i=>
   rw [eR] at h
   obtain ⟨hi,hp,_⟩:=h
   have:l.any p=true:=List.any_eq_true.2 ⟨_,N1 hi,hp⟩
   rw [this]; simp
theorem bHq (l:List Str) (s:Str) (hl:l.length≤140737488355328): CT 139 [avs l,.s s] (.i .i64 (idx (fun x=>decide (s=x)) l)):=by
 refine cX mixed Tryz.func139 g0 ?_
 · simp -implicitDefEqProofs (disch:=omega) only [Tryz.f139,go_sem,List.replicate,simprocAttr,avs]
   refine dD (fun (k:Nat)=>[.k,.k,.k,.k,.j,.j,.k,.k,.v (.i .i64 k),.j,.j,.j,.j,.j,.j,.j,.j,.j,.j]) (fun k=>[]) (fun k=>k≤l.length∧∀ j,j < k→decide (s=l.getD j [])=false) (fun k=>l.length - k) (0) ⟨aT _,fun j h=>by omega⟩ rfl (by simp [iL]) ?_
   rintro k j ⟨hk,ha⟩
   refine zg ?_
   (refine zs0 ?_; repeat' first | exact trivial | refine zJ ?_ ?_ | refine zH fun hc=>?_)
   · refine aP ?_ (by rfl)
     rw [mT (d:=[]) (k:=k) (by omega) (by simpa using hc) ha]
   · exact ⟨k+1,⟨by omega,dS ha (by simpa using hc)⟩,by omega,by simp⟩
   · refine aP ?_ (by rfl)
     have h1:k=l.length:=by omega
     rw [mU (h1 ▸ ha)]
theorem S4 {s:Str} {l:List Str}:decide (0≤idx (fun x=>decide (s=x)) l)=l.contains s:=by
 rw [pU,List.contains_eq_any_beq]
 congr 1
 funext x
 exact kA.2 (by simp)
theorem C0 (l:List Str) (s:Str) (hl:l.length≤140737488355328): CT 84 [avs l,.s s] (.b (l.contains s)):=by
 refine cX mixed Tryz.func84 g0 ?_
 · simp -implicitDefEqProofs (disch:=omega) only [Tryz.f84,go_sem,List.replicate,simprocAttr,avs]
   (refine zs1 (bHq l s hl) ?_; repeat' first | exact trivial | refine zJ ?_ ?_ | refine zH fun hc=>?_)
   refine aP ?_ (by rfl)
   rw [S4]
theorem aPs {l m:List Str} (hl:l.length=m.length) (h:∀ j,j < l.length→l.getD j []=m.getD j []):l=m:=by
 apply N2 hl
 intro j h1 h2
 have:=h j h1
 simpa [List.getD,h1,h2] using this
theorem bFb (l m:List Str) (hl:l.length≤140737488355328) (hm:m.length≤140737488355328): CT 199 [avs l,avs m] (.b (decide (l=m))):=by
 refine cX mixed Tryz.func199 g0 ?_
 · simp -implicitDefEqProofs (disch:=omega) only [Tryz.f199,go_sem,List.replicate,simprocAttr,avs]
   (refine zs0 ?_; repeat' first | exact trivial | refine zJ ?_ ?_ | refine zH fun hc=>?_)
   · refine aP ?_ (by rfl)
     have:l ≠ m:=fun h=>hc (by rw [h])
     rw [zf this]
   refine dD (fun (k:Nat)=>[.k,.k,.k,.k,.j,.j,.k,.k,.k,.k,.k,.k,.k,.v (.i .i64 k),.j,.j,.j,.j,.j,.j,.j,.j,.j,.j,.j,.j]) (fun k=>[]) (fun k=>k≤l.length∧∀ j,j < k→l.getD j []=m.getD j []) (fun k=>l.length - k) (0) ⟨aT _,fun j h=>by omega⟩ rfl (by simp [iL]) ?_
   rintro k j ⟨hk,ha⟩
   refine zg ?_
   (refine zs0 ?_; repeat' first | exact trivial | refine zJ ?_ ?_ | refine zH fun hc=>?_)
   · refine aP ?_ (by rfl)
     have:l ≠ m:=fun h=>by simp [h] at *
     rw [zf this]
   · exact ⟨k+1,⟨by omega,dS ha (by simpa using hc)⟩,by omega,by simp⟩
   · refine aP ?_ (by rfl)
     have:l=m:=aPs (by omega) (fun j hj=>ha j (by omega))
     rw [zt this]
theorem aQw {l:List Str} {k:Nat} (hn:l.Nodup) (hk:k < l.length):(l.take k).contains (l.getD k [])=false:=by
 have:l.getD k [] ∉ l.take k:=by
   intro hm
   obtain ⟨j,hj,he⟩:=eC.1 hm

   have:=(fK.1 hn) j k (by simp at hj; omega) hk (by simp at hj; omega)
   simp [List.getD,hk] at he
   exact this he
 simpa using this
theorem aQv {l:List Str} (h:∀ j,j < l.length→(l.take j).contains (l.getD j [])=false):l.Nodup:=by
 refine fK.2 (fun i j hi hj hij he=>?_)
 have:=h j hj
 have hm:l.getD j [] ∈ l.take j:=by
   rw [eC]
   exact ⟨i,by simp; omega,by simp [List.getD,hj,he]⟩
 have h2:(l.take j).contains (l.getD j [])=true:=by simpa using hm
 rw [h2] at this; cases this

def oP:List Str:=[[97,100,100],[97,110,100],[99,97,116],[100,101,108],[100,105,118],[101,113],[103,101],[103,101,116],[103,116],[104,97,115],[105,115],[105,115,118,97,108,117,101],[106,111,105,110],[107,101,121,115],[108,101],[108,101,110,103,116,104],[108,116],[109,111,100],[109,117,108],[110,101],[110,101,103],[110,111,116],[111,114],[112,105,99,107],[112,117,116],[115,105,122,101],[115,117,98],[116,101,120,116]]

theorem aQo:∀ {l:List AV},persL l=true→∀ x ∈ l,pers x=true:=by
 intro l h x hx
 obtain ⟨j,hj,rfl⟩:=eC.1 hx
 exact gM h j _ (by simp [hj])
theorem nG {h:List AObj} {l:List AV} (hl:persL l=true):l.map (fU dep h)=l:=by
 have:l.map (fU dep h)=l.map id:=iS (fun x hx=>by rw [fS,if_pos (aQo hl x hx)]; rfl)
 rw [this,List.map_id]
theorem bHd (l:List Str) (f:FuncId) (a b:List AV) (p:Str→Bool) (hl:l.length≤140737488355328) (ha:persL a=true) (hb:persL b=true) (hw:∀ k,k < l.length→CT f (a++[.s (l.getD k [])]++b) (.b (p (l.getD k [])))): CT 193 [avs l,.fn f a b] (.i .i64 (idx p l)):=by
 refine cX mixed Tryz.func193 g0 ?_
 · simp -implicitDefEqProofs (disch:=omega) only [Tryz.f193,go_sem,List.replicate,simprocAttr,avs]
   refine dD (fun (k:Nat)=>[.k,.k,.k,.k,.j,.j,.k,.k,.v (.i .i64 k),.j,.j,.j,.j,.j,.j,.j,.j,.j,.j]) (fun k=>[]) (fun k=>k≤l.length∧∀ j,j < k→p (l.getD j [])=false) (fun k=>l.length - k) (0) ⟨aT _,fun j h=>by omega⟩ rfl (by simp [iL]) ?_
   rintro k j ⟨hk,hn⟩
   refine zg ?_
   (refine zs0 ?_; repeat' first | exact trivial | refine zJ ?_ ?_ | refine zH fun hc=>?_)
   · refine bI (hw k (by omega)) ?_ ?_
     · exact zv (zA2 @bF.{0,0} (zA2 (fun h=>nG (h:=h) ha) (fun h=>nG (h:=h) hb)))
     · refine zg ?_
       (refine zs0 ?_; repeat' first | exact trivial | refine zJ ?_ ?_ | refine zH fun hc=>?_)
       · refine aP ?_ (by rfl)
         rw [mT (d:=[]) (k:=k) (by omega) hc hn]
       · exact ⟨k+1,⟨by omega,dS hn hc⟩,by omega,by simp⟩
   · refine aP ?_ (by rfl)
     have h1:k=l.length:=by omega
     rw [mU (h1 ▸ hn)]
theorem bHp (l:List Str) (f:FuncId) (a b:List AV) (p:Str→Bool) (hl:l.length≤140737488355328) (ha:persL a=true) (hb:persL b=true) (hw:∀ k,k < l.length→CT f (a++[.s (l.getD k [])]++b) (.b (p (l.getD k [])))): CT 140 [avs l,.fn f a b] (.b (l.any p)):=by
 refine cX mixed Tryz.func140 g0 ?_
 · simp -implicitDefEqProofs (disch:=omega) only [Tryz.f140,go_sem,List.replicate,simprocAttr,avs]
   refine bI (bHd l f a b p hl ha hb hw) ?_ ?_
   · exact zv (zA2 @avs.eq_1 (zA2 ha hb))
   · refine zg ?_
     refine aP ?_ (by rfl)
     rw [pU]

theorem bHo (x:Str) (f:FuncId) (a b:List AV) (p:Bool) (ha:persL a=true) (hb:persL b=true) (hw:CT f (a++[.s x]++b) (.b p)): CT 141 [.s x,.box [.fn f a b] 0] (.b (!p)):=by
 refine aQ mixed Tryz.func141 g0 ?_
 · skip
   refine bI hw ?_ ?_
   · exact zv (zA2 @bF.{0,0} (zA2 (fun h=>nG (h:=h) ha) (fun h=>nG (h:=h) hb)))
   · refine zg ?_
     refine aP ?_ (by rfl)
     rfl
theorem aSr (l:List Str) (f:FuncId) (a b:List AV) (p:Str→Bool) (hl:l.length≤140737488355328) (ha:persL a=true) (hb:persL b=true) (hw:∀ k,k < l.length→CT f (a++[.s (l.getD k [])]++b) (.b (p (l.getD k [])))): CT 86 [avs l,.fn f a b] (.b (l.all p)):=by
 refine cX mixed Tryz.func86 g0 ?_
 · simp -implicitDefEqProofs (disch:=omega) only [Tryz.f86,go_sem,List.replicate,↓reduceIte,reduceAdd,reduceSub,reduceMul,reduceLeDiff,reduceLT,reduceEqDiff,reduceNeg,Nat.reduceBEq,avs]
   refine bI (bHp l 141 [] [.box [.fn f a b] 0] (fun x => !p x) hl rfl (by simp [persL,pers,ha,hb]) (fun k hk=>bHo _ f a b _ ha hb (hw k hk))) ?_ ?_
   · exact zv (zA2 @avs.eq_1 (zA2 ha hb))
   · refine zh (zA2 ha hb) ?_
     refine aP ?_ (by rfl)
     rw [oS]

theorem bMh (s:Str) (hs:s.length≤140737488355328): CT 82 [.s s] (.b (gG s && !iQ.contains s)):=by
 refine aQ mixed Tryz.func82 g0 ?_
 · skip
   (refine zs3 (J2 s hs) bFi (C0 iQ s (by decide)) ?_; repeat' first | exact trivial | refine zJ ?_ ?_ | refine zH fun hc=>?_)
   all_goals (refine aP ?_ (by rfl))
   all_goals simp_all

theorem G5 {P:Program} {T:TypeId} (hT:P.underlying T=some .string) {x:Str}:∀ (l:List Str),eE P T (.s x) (l.map .s)=some (l.findIdx? fun y=>decide (x=y))
 | []=>rfl
 | y::l=>by
   simp only [aO,eE,aEq,jM,hT,G5 hT l,eS]
   cases h:decide (x=y) <;> simp
theorem qR {x:Str} {l:List Str} (h:l.contains x=false):(l.findIdx? fun y=>decide (x=y))=none:=by
 rw [eM]
 intro y hy
 have:x ∉ l:=by simpa using h
 simp only [decide_eq_false_iff_not]
 exact fun he=>this (he ▸ hy)
theorem R9 (x:Str) (l:List Str):eE Tryz.prog 9 (.s x) (l.map .s)=some (l.findIdx? fun y=>decide (x=y)):=G5 un9 l
theorem aAi {x:Str} {l:List Str} (h:l.contains x=true):∃ i,i < l.length∧(l.findIdx? fun y=>decide (x=y))=some i:=by
 cases hf:l.findIdx? fun y=>decide (x=y) with
 | none=>
   rw [eM] at hf
   have hm:x ∈ l:=by simpa using h
   have:=hf x hm
   simp at this
 | some i=>
   rw [eR] at hf
   exact ⟨i,hf.1,rfl⟩
theorem aHz {l:List Str} {k:Nat} (h:k < l.length):l.take (k+1)=l.take k++[l.getD k []]:=by
 rw [List.take_succ_eq_append_getElem h]; simp [List.getD,h]
theorem X8 {n i:Nat} {a:AV} (h:i < n):(List.replicate n a)[i]? = some a:=by simp [h]
theorem bAr (l:List Str) (hl:l.length≤140737488355328): CT 81 [avs l] (.b (decide l.Nodup)):=by
 refine cX mixed Tryz.func81 g0 ?_
 · simp -implicitDefEqProofs (disch:=omega) only [Tryz.f81,go_sem,List.replicate,simprocAttr,avs]
   refine dD (fun (k:Nat)=>[.k,.k,.j,.k,.k,.j,.k,.k,.k,.v (.i .i64 k),.j,.j,.j,.j,.j,.j,.j,.j,.j]) (fun k=>[.map false ((l.take k).map .s) (List.replicate k (.b true))]) (fun k=>k≤l.length∧∀ j,j < k→(l.take j).contains (l.getD j [])=false) (fun k=>l.length - k) (0) ⟨aT _,fun j h=>by omega⟩ rfl (by simp [iL]) ?_
   rintro k j ⟨hk,ha⟩
   refine zg ?_
   (refine zs0 ?_; repeat' first | exact trivial | refine zJ ?_ ?_ | refine zH fun hc=>?_)
   · by_cases hx:(l.take k).contains (l.getD k [])=true
     · obtain ⟨i,hi,hf⟩:=aAi hx
       have hi':i < k:=by simp at hi; omega
       simp -implicitDefEqProofs (disch:=omega) only [kE,R9,hf,X8 hi',go_sem,simprocAttr]
       refine aP ?_ (by rfl)
       rw [zf (fun hn=>by rw [aQw hn (by omega)] at hx; cases hx)]
     · have hx:=gV.2 hx
       simp -implicitDefEqProofs (disch:=omega) only [kE,R9,qR hx,go_sem,simprocAttr]
       refine ⟨k+1,⟨by omega,dS ha hx⟩,by omega,?_,by simp⟩
       rw [aHz (by omega),bF,aGz]; rfl
   · refine aP ?_ (by rfl)
     have h1:k=l.length:=by omega
     rw [zt (aQv (h1 ▸ ha))]

def elB (x:Str × Str):AV:=.agg (dP x)
def elO (x:LOp):AV:=.agg (dA x)
attribute [go_sem] elB elO
theorem bHb (l:List (Str × Str)) (f:FuncId) (a b:List AV) (p:Str × Str→Bool) (hl:l.length≤140737488355328) (ha:persL a=true) (hb:persL b=true) (hw:∀ k,k < l.length→CT f (a++[elB (l.getD k ([],[]))]++b) (.b (p (l.getD k ([],[]))))): CT 194 [avb l,.fn f a b] (.i .i64 (idx p l)):=by
 refine aQ mixed Tryz.func194 g0 ?_
 · skip
   refine dD (fun (k:Nat)=>[.k,.k,.k,.k,.j,.j,.k,.k,.v (.i .i64 k),.j,.j,.j,.j,.j,.j,.j,.j,.j,.j]) (fun k=>[]) (fun k=>k≤l.length∧∀ j,j < k→p (l.getD j ([],[]))=false) (fun k=>l.length - k) (0) ⟨aT _,fun j h=>by omega⟩ rfl (by simp [iL]) ?_
   rintro k j ⟨hk,hn⟩
   refine zg ?_
   (refine zs0 ?_; repeat' first | exact trivial | refine zJ ?_ ?_ | refine zH fun hc=>?_)
   · refine bI (hw k (by omega)) ?_ ?_
     · exact zv (zA2 @bF.{0,0} (zA2 (fun h=>nG (h:=h) ha) (fun h=>nG (h:=h) hb)))
     · refine zg ?_
       (refine zs0 ?_; repeat' first | exact trivial | refine zJ ?_ ?_ | refine zH fun hc=>?_)
       · refine aP ?_ (by rfl)
         rw [mT (d:=([],[])) (k:=k) (by omega) hc hn]
       · exact ⟨k+1,⟨by omega,dS hn hc⟩,by omega,by simp⟩
   · refine aP ?_ (by rfl)
     have h1:k=l.length:=by omega
     rw [mU (h1 ▸ hn)]
theorem bHa (l:List (LOp)) (f:FuncId) (a b:List AV) (p:LOp→Bool) (hl:l.length≤140737488355328) (ha:persL a=true) (hb:persL b=true) (hw:∀ k,k < l.length→CT f (a++[elO (l.getD k default)]++b) (.b (p (l.getD k default)))): CT 195 [avo l,.fn f a b] (.i .i64 (idx p l)):=by
 refine aQ mixed Tryz.func195 g0 ?_
 · skip
   refine dD (fun (k:Nat)=>[.k,.k,.k,.k,.j,.j,.k,.k,.v (.i .i64 k),.j,.j,.j,.j,.j,.j,.j,.j,.j,.j]) (fun k=>[]) (fun k=>k≤l.length∧∀ j,j < k→p (l.getD j default)=false) (fun k=>l.length - k) (0) ⟨aT _,fun j h=>by omega⟩ rfl (by simp [iL]) ?_
   rintro k j ⟨hk,hn⟩
   refine zg ?_
   (refine zs0 ?_; repeat' first | exact trivial | refine zJ ?_ ?_ | refine zH fun hc=>?_)
   · refine bI (hw k (by omega)) ?_ ?_
     · exact zv (zA2 @bF.{0,0} (zA2 (fun h=>nG (h:=h) ha) (fun h=>nG (h:=h) hb)))
     · refine zg ?_
       (refine zs0 ?_; repeat' first | exact trivial | refine zJ ?_ ?_ | refine zH fun hc=>?_)
       · refine aP ?_ (by rfl)
         rw [mT (d:=default) (k:=k) (by omega) hc hn]
       · exact ⟨k+1,⟨by omega,dS hn hc⟩,by omega,by simp⟩
   · refine aP ?_ (by rfl)
     have h1:k=l.length:=by omega
     rw [mU (h1 ▸ hn)]
theorem bGw (l:List (Int)) (f:FuncId) (a b:List AV) (p:Int→Bool) (hl:l.length≤140737488355328) (ha:persL a=true) (hb:persL b=true) (hw:∀ k,k < l.length→CT f (a++[.i .i64 (l.getD k 0)]++b) (.b (p (l.getD k 0)))): CT 153 [avi l,.fn f a b] (.i .i64 (idx p l)):=by
 refine aQ mixed Tryz.func153 g0 ?_
 · skip
   refine dD (fun (k:Nat)=>[.k,.k,.k,.k,.j,.j,.k,.k,.v (.i .i64 k),.j,.j,.j,.j,.j,.j,.j,.j,.j,.j]) (fun k=>[]) (fun k=>k≤l.length∧∀ j,j < k→p (l.getD j 0)=false) (fun k=>l.length - k) (0) ⟨aT _,fun j h=>by omega⟩ rfl (by simp [iL]) ?_
   rintro k j ⟨hk,hn⟩
   refine zg ?_
   (refine zs0 ?_; repeat' first | exact trivial | refine zJ ?_ ?_ | refine zH fun hc=>?_)
   · refine bI (hw k (by omega)) ?_ ?_
     · exact zv (zA2 @bF.{0,0} (zA2 (fun h=>nG (h:=h) ha) (fun h=>nG (h:=h) hb)))
     · refine zg ?_
       (refine zs0 ?_; repeat' first | exact trivial | refine zJ ?_ ?_ | refine zH fun hc=>?_)
       · refine aP ?_ (by rfl)
         rw [mT (d:=0) (k:=k) (by omega) hc hn]
       · exact ⟨k+1,⟨by omega,dS hn hc⟩,by omega,by simp⟩
   · refine aP ?_ (by rfl)
     have h1:k=l.length:=by omega
     rw [mU (h1 ▸ hn)]

theorem bHl (l:List (Str × Str)) (f:FuncId) (a b:List AV) (p:Str × Str→Bool) (hl:l.length≤140737488355328) (ha:persL a=true) (hb:persL b=true) (hw:∀ k,k < l.length→CT f (a++[elB (l.getD k ([],[]))]++b) (.b (p (l.getD k ([],[]))))): CT 142 [avb l,.fn f a b] (.b (l.any p)):=by
 refine aQ mixed Tryz.func142 g0 ?_
 · skip
   refine bI (bHb l f a b p hl ha hb hw) ?_ ?_
   · exact zv (zA2 ha hb)
   · refine zg ?_
     refine aP ?_ (by rfl)
     rw [pU]
theorem bHj (l:List (LOp)) (f:FuncId) (a b:List AV) (p:LOp→Bool) (hl:l.length≤140737488355328) (ha:persL a=true) (hb:persL b=true) (hw:∀ k,k < l.length→CT f (a++[elO (l.getD k default)]++b) (.b (p (l.getD k default)))): CT 144 [avo l,.fn f a b] (.b (l.any p)):=by
 refine aQ mixed Tryz.func144 g0 ?_
 · skip
   refine bI (bHa l f a b p hl ha hb hw) ?_ ?_
   · exact zv (zA2 ha hb)
   · refine zg ?_
     refine aP ?_ (by rfl)
     rw [pU]
theorem bGz (l:List (Int)) (f:FuncId) (a b:List AV) (p:Int→Bool) (hl:l.length≤140737488355328) (ha:persL a=true) (hb:persL b=true) (hw:∀ k,k < l.length→CT f (a++[.i .i64 (l.getD k 0)]++b) (.b (p (l.getD k 0)))): CT 96 [avi l,.fn f a b] (.b (l.any p)):=by
 refine aQ mixed Tryz.func96 g0 ?_
 · skip
   refine bI (bGw l f a b p hl ha hb hw) ?_ ?_
   · exact zv (zA2 ha hb)
   · refine zg ?_
     refine aP ?_ (by rfl)
     rw [pU]

theorem bHk (x:Str × Str) (f:FuncId) (a b:List AV) (p:Bool) (ha:persL a=true) (hb:persL b=true) (hw:CT f (a++[elB x]++b) (.b p)): CT 143 [elB x,.box [.fn f a b] 0] (.b (!p)):=by
 refine aQ mixed Tryz.func143 g0 ?_
 · skip
   refine bI hw ?_ ?_
   · exact zv (zA2 @bF.{0,0} (zA2 (fun h=>nG (h:=h) ha) (fun h=>nG (h:=h) hb)))
   · refine zg ?_
     refine aP ?_ (by rfl)
     rfl
theorem bHi (x:LOp) (f:FuncId) (a b:List AV) (p:Bool) (ha:persL a=true) (hb:persL b=true) (hw:CT f (a++[elO x]++b) (.b p)): CT 145 [elO x,.box [.fn f a b] 0] (.b (!p)):=by
 refine aQ mixed Tryz.func145 g0 ?_
 · skip
   refine bI hw ?_ ?_
   · exact zv (zA2 @bF.{0,0} (zA2 (fun h=>nG (h:=h) ha) (fun h=>nG (h:=h) hb)))
   · refine zg ?_
     refine aP ?_ (by rfl)
     rfl
theorem bGy (x:Int) (f:FuncId) (a b:List AV) (p:Bool) (ha:persL a=true) (hb:persL b=true) (hw:CT f (a++[.i .i64 x]++b) (.b p)): CT 197 [.i .i64 x,.box [.fn f a b] 0] (.b (!p)):=by
 refine aQ mixed Tryz.func197 g0 ?_
 · skip
   refine bI hw ?_ ?_
   · exact zv (zA2 @bF.{0,0} (zA2 (fun h=>nG (h:=h) ha) (fun h=>nG (h:=h) hb)))
   · refine zg ?_
     refine aP ?_ (by rfl)
     rfl

theorem bMg (l:List (Str × Str)) (f:FuncId) (a b:List AV) (p:Str × Str→Bool) (hl:l.length≤140737488355328) (ha:persL a=true) (hb:persL b=true) (hw:∀ k,k < l.length→CT f (a++[elB (l.getD k ([],[]))]++b) (.b (p (l.getD k ([],[]))))): CT 88 [avb l,.fn f a b] (.b (l.all p)):=by
 refine aQ mixed Tryz.func88 g0 ?_
 · skip
   refine bI (bHl l 143 [] [.box [.fn f a b] 0] (fun x => !p x) hl rfl (by simp [persL,pers,ha,hb]) (fun k hk=>bHk _ f a b _ ha hb (hw k hk))) ?_ ?_
   · exact zv (zA2 ha hb)
   · refine zh (zA2 ha hb) ?_
     refine aP ?_ (by rfl)
     rw [oS]
theorem bFd (l:List (LOp)) (f:FuncId) (a b:List AV) (p:LOp→Bool) (hl:l.length≤140737488355328) (ha:persL a=true) (hb:persL b=true) (hw:∀ k,k < l.length→CT f (a++[elO (l.getD k default)]++b) (.b (p (l.getD k default)))): CT 91 [avo l,.fn f a b] (.b (l.all p)):=by
 refine aQ mixed Tryz.func91 g0 ?_
 · skip
   refine bI (bHj l 145 [] [.box [.fn f a b] 0] (fun x => !p x) hl rfl (by simp [persL,pers,ha,hb]) (fun k hk=>bHi _ f a b _ ha hb (hw k hk))) ?_ ?_
   · exact zv (zA2 ha hb)
   · refine zh (zA2 ha hb) ?_
     refine aP ?_ (by rfl)
     rw [oS]
theorem bHg (l:List (Int)) (f:FuncId) (a b:List AV) (p:Int→Bool) (hl:l.length≤140737488355328) (ha:persL a=true) (hb:persL b=true) (hw:∀ k,k < l.length→CT f (a++[.i .i64 (l.getD k 0)]++b) (.b (p (l.getD k 0)))): CT 149 [avi l,.fn f a b] (.b (l.all p)):=by
 refine aQ mixed Tryz.func149 g0 ?_
 · skip
   refine bI (bGz l 197 [] [.box [.fn f a b] 0] (fun x => !p x) hl rfl (by simp [persL,pers,ha,hb]) (fun k hk=>bGy _ f a b _ ha hb (hw k hk))) ?_ ?_
   · exact zv (zA2 ha hb)
   · refine zh (zA2 ha hb) ?_
     refine aP ?_ (by rfl)
     rw [oS]

theorem sA {α:Type} [DecidableEq α] {P:Program} {T:TypeId} {el:α→AV} (hT:∀ x y,aEq P T (el x) (el y)=some (decide (x=y))) {x:α}:∀ (l:List α),eE P T (el x) (l.map el)=some (l.findIdx? fun y=>decide (x=y))
 | []=>rfl
 | y::l=>by
   simp only [aO,eE,hT,sA hT l,eS]
   cases h:decide (x=y) <;> simp
theorem bNn (x:Str × Str) (l:List (Str × Str)):eE Tryz.prog 122 (elB x) (l.map elB)=some (l.findIdx? fun y=>decide (x=y)):=sA (fun x y=>by
 simp only [elB,dP,aEq,bKo,gO,jM,un9,aA]
 rw [kA]; simp [Prod.ext_iff]) l
theorem bNm (x:Int) (l:List Int):eE Tryz.prog 3 (.i .i64 x) (l.map (.i .i64))=some (l.findIdx? fun y=>decide (x=y)):=sA (fun x y=>by
 simp [aEq,jM,un3]) l
theorem mF {α:Type} [BEq α] [LawfulBEq α] [DecidableEq α] {x:α} {l:List α} (h:l.contains x=false):(l.findIdx? fun y=>decide (x=y))=none:=by
 rw [eM]
 intro y hy
 have:x ∉ l:=by simpa using h
 simp only [decide_eq_false_iff_not]
 exact fun he=>this (he ▸ hy)
theorem vP {α:Type} [BEq α] [LawfulBEq α] [DecidableEq α] {x:α} {l:List α} (h:l.contains x=true):∃ i,i < l.length∧(l.findIdx? fun y=>decide (x=y))=some i:=by
 cases hf:l.findIdx? fun y=>decide (x=y) with
 | none=>
   rw [eM] at hf
   have hm:x ∈ l:=by simpa using h
   have:=hf x hm
   simp at this
 | some i=>
   rw [eR] at hf
   exact ⟨i,hf.1,rfl⟩
theorem pO {α:Type} [BEq α] [LawfulBEq α] [DecidableEq α] {l:List α} {k:Nat} {d:α} (hn:l.Nodup) (hk:k < l.length):(l.take k).contains (l.getD k d)=false:=by
 have:l.getD k d ∉ l.take k:=by
   intro hm
   obtain ⟨j,hj,he⟩:=eC.1 hm
   have:=(fK.1 hn) j k (by simp at hj; omega) hk (by simp at hj; omega)
   simp [List.getD,hk] at he
   exact this he
 simpa using this
theorem R6 {α:Type} [BEq α] [LawfulBEq α] [DecidableEq α] {l:List α} {d:α} (h:∀ j,j < l.length→(l.take j).contains (l.getD j d)=false):l.Nodup:=by
 refine fK.2 (fun i j hi hj hij he=>?_)
 have:=h j hj
 have hm:l.getD j d ∈ l.take j:=by
   rw [eC]
   exact ⟨i,by simp; omega,by simp [List.getD,hj,he]⟩
 have h2:(l.take j).contains (l.getD j d)=true:=by simpa using hm
 rw [h2] at this; cases this

theorem bMi (l:List (Str × Str)) (hl:l.length≤140737488355328): CT 80 [avb l] (.b (decide l.Nodup)):=by
 refine aQ mixed Tryz.func80 g0 ?_
 · skip
   refine jW (fun (k:Nat)=>[.k,.k,.j,.k,.k,.j,.k,.k,.k,.v (.i .i64 k),.j,.j,.j,.j,.j,.j,.j,.j,.j]) (fun k=>[.map false ((l.take k).map elB) (List.replicate k (.b true))]) (fun k=>k≤l.length∧∀ j,j < k→(l.take j).contains (l.getD j ([],[]))=false) (fun k=>l.length - k) (0) _ ⟨aT _,fun j h=>by omega⟩ rfl (by simp [iL]) ?_
   rintro k g j ⟨hk,ha⟩
   refine zg ?_
   (refine zs0 ?_; repeat' first | exact trivial | refine zJ ?_ ?_ | refine zH fun hc=>?_)
   · by_cases hx:(l.take k).contains (l.getD k ([],[]))=true
     · obtain ⟨i,hi,hf⟩:=vP hx
       have hi':i < k:=by simp at hi; omega
       have hk2:=bNn (l.getD k ([],[])) (l.take k)
       simp only [elB,dP] at hk2
       simp -implicitDefEqProofs (disch:=omega) only [kE,hk2,hf,X8 hi',go_sem,simprocAttr]
       refine aP ?_ (by rfl)
       rw [zf (fun hn=>by rw [pO hn (by omega)] at hx; cases hx)]
     · have hx:=gV.2 hx
       have hk2:=bNn (l.getD k ([],[])) (l.take k)
       simp only [elB,dP] at hk2
       refine zh (zA2 @kE.eq_1 (zA2 hk2 (mF hx))) ?_
       refine ⟨k+1,_,⟨by omega,dS ha hx⟩,by omega,congr (congrArg List.cons ?_) rfl,by simp⟩
       rw [fZ (d:=([],[])) (by omega),bF,aGz]; rfl
   · refine aP ?_ (by rfl)
     have h1:k=l.length:=by omega
     rw [zt (R6 (h1 ▸ ha))]
theorem bHf (l:List Int) (hl:l.length≤140737488355328): CT 150 [avi l] (.b (decide l.Nodup)):=by
 refine aQ mixed Tryz.func150 g0 ?_
 · skip
   refine dD (fun (k:Nat)=>[.k,.k,.j,.k,.k,.j,.k,.k,.k,.v (.i .i64 k),.j,.j,.j,.j,.j,.j,.j,.j,.j]) (fun k=>[.map false ((l.take k).map (.i .i64)) (List.replicate k (.b true))]) (fun k=>k≤l.length∧∀ j,j < k→(l.take j).contains (l.getD j 0)=false) (fun k=>l.length - k) (0) ⟨aT _,fun j h=>by omega⟩ rfl (by simp [iL]) ?_
   rintro k j ⟨hk,ha⟩
   refine zg ?_
   (refine zs0 ?_; repeat' first | exact trivial | refine zJ ?_ ?_ | refine zH fun hc=>?_)
   · by_cases hx:(l.take k).contains (l.getD k 0)=true
     · obtain ⟨i,hi,hf⟩:=vP hx
       have hi':i < k:=by simp at hi; omega
       simp -implicitDefEqProofs (disch:=omega) only [kE,bNm,hf,X8 hi',go_sem,simprocAttr]
       refine aP ?_ (by rfl)
       rw [zf (fun hn=>by rw [pO hn (by omega)] at hx; cases hx)]
     · have hx:=gV.2 hx
       simp -implicitDefEqProofs (disch:=omega) only [kE,bNm,mF hx,go_sem,simprocAttr]
       refine ⟨k+1,⟨by omega,dS ha hx⟩,by omega,?_,by simp⟩
       rw [fZ (d:=0) (by omega),bF,aGz]; rfl
   · refine aP ?_ (by rfl)
     have h1:k=l.length:=by omega
     rw [zt (R6 (h1 ▸ ha))]

structure OkO (o:LOp):Prop where
 name:o.name.length≤140737488355328
 args:o.args.length≤140737488355328
 argsS:∀ x ∈ o.args,x.length≤140737488355328
 sort:o.sort.length≤140737488355328
 pieces:o.pieces.length≤140737488355328
 piecesS:∀ x ∈ o.pieces,x.1.length≤140737488355328∧x.2.length≤140737488355328
 strict:o.strict.length≤140737488355328
 piecesT:o.pieces.length≤4398046511104
 argsT:o.args.length≤8796093022208
 strictT:o.strict.length≤17592186044416
structure OkS (s:dF):Prop where
 sorts:s.sorts.length≤140737488355328
 sortsS:∀ x ∈ s.sorts,x.length≤140737488355328
 below:s.below.length≤140737488355328
 belowS:∀ x ∈ s.below,x.1.length≤140737488355328∧x.2.length≤140737488355328
 ops:s.ops.length≤140737488355328
 opsO:∀ x ∈ s.ops,OkO x
 funs:s.funs.length≤140737488355328
 funsO:∀ x ∈ s.funs,OkO x
 values:s.values.length≤140737488355328
 opsT:s.ops.length≤1172812402961
 funsT:s.funs.length≤1172812402961
 valuesS:∀ x ∈ s.values,x.length≤140737488355328
theorem cC {α:Type} {l:List α} {d:α} {k:Nat} (h:k < l.length):l.getD k d ∈ l:=by simp [List.getD,h]

end Go.Proofs.YtifefbhllfdmlaaGreatDoor

/-
  The types of the program, as far as its code asks; no condition.
-/
import Derived.Test.YtdjcggcjlphdoaaGreatDoorProg
import Derived.Test.YtdjcggcjlphdoaaGreatDoorVoP56
import Derived.Lib.Space
import Derived.Lib.ItoaNum
import Derived.Test.YtdjcggcjlphdoaaGreatDoorSoP51
set_option linter.unusedVariables false
set_option maxRecDepth 100000
set_option linter.unusedSimpArgs false
set_option maxHeartbeats 4000000
namespace Go.Proofs.YtdjcggcjlphdoaaGreatDoor
open Go Go.Vo
open Nat (reduceAdd reduceSub reduceMul reduceLeDiff reduceLT reduceEqDiff)
open Int (reduceNeg)
theorem cI:Tryz.prog.follows .mixedOrders=true:=by kernel_rfl
def zV:List AV:=Lib.asciiSpaceTab.map (.i .u8)
def aJg:List AV:=Lib.pow10Tab.map (.i .u64)
def G0:Glob:=fun g=>if g=0 then some (.box zV 0)else if g=2 then some (.box aJg 0)else none
theorem g0:pK G0:=fun k a h=>by
 unfold G0 at h;split at h
 ·cases h;simp only[pers,zV,rV]
 ·split at h
  ·cases h;simp only[pers,aJg,rV]
  ·cases h
@[go_sem] theorem az3:lG Tryz.prog 3=none:=by kernel_rfl
@[go_sem] theorem az4:lG Tryz.prog 4=none:=by kernel_rfl
@[go_sem] theorem az9:lG Tryz.prog 9=none:=by kernel_rfl
@[go_sem] theorem cHw:lG Tryz.prog 26=none:=by kernel_rfl
@[go_sem] theorem cHv:lG Tryz.prog 30=none:=by kernel_rfl
@[go_sem] theorem cHu:lG Tryz.prog 34=none:=by kernel_rfl
@[go_sem] theorem cHt:lG Tryz.prog 38=none:=by kernel_rfl
@[go_sem] theorem cHs:lG Tryz.prog 62=none:=by kernel_rfl
@[go_sem] theorem cHr:lG Tryz.prog 75=none:=by kernel_rfl
@[go_sem] theorem cHq:lG Tryz.prog 85=none:=by kernel_rfl
@[go_sem] theorem cHp:lG Tryz.prog 89=none:=by kernel_rfl
@[go_sem] theorem cHo:lG Tryz.prog 97=none:=by kernel_rfl
@[go_sem] theorem cGb:lG Tryz.prog 101=none:=by kernel_rfl
@[go_sem] theorem cGa:lG Tryz.prog 114=none:=by kernel_rfl
@[go_sem] theorem cFz:lG Tryz.prog 117=none:=by kernel_rfl
@[go_sem] theorem cFy:lG Tryz.prog 123=none:=by kernel_rfl
@[go_sem] theorem cFx:lG Tryz.prog 125=none:=by kernel_rfl
@[go_sem] theorem cFw:lG Tryz.prog 129=none:=by kernel_rfl
@[go_sem] theorem cFv:lG Tryz.prog 132=none:=by kernel_rfl
@[go_sem] theorem cFu:lG Tryz.prog 139=none:=by kernel_rfl
@[go_sem] theorem cFt:lG Tryz.prog 150=none:=by kernel_rfl
@[go_sem] theorem cFs:lG Tryz.prog 174=none:=by kernel_rfl
@[go_sem] theorem cFr:lG Tryz.prog 194=none:=by kernel_rfl
@[go_sem] theorem cFq:lG Tryz.prog 224=none:=by kernel_rfl
@[go_sem] theorem cFp:lG Tryz.prog 249=none:=by kernel_rfl
@[go_sem] theorem sz3:lD Tryz.prog 3=some 1:=by kernel_rfl
@[go_sem] theorem ag3:gU Tryz.prog 3=some false:=by kernel_rfl
@[go_sem] theorem zo3:zeroOf Tryz.prog 3=some [.i .i64 0]:=by kernel_rfl
@[go_sem] theorem un3:Program.underlying Tryz.prog 3=some (.int .i64):=by kernel_rfl
@[go_sem] theorem sz4:lD Tryz.prog 4=some 1:=by kernel_rfl
@[go_sem] theorem ag4:gU Tryz.prog 4=some false:=by kernel_rfl
@[go_sem] theorem by4:aAj Tryz.prog 4=some 1:=by kernel_rfl
@[go_sem] theorem zo4:zeroOf Tryz.prog 4=some [.b false]:=by kernel_rfl
@[go_sem] theorem zv4:rK Tryz.prog 4=some (.b false):=by kernel_rfl
@[go_sem] theorem un4:Program.underlying Tryz.prog 4=some .bool:=by kernel_rfl
@[go_sem] theorem sz9:lD Tryz.prog 9=some 1:=by kernel_rfl
@[go_sem] theorem ag9:gU Tryz.prog 9=some false:=by kernel_rfl
@[go_sem] theorem by9:aAj Tryz.prog 9=some 16:=by kernel_rfl
@[go_sem] theorem zo9:zeroOf Tryz.prog 9=some [.s []]:=by kernel_rfl
@[go_sem] theorem zv9:rK Tryz.prog 9=some (.s []):=by kernel_rfl
@[go_sem] theorem un9:Program.underlying Tryz.prog 9=some .string:=by kernel_rfl
@[go_sem] theorem cHh:lD Tryz.prog 22=some 1:=by kernel_rfl
@[go_sem] theorem cIi:gU Tryz.prog 22=some false:=by kernel_rfl
@[go_sem] theorem cHb:zeroOf Tryz.prog 22=some [.e0]:=by kernel_rfl
@[go_sem] theorem cGw:rK Tryz.prog 22=some (.e0):=by kernel_rfl
@[go_sem] theorem cCz:Program.underlying Tryz.prog 22=some (.slice 9):=by kernel_rfl
@[go_sem] theorem bLn:fA Tryz.prog 22=some 9:=by kernel_rfl
@[go_sem] theorem cIh:gU Tryz.prog 23=some false:=by kernel_rfl
@[go_sem] theorem cHe:Program.underlying Tryz.prog 23=some (.slice 117):=by kernel_rfl
@[go_sem] theorem cIg:gU Tryz.prog 24=some false:=by kernel_rfl
@[go_sem] theorem cHd:Program.underlying Tryz.prog 24=some (.slice 114):=by kernel_rfl
@[go_sem] theorem cHn:fA Tryz.prog 24=some 114:=by kernel_rfl
@[go_sem] theorem cHg:lD Tryz.prog 26=some 5:=by kernel_rfl
@[go_sem] theorem cIf:gU Tryz.prog 26=some true:=by kernel_rfl
@[go_sem] theorem cBz:dR Tryz.prog 26 0=some (0,some 1):=by kernel_rfl
@[go_sem] theorem cBy:dR Tryz.prog 26 1=some (1,some 1):=by kernel_rfl
@[go_sem] theorem cBx:dR Tryz.prog 26 2=some (2,some 1):=by kernel_rfl
@[go_sem] theorem cBw:dR Tryz.prog 26 3=some (3,some 1):=by kernel_rfl
@[go_sem] theorem cBv:dR Tryz.prog 26 4=some (4,some 1):=by kernel_rfl
@[go_sem] theorem cIe:gU Tryz.prog 27=some false:=by kernel_rfl
@[go_sem] theorem cHf:lD Tryz.prog 28=some 1:=by kernel_rfl
@[go_sem] theorem cId:gU Tryz.prog 28=some false:=by kernel_rfl
@[go_sem] theorem cHa:zeroOf Tryz.prog 28=some [.e0]:=by kernel_rfl
@[go_sem] theorem cCv:Program.underlying Tryz.prog 28=some (.slice 30):=by kernel_rfl
@[go_sem] theorem bQt:fA Tryz.prog 28=some 30:=by kernel_rfl
@[go_sem] theorem bOk:lD Tryz.prog 30=some 6:=by kernel_rfl
@[go_sem] theorem cIc:gU Tryz.prog 30=some true:=by kernel_rfl
@[go_sem] theorem bUs:aAj Tryz.prog 30=some 96:=by kernel_rfl
@[go_sem] theorem bNm:zeroOf Tryz.prog 30=some [.i .i64 0,.i .i64 0,.s [],.s [],.e0,.e0]:=by kernel_rfl
@[go_sem] theorem cGv:rK Tryz.prog 30=some (.agg [.i .i64 0,.i .i64 0,.s [],.s [],.e0,.e0]):=by kernel_rfl
@[go_sem] theorem cBu:dR Tryz.prog 30 0=some (0,some 1):=by kernel_rfl
@[go_sem] theorem cBt:dR Tryz.prog 30 1=some (1,some 1):=by kernel_rfl
@[go_sem] theorem cBs:dR Tryz.prog 30 2=some (2,some 1):=by kernel_rfl
@[go_sem] theorem cBr:dR Tryz.prog 30 3=some (3,some 1):=by kernel_rfl
@[go_sem] theorem cBq:dR Tryz.prog 30 4=some (4,some 1):=by kernel_rfl
@[go_sem] theorem cBp:dR Tryz.prog 30 5=some (5,some 1):=by kernel_rfl
@[go_sem] theorem cHl:iH Tryz.prog 30=some [(0,1),(1,1),(2,1),(3,1),(4,1),(5,1)]:=by kernel_rfl
@[go_sem] theorem cAj:Program.underlying Tryz.prog 31=some (.slice 62):=by kernel_rfl
@[go_sem] theorem cHm:fA Tryz.prog 31=some 62:=by kernel_rfl
@[go_sem] theorem aYa:lD Tryz.prog 32=some 1:=by kernel_rfl
@[go_sem] theorem cIb:gU Tryz.prog 32=some false:=by kernel_rfl
@[go_sem] theorem bCq:aAj Tryz.prog 32=some 24:=by kernel_rfl
@[go_sem] theorem aXo:zeroOf Tryz.prog 32=some [.e0]:=by kernel_rfl
@[go_sem] theorem bWm:Program.underlying Tryz.prog 32=some (.slice 62):=by kernel_rfl
@[go_sem] theorem cCa:fA Tryz.prog 32=some 62:=by kernel_rfl
@[go_sem] theorem cBo:dR Tryz.prog 34 0=some (0,some 6):=by kernel_rfl
@[go_sem] theorem cBn:dR Tryz.prog 34 1=some (6,some 6):=by kernel_rfl
@[go_sem] theorem cBm:dR Tryz.prog 34 2=some (12,some 1):=by kernel_rfl
@[go_sem] theorem cHc:Program.underlying Tryz.prog 37=some (.slice 32):=by kernel_rfl
@[go_sem] theorem bBg:fA Tryz.prog 37=some 32:=by kernel_rfl
@[go_sem] theorem cDl:lD Tryz.prog 38=some 1:=by kernel_rfl
@[go_sem] theorem cIa:gU Tryz.prog 38=some false:=by kernel_rfl
@[go_sem] theorem cGz:zeroOf Tryz.prog 38=some [.i .i64 0]:=by kernel_rfl
@[go_sem] theorem bVp:lD Tryz.prog 62=some 7:=by kernel_rfl
@[go_sem] theorem cHz:gU Tryz.prog 62=some true:=by kernel_rfl
@[go_sem] theorem cCe:aAj Tryz.prog 62=some 112:=by kernel_rfl
@[go_sem] theorem cAi:zeroOf Tryz.prog 62=some [.s [],.i .i64 0,.i .i64 0,.s [],.s [],.e0,.e0]:=by kernel_rfl
@[go_sem] theorem cBl:dR Tryz.prog 62 0=some (0,some 1):=by kernel_rfl
@[go_sem] theorem cBk:dR Tryz.prog 62 1=some (1,some 6):=by kernel_rfl
@[go_sem] theorem cHk:iH Tryz.prog 62=some [(0,1),(1,6)]:=by kernel_rfl
@[go_sem] theorem cHy:gU Tryz.prog 75=some false:=by kernel_rfl
@[go_sem] theorem cGy:zeroOf Tryz.prog 85=some [.e0,.e0,.e0,.e0,.e0,.b false]:=by kernel_rfl
@[go_sem] theorem cBj:dR Tryz.prog 85 0=some (0,some 5):=by kernel_rfl
@[go_sem] theorem cBi:dR Tryz.prog 85 1=some (5,some 1):=by kernel_rfl
@[go_sem] theorem cHj:iH Tryz.prog 85=some [(0,5),(5,1)]:=by kernel_rfl
@[go_sem] theorem cGx:zeroOf Tryz.prog 89=some [.p (.pointer Option.none),.e0,.b false,.b false]:=by kernel_rfl
@[go_sem] theorem cBh:dR Tryz.prog 89 0=some (0,some 1):=by kernel_rfl
@[go_sem] theorem cBg:dR Tryz.prog 89 1=some (1,some 1):=by kernel_rfl
@[go_sem] theorem cBf:dR Tryz.prog 89 2=some (2,some 1):=by kernel_rfl
@[go_sem] theorem cBe:dR Tryz.prog 89 3=some (3,some 1):=by kernel_rfl
@[go_sem] theorem cHi:iH Tryz.prog 89=some [(0,1),(1,1),(2,1),(3,1)]:=by kernel_rfl
@[go_sem] theorem cHx:gU Tryz.prog 97=some false:=by kernel_rfl
@[go_sem] theorem bYr:dR Tryz.prog 101 0=some (0,some 1):=by kernel_rfl
@[go_sem] theorem bOa:Program.underlying Tryz.prog 104=some (.map 9 30):=by kernel_rfl
@[go_sem] theorem cGs:gU Tryz.prog 110=some false:=by kernel_rfl
@[go_sem] theorem cDk:Program.underlying Tryz.prog 110=some (.slice 224):=by kernel_rfl
@[go_sem] theorem cGr:gU Tryz.prog 111=some false:=by kernel_rfl
@[go_sem] theorem cGq:gU Tryz.prog 112=some false:=by kernel_rfl
@[go_sem] theorem cDj:Program.underlying Tryz.prog 112=some (.slice 3):=by kernel_rfl
@[go_sem] theorem cFi:fA Tryz.prog 112=some 3:=by kernel_rfl
@[go_sem] theorem cDr:lD Tryz.prog 114=some 7:=by kernel_rfl
@[go_sem] theorem cGp:gU Tryz.prog 114=some true:=by kernel_rfl
@[go_sem] theorem cFo:aAj Tryz.prog 114=some 120:=by kernel_rfl
@[go_sem] theorem cCu:zeroOf Tryz.prog 114=some [.s [],.e0,.s [],.e0,.i .i64 0,.i .i64 0,.e0]:=by kernel_rfl
@[go_sem] theorem cCm:rK Tryz.prog 114=some (.agg [.s [],.e0,.s [],.e0,.i .i64 0,.i .i64 0,.e0]):=by kernel_rfl
@[go_sem] theorem bYq:dR Tryz.prog 114 0=some (0,some 1):=by kernel_rfl
@[go_sem] theorem bYp:dR Tryz.prog 114 1=some (1,some 1):=by kernel_rfl
@[go_sem] theorem bYo:dR Tryz.prog 114 2=some (2,some 1):=by kernel_rfl
@[go_sem] theorem bYn:dR Tryz.prog 114 3=some (3,some 1):=by kernel_rfl
@[go_sem] theorem bYm:dR Tryz.prog 114 4=some (4,some 1):=by kernel_rfl
@[go_sem] theorem bYl:dR Tryz.prog 114 5=some (5,some 1):=by kernel_rfl
@[go_sem] theorem bYk:dR Tryz.prog 114 6=some (6,some 1):=by kernel_rfl
@[go_sem] theorem cEh:iH Tryz.prog 114=some [(0,1),(1,1),(2,1),(3,1),(4,1),(5,1),(6,1)]:=by kernel_rfl
@[go_sem] theorem cDq:lD Tryz.prog 117=some 2:=by kernel_rfl
@[go_sem] theorem cGo:gU Tryz.prog 117=some true:=by kernel_rfl
@[go_sem] theorem cCt:zeroOf Tryz.prog 117=some [.s [],.s []]:=by kernel_rfl
@[go_sem] theorem bYj:dR Tryz.prog 117 0=some (0,some 1):=by kernel_rfl
@[go_sem] theorem bYi:dR Tryz.prog 117 1=some (1,some 1):=by kernel_rfl
@[go_sem] theorem bXk:kM Tryz.prog 117=some [9,9]:=by kernel_rfl
@[go_sem] theorem cGn:gU Tryz.prog 123=some false:=by kernel_rfl
@[go_sem] theorem cGm:gU Tryz.prog 125=some false:=by kernel_rfl
@[go_sem] theorem cGl:gU Tryz.prog 126=some false:=by kernel_rfl
@[go_sem] theorem cDi:Program.underlying Tryz.prog 126=some (.map 9 22):=by kernel_rfl
@[go_sem] theorem cGk:gU Tryz.prog 127=some false:=by kernel_rfl
@[go_sem] theorem cDh:Program.underlying Tryz.prog 127=some (.map 9 114):=by kernel_rfl
@[go_sem] theorem cCs:zeroOf Tryz.prog 129=some [.e0,.e0,.e0,.e0,.e0,.p (.map Option.none),.p (.map Option.none),.p (.map Option.none)]:=by kernel_rfl
@[go_sem] theorem bYh:dR Tryz.prog 129 0=some (0,some 5):=by kernel_rfl
@[go_sem] theorem bYg:dR Tryz.prog 129 1=some (5,some 1):=by kernel_rfl
@[go_sem] theorem bYf:dR Tryz.prog 129 2=some (6,some 1):=by kernel_rfl
@[go_sem] theorem bYe:dR Tryz.prog 129 3=some (7,some 1):=by kernel_rfl
@[go_sem] theorem cEg:iH Tryz.prog 129=some [(0,5),(5,1),(6,1),(7,1)]:=by kernel_rfl
@[go_sem] theorem cDp:lD Tryz.prog 132=some 1:=by kernel_rfl
@[go_sem] theorem cGj:gU Tryz.prog 132=some false:=by kernel_rfl
@[go_sem] theorem cCr:zeroOf Tryz.prog 132=some [.p (.map Option.none)]:=by kernel_rfl
@[go_sem] theorem cDg:Program.underlying Tryz.prog 132=some (.map 9 9):=by kernel_rfl
@[go_sem] theorem cCq:zeroOf Tryz.prog 138=some []:=by kernel_rfl
@[go_sem] theorem cEf:iH Tryz.prog 138=some []:=by kernel_rfl
@[go_sem] theorem cDo:lD Tryz.prog 139=some 1:=by kernel_rfl
@[go_sem] theorem cGi:gU Tryz.prog 139=some true:=by kernel_rfl
@[go_sem] theorem cCp:zeroOf Tryz.prog 139=some [.p (.pointer Option.none)]:=by kernel_rfl
@[go_sem] theorem bYd:dR Tryz.prog 139 0=some (0,some 1):=by kernel_rfl
@[go_sem] theorem cEe:iH Tryz.prog 139=some [(0,1)]:=by kernel_rfl
@[go_sem] theorem cDn:lD Tryz.prog 150=some 2:=by kernel_rfl
@[go_sem] theorem cCo:zeroOf Tryz.prog 150=some [.i .i64 0,.b false]:=by kernel_rfl
@[go_sem] theorem bYc:dR Tryz.prog 150 0=some (0,some 1):=by kernel_rfl
@[go_sem] theorem bYb:dR Tryz.prog 150 1=some (1,some 1):=by kernel_rfl
@[go_sem] theorem cEd:iH Tryz.prog 150=some [(0,1),(1,1)]:=by kernel_rfl
@[go_sem] theorem cGh:gU Tryz.prog 160=some false:=by kernel_rfl
@[go_sem] theorem cDf:Program.underlying Tryz.prog 160=some (.slice 4):=by kernel_rfl
@[go_sem] theorem cFh:fA Tryz.prog 160=some 4:=by kernel_rfl
@[go_sem] theorem cDe:Program.underlying Tryz.prog 168=some (.map 117 4):=by kernel_rfl
@[go_sem] theorem cDd:Program.underlying Tryz.prog 169=some (.map 9 4):=by kernel_rfl
@[go_sem] theorem cGg:gU Tryz.prog 174=some false:=by kernel_rfl
@[go_sem] theorem cDc:Program.underlying Tryz.prog 177=some (.slice 22):=by kernel_rfl
@[go_sem] theorem cFg:fA Tryz.prog 177=some 22:=by kernel_rfl
@[go_sem] theorem cDb:Program.underlying Tryz.prog 192=some (.slice 194):=by kernel_rfl
@[go_sem] theorem bQu:fA Tryz.prog 192=some 194:=by kernel_rfl
@[go_sem] theorem bOl:lD Tryz.prog 194=some 2:=by kernel_rfl
@[go_sem] theorem cGf:gU Tryz.prog 194=some true:=by kernel_rfl
@[go_sem] theorem bUt:aAj Tryz.prog 194=some 48:=by kernel_rfl
@[go_sem] theorem bNn:zeroOf Tryz.prog 194=some [.e0,.e0]:=by kernel_rfl
@[go_sem] theorem bYa:dR Tryz.prog 194 0=some (0,some 1):=by kernel_rfl
@[go_sem] theorem bXz:dR Tryz.prog 194 1=some (1,some 1):=by kernel_rfl
@[go_sem] theorem cEc:iH Tryz.prog 194=some [(0,1),(1,1)]:=by kernel_rfl
@[go_sem] theorem cDa:Program.underlying Tryz.prog 197=some (.slice 28):=by kernel_rfl
@[go_sem] theorem cFf:fA Tryz.prog 197=some 28:=by kernel_rfl
@[go_sem] theorem cCy:Program.underlying Tryz.prog 222=some (.map 3 4):=by kernel_rfl
@[go_sem] theorem cDm:lD Tryz.prog 224=some 2:=by kernel_rfl
@[go_sem] theorem cGe:gU Tryz.prog 224=some true:=by kernel_rfl
@[go_sem] theorem cCn:zeroOf Tryz.prog 224=some [.s [],.s []]:=by kernel_rfl
@[go_sem] theorem bXy:dR Tryz.prog 224 0=some (0,some 1):=by kernel_rfl
@[go_sem] theorem bXx:dR Tryz.prog 224 1=some (1,some 1):=by kernel_rfl
@[go_sem] theorem cCx:Program.underlying Tryz.prog 237=some (.int .u64):=by kernel_rfl
@[go_sem] theorem cCw:Program.underlying Tryz.prog 247=some (.slice 249):=by kernel_rfl
@[go_sem] theorem bBh:fA Tryz.prog 247=some 249:=by kernel_rfl
@[go_sem] theorem aYb:lD Tryz.prog 249=some 2:=by kernel_rfl
@[go_sem] theorem cGd:gU Tryz.prog 249=some true:=by kernel_rfl
@[go_sem] theorem bCr:aAj Tryz.prog 249=some 48:=by kernel_rfl
@[go_sem] theorem aXp:zeroOf Tryz.prog 249=some [.e0,.e0]:=by kernel_rfl
@[go_sem] theorem bXw:dR Tryz.prog 249 0=some (0,some 1):=by kernel_rfl
@[go_sem] theorem bXv:dR Tryz.prog 249 1=some (1,some 1):=by kernel_rfl
@[go_sem] theorem cEb:iH Tryz.prog 249=some [(0,1),(1,1)]:=by kernel_rfl
end Go.Proofs.YtdjcggcjlphdoaaGreatDoor
namespace Go.Vo
theorem zdA:(∀l,avs l=.sl (l.map .s) l.length)∧(∀l,avb l=.sl (l.flatMap bZ) l.length)∧(∀l,avi l=.sl (l.map (.i .i64)) l.length)∧(∀l,avo l=.sl (l.flatMap bG) l.length)∧(∀s,bX s=[avs s.sorts,avb s.below,avo s.ops,avo s.funs,avs s.values])∧(∀o,bG o=[.s o.name,avs o.args,.s o.sort,avb o.pieces,.i .i64 o.prec,.i .i64 o.assoc,avi o.strict])∧(∀b,bZ b=[.s b.1,.s b.2]):=⟨fun _=>rfl,fun _=>rfl,fun _=>rfl,fun _=>rfl,fun _=>rfl,fun _=>rfl,fun _=>rfl⟩
theorem cE{P:Program}{G:Glob}{dr:Option DR}{d:Option Nat}{os:List fK}{K:List AV→List AObj→Prop}{env:List AV}{h:List AObj}{f:FuncId}{A A':List AV}{r:AV}(s:Ctr P G f A' r)
 (k:dE P G dr os K (hJ env d (mat r (gB r h A)).1) (mat r (gB r h A)).2) (hA:A.map (gJ dep h)=A':=by(simp -implicitDefEqProofs (disch:=omega) only[zdA,go_sem,↓reduceIte,reduceAdd,reduceSub,reduceMul,reduceLeDiff,reduceLT,reduceEqDiff,reduceNeg,Nat.reduceBEq];done)):wQ P G dr f A d os K env h:=bM s hA k
theorem zs1{K1:Prop}{p q:Prop}(k1:K1)(h:q)(e:K1→Cv q p:=by
 intro k1;repeat' first|with_reducible apply vT|with_reducible apply vF|with_reducible apply vC|((first|((with_reducible apply vE);(focus exact k1);(focus(simp -implicitDefEqProofs (disch:=omega) only[zdA,go_sem,simprocAttr];done)))|((with_reducible apply vE);(focus(apply k1<;>omega));(focus(simp -implicitDefEqProofs (disch:=omega) only[zdA,go_sem,simprocAttr];done)))|((with_reducible apply vR);focus exact k1 ..));simp -implicitDefEqProofs (disch:=omega) only[go_sem,simprocAttr])|((with_reducible apply vA);focus omega)|((with_reducible apply vI);(focus(intro hr;(try simp only[zdz]at hr);exact hr));intro hr;have hc:=hr;(try simp only[zdz]at hc);simp -implicitDefEqProofs (disch:=omega) only[hr,go_sem,simprocAttr];(try clear hr))
 any_goals exact vS):p:=(e k1).1 h
theorem zx1{K1:Prop}{x:Prop}{p q:Prop}(X:x)(k1:K1)(h:q)(e:x→K1→Cv q p:=by
 intro X k1;repeat' first|with_reducible apply vT|with_reducible apply vF|with_reducible apply vC|((first|((with_reducible apply vE);(focus exact k1);(focus(simp -implicitDefEqProofs (disch:=omega) only[X,zdA,go_sem,simprocAttr];done)))|((with_reducible apply vE);(focus(apply k1<;>omega));(focus(simp -implicitDefEqProofs (disch:=omega) only[X,zdA,go_sem,simprocAttr];done)))|((with_reducible apply vR);focus exact k1 ..));simp -implicitDefEqProofs (disch:=omega) only[X,go_sem,simprocAttr])|((with_reducible apply vA);focus omega)|((with_reducible apply vI);(focus(intro hr;(try simp only[zdz]at hr);exact hr));intro hr;have hc:=hr;(try simp only[zdz]at hc);simp -implicitDefEqProofs (disch:=omega) only[hr,X,go_sem,simprocAttr];(try clear hr))
 any_goals exact vS):p:=(e X k1).1 h
theorem zs2{K1:Prop}{K2:Prop}{p q:Prop}(k1:K1)(k2:K2)(h:q)(e:K1→K2→Cv q p:=by
 intro k1 k2;repeat' first|with_reducible apply vT|with_reducible apply vF|with_reducible apply vC|((first|((with_reducible apply vE);(focus exact k1);(focus(simp -implicitDefEqProofs (disch:=omega) only[zdA,go_sem,simprocAttr];done)))|((with_reducible apply vE);(focus(apply k1<;>omega));(focus(simp -implicitDefEqProofs (disch:=omega) only[zdA,go_sem,simprocAttr];done)))|((with_reducible apply vR);focus exact k1 ..)|((with_reducible apply vE);(focus exact k2);(focus(simp -implicitDefEqProofs (disch:=omega) only[zdA,go_sem,simprocAttr];done)))|((with_reducible apply vE);(focus(apply k2<;>omega));(focus(simp -implicitDefEqProofs (disch:=omega) only[zdA,go_sem,simprocAttr];done)))|((with_reducible apply vR);focus exact k2 ..));simp -implicitDefEqProofs (disch:=omega) only[go_sem,simprocAttr])|((with_reducible apply vA);focus omega)|((with_reducible apply vI);(focus(intro hr;(try simp only[zdz]at hr);exact hr));intro hr;have hc:=hr;(try simp only[zdz]at hc);simp -implicitDefEqProofs (disch:=omega) only[hr,go_sem,simprocAttr];(try clear hr))
 any_goals exact vS):p:=(e k1 k2).1 h
theorem zx2{K1:Prop}{K2:Prop}{x:Prop}{p q:Prop}(X:x)(k1:K1)(k2:K2)(h:q)(e:x→K1→K2→Cv q p:=by
 intro X k1 k2;repeat' first|with_reducible apply vT|with_reducible apply vF|with_reducible apply vC|((first|((with_reducible apply vE);(focus exact k1);(focus(simp -implicitDefEqProofs (disch:=omega) only[X,zdA,go_sem,simprocAttr];done)))|((with_reducible apply vE);(focus(apply k1<;>omega));(focus(simp -implicitDefEqProofs (disch:=omega) only[X,zdA,go_sem,simprocAttr];done)))|((with_reducible apply vR);focus exact k1 ..)|((with_reducible apply vE);(focus exact k2);(focus(simp -implicitDefEqProofs (disch:=omega) only[X,zdA,go_sem,simprocAttr];done)))|((with_reducible apply vE);(focus(apply k2<;>omega));(focus(simp -implicitDefEqProofs (disch:=omega) only[X,zdA,go_sem,simprocAttr];done)))|((with_reducible apply vR);focus exact k2 ..));simp -implicitDefEqProofs (disch:=omega) only[X,go_sem,simprocAttr])|((with_reducible apply vA);focus omega)|((with_reducible apply vI);(focus(intro hr;(try simp only[zdz]at hr);exact hr));intro hr;have hc:=hr;(try simp only[zdz]at hc);simp -implicitDefEqProofs (disch:=omega) only[hr,X,go_sem,simprocAttr];(try clear hr))
 any_goals exact vS):p:=(e X k1 k2).1 h
theorem zs3{K1:Prop}{K2:Prop}{K3:Prop}{p q:Prop}(k1:K1)(k2:K2)(k3:K3)(h:q)(e:K1→K2→K3→Cv q p:=by
 intro k1 k2 k3;repeat' first|with_reducible apply vT|with_reducible apply vF|with_reducible apply vC|((first|((with_reducible apply vE);(focus exact k1);(focus(simp -implicitDefEqProofs (disch:=omega) only[zdA,go_sem,simprocAttr];done)))|((with_reducible apply vE);(focus(apply k1<;>omega));(focus(simp -implicitDefEqProofs (disch:=omega) only[zdA,go_sem,simprocAttr];done)))|((with_reducible apply vR);focus exact k1 ..)|((with_reducible apply vE);(focus exact k2);(focus(simp -implicitDefEqProofs (disch:=omega) only[zdA,go_sem,simprocAttr];done)))|((with_reducible apply vE);(focus(apply k2<;>omega));(focus(simp -implicitDefEqProofs (disch:=omega) only[zdA,go_sem,simprocAttr];done)))|((with_reducible apply vR);focus exact k2 ..)|((with_reducible apply vE);(focus exact k3);(focus(simp -implicitDefEqProofs (disch:=omega) only[zdA,go_sem,simprocAttr];done)))|((with_reducible apply vE);(focus(apply k3<;>omega));(focus(simp -implicitDefEqProofs (disch:=omega) only[zdA,go_sem,simprocAttr];done)))|((with_reducible apply vR);focus exact k3 ..));simp -implicitDefEqProofs (disch:=omega) only[go_sem,simprocAttr])|((with_reducible apply vA);focus omega)|((with_reducible apply vI);(focus(intro hr;(try simp only[zdz]at hr);exact hr));intro hr;have hc:=hr;(try simp only[zdz]at hc);simp -implicitDefEqProofs (disch:=omega) only[hr,go_sem,simprocAttr];(try clear hr))
 any_goals exact vS):p:=(e k1 k2 k3).1 h
theorem zx3{K1:Prop}{K2:Prop}{K3:Prop}{x:Prop}{p q:Prop}(X:x)(k1:K1)(k2:K2)(k3:K3)(h:q)(e:x→K1→K2→K3→Cv q p:=by
 intro X k1 k2 k3;repeat' first|with_reducible apply vT|with_reducible apply vF|with_reducible apply vC|((first|((with_reducible apply vE);(focus exact k1);(focus(simp -implicitDefEqProofs (disch:=omega) only[X,zdA,go_sem,simprocAttr];done)))|((with_reducible apply vE);(focus(apply k1<;>omega));(focus(simp -implicitDefEqProofs (disch:=omega) only[X,zdA,go_sem,simprocAttr];done)))|((with_reducible apply vR);focus exact k1 ..)|((with_reducible apply vE);(focus exact k2);(focus(simp -implicitDefEqProofs (disch:=omega) only[X,zdA,go_sem,simprocAttr];done)))|((with_reducible apply vE);(focus(apply k2<;>omega));(focus(simp -implicitDefEqProofs (disch:=omega) only[X,zdA,go_sem,simprocAttr];done)))|((with_reducible apply vR);focus exact k2 ..)|((with_reducible apply vE);(focus exact k3);(focus(simp -implicitDefEqProofs (disch:=omega) only[X,zdA,go_sem,simprocAttr];done)))|((with_reducible apply vE);(focus(apply k3<;>omega));(focus(simp -implicitDefEqProofs (disch:=omega) only[X,zdA,go_sem,simprocAttr];done)))|((with_reducible apply vR);focus exact k3 ..));simp -implicitDefEqProofs (disch:=omega) only[X,go_sem,simprocAttr])|((with_reducible apply vA);focus omega)|((with_reducible apply vI);(focus(intro hr;(try simp only[zdz]at hr);exact hr));intro hr;have hc:=hr;(try simp only[zdz]at hc);simp -implicitDefEqProofs (disch:=omega) only[hr,X,go_sem,simprocAttr];(try clear hr))
 any_goals exact vS):p:=(e X k1 k2 k3).1 h
theorem zs4{K1:Prop}{K2:Prop}{K3:Prop}{K4:Prop}{p q:Prop}(k1:K1)(k2:K2)(k3:K3)(k4:K4)(h:q)(e:K1→K2→K3→K4→Cv q p:=by
 intro k1 k2 k3 k4;repeat' first|with_reducible apply vT|with_reducible apply vF|with_reducible apply vC|((first|((with_reducible apply vE);(focus exact k1);(focus(simp -implicitDefEqProofs (disch:=omega) only[zdA,go_sem,simprocAttr];done)))|((with_reducible apply vE);(focus(apply k1<;>omega));(focus(simp -implicitDefEqProofs (disch:=omega) only[zdA,go_sem,simprocAttr];done)))|((with_reducible apply vR);focus exact k1 ..)|((with_reducible apply vE);(focus exact k2);(focus(simp -implicitDefEqProofs (disch:=omega) only[zdA,go_sem,simprocAttr];done)))|((with_reducible apply vE);(focus(apply k2<;>omega));(focus(simp -implicitDefEqProofs (disch:=omega) only[zdA,go_sem,simprocAttr];done)))|((with_reducible apply vR);focus exact k2 ..)|((with_reducible apply vE);(focus exact k3);(focus(simp -implicitDefEqProofs (disch:=omega) only[zdA,go_sem,simprocAttr];done)))|((with_reducible apply vE);(focus(apply k3<;>omega));(focus(simp -implicitDefEqProofs (disch:=omega) only[zdA,go_sem,simprocAttr];done)))|((with_reducible apply vR);focus exact k3 ..)|((with_reducible apply vE);(focus exact k4);(focus(simp -implicitDefEqProofs (disch:=omega) only[zdA,go_sem,simprocAttr];done)))|((with_reducible apply vE);(focus(apply k4<;>omega));(focus(simp -implicitDefEqProofs (disch:=omega) only[zdA,go_sem,simprocAttr];done)))|((with_reducible apply vR);focus exact k4 ..));simp -implicitDefEqProofs (disch:=omega) only[go_sem,simprocAttr])|((with_reducible apply vA);focus omega)|((with_reducible apply vI);(focus(intro hr;(try simp only[zdz]at hr);exact hr));intro hr;have hc:=hr;(try simp only[zdz]at hc);simp -implicitDefEqProofs (disch:=omega) only[hr,go_sem,simprocAttr];(try clear hr))
 any_goals exact vS):p:=(e k1 k2 k3 k4).1 h
theorem zx4{K1:Prop}{K2:Prop}{K3:Prop}{K4:Prop}{x:Prop}{p q:Prop}(X:x)(k1:K1)(k2:K2)(k3:K3)(k4:K4)(h:q)(e:x→K1→K2→K3→K4→Cv q p:=by
 intro X k1 k2 k3 k4;repeat' first|with_reducible apply vT|with_reducible apply vF|with_reducible apply vC|((first|((with_reducible apply vE);(focus exact k1);(focus(simp -implicitDefEqProofs (disch:=omega) only[X,zdA,go_sem,simprocAttr];done)))|((with_reducible apply vE);(focus(apply k1<;>omega));(focus(simp -implicitDefEqProofs (disch:=omega) only[X,zdA,go_sem,simprocAttr];done)))|((with_reducible apply vR);focus exact k1 ..)|((with_reducible apply vE);(focus exact k2);(focus(simp -implicitDefEqProofs (disch:=omega) only[X,zdA,go_sem,simprocAttr];done)))|((with_reducible apply vE);(focus(apply k2<;>omega));(focus(simp -implicitDefEqProofs (disch:=omega) only[X,zdA,go_sem,simprocAttr];done)))|((with_reducible apply vR);focus exact k2 ..)|((with_reducible apply vE);(focus exact k3);(focus(simp -implicitDefEqProofs (disch:=omega) only[X,zdA,go_sem,simprocAttr];done)))|((with_reducible apply vE);(focus(apply k3<;>omega));(focus(simp -implicitDefEqProofs (disch:=omega) only[X,zdA,go_sem,simprocAttr];done)))|((with_reducible apply vR);focus exact k3 ..)|((with_reducible apply vE);(focus exact k4);(focus(simp -implicitDefEqProofs (disch:=omega) only[X,zdA,go_sem,simprocAttr];done)))|((with_reducible apply vE);(focus(apply k4<;>omega));(focus(simp -implicitDefEqProofs (disch:=omega) only[X,zdA,go_sem,simprocAttr];done)))|((with_reducible apply vR);focus exact k4 ..));simp -implicitDefEqProofs (disch:=omega) only[X,go_sem,simprocAttr])|((with_reducible apply vA);focus omega)|((with_reducible apply vI);(focus(intro hr;(try simp only[zdz]at hr);exact hr));intro hr;have hc:=hr;(try simp only[zdz]at hc);simp -implicitDefEqProofs (disch:=omega) only[hr,X,go_sem,simprocAttr];(try clear hr))
 any_goals exact vS):p:=(e X k1 k2 k3 k4).1 h
end Go.Vo
namespace Go.Proofs.YtdjcggcjlphdoaaGreatDoor
open Go Go.Vo
open Nat (reduceAdd reduceSub reduceMul reduceLeDiff reduceLT reduceEqDiff)
open Int (reduceNeg)
abbrev CT:=Ctr Tryz.prog G0
def xS(n:Int):Bool:=decide (97≤n)&&decide (n≤122)||decide (65≤n)&&decide (n≤90)
def aUs(n:Int):Bool:=decide (48≤n)&&decide (n≤57)
theorem bRd(n:Int): CT 126 [.i .u8 n] (.b (xS n)):=by
 refine aZ cI Tryz.func126 g0 ?_
 ·skip;repeat'(first|refine gT ?_ ?_|refine gF ?_ ?_|refine gC ?_ ?_|(intro hc;simp -implicitDefEqProofs only[hc,go_sem]))
  all_goals(refine aV ?_ (by rfl);simp_all[xS]<;>omega)
theorem bRb(n:Int): CT 132 [.i .u8 n] (.b (xS n)):=by
 refine aZ cI Tryz.func132 g0 ?_
 ·skip;repeat'(first|refine gT ?_ ?_|refine gF ?_ ?_|refine gC ?_ ?_|(intro hc;simp -implicitDefEqProofs only[hc,go_sem]))
  all_goals(refine aV ?_ (by rfl);simp_all[xS]<;>omega)
theorem bRa(n:Int): CT 133 [.i .u8 n] (.b (aUs n)):=by
 refine aZ cI Tryz.func133 g0 ?_
 ·skip;repeat'(first|refine gT ?_ ?_|refine gF ?_ ?_|refine gC ?_ ?_|(intro hc;simp -implicitDefEqProofs only[hc,go_sem]))
  all_goals(refine aV ?_ (by rfl);simp_all[aUs]<;>omega)
def part(n:Int):Bool:=xS n||aUs n||decide (n=95)
theorem bRc(n:Int): CT 127 [.i .u8 n] (.b (part n)):=by
 refine aZ cI Tryz.func127 g0 ?_
 ·skip;repeat'(first|refine gT ?_ ?_|refine gF ?_ ?_|refine gC ?_ ?_|refine aOn (bRd _) ?_;simp -implicitDefEqProofs only[go_sem]|(intro hc;simp -implicitDefEqProofs only[hc,go_sem]))
  all_goals(refine aV ?_ (by rfl);simp_all[part,aUs]<;>omega)
def at_(s:Str)(k:Nat):Int:=((s.getD k 0).toNat:Int)
def eK(s:Str):Bool := !s.isEmpty&&decide (s.length≤40)&&xS (at_ s 0)&&s.all fun c=>part c.toNat
theorem aMl{s:Str}{q:Int→Bool}(h:∀j,j<s.length→q (at_ s j)=true):(s.all fun c=>q c.toNat)=true:=by
 rw[bF];intro c hc;obtain⟨j,hj,rfl⟩:=dG.1 hc;have:=h j hj;simpa[at_,hj]using this
theorem mT{s:Str}{q:Int→Bool}{j:Nat}(hj:j<s.length)(h:q (at_ s j)=false):(s.all fun c=>q c.toNat)=false:=by
 rw[Q3];exact⟨s[j],wU hj,by simpa[at_,hj]using h⟩
theorem P9(s:Str)(hs:s.length≤140737488355328): CT 66 [.s s] (.b (eK s)):=by
 refine aZ cI Tryz.func66 g0 ?_
 ·skip;(refine zs1 bRd ?_;repeat' first|exact trivial|refine zJ ?_ ?_|refine zH fun hc=>?_);any_goals(refine aV ?_ (by rfl);simp_all[eK,at_]<;>omega)
  refine cO (fun(k:Nat)=>(.k::.k::.j::.j::(rp 15 .k (.v (.i .i64 k)::(rp 8 .j []))))) (fun k=>[]) (fun k=>k≤s.length∧∀j,j<k→part (at_ s j)=true) (fun k=>s.length-k) (0) ⟨aR _,fun j h=>by omega⟩ rfl (by simp[fO]) ?_;rintro k j ⟨hk,ha⟩;refine zg ?_;(refine zs1 bRc ?_;repeat' first|exact trivial|refine zJ ?_ ?_|refine zH fun hc=>?_)
  ·refine aV ?_ (by rfl);simp only[eK,mT (show k<s.length by omega) (by simpa[at_]using hc),Bool.and_false]
  ·exact⟨k+1,⟨by omega,cR ha (by simpa[at_]using hc)⟩,by omega,by simp⟩
  ·refine aV ?_ (by rfl);have h1:k=s.length:=by omega
   simp only[eK,aMl (h1▸ha)];simp_all[at_]<;>omega
def aZs(s:Str)(j:Nat):Bool:=xS (at_ s j)||(decide (j≠0)&&part (at_ s j))
theorem aTl{s:Str}(h:∀j,j<s.length→aZs s j=true)(h1:1≤s.length)(h2:s.length≤40):eK s=true:=by
 have h0:=h 0 (by omega);have hp:(s.all fun c=>part c.toNat)=true:=aMl (fun j hj=>by
  have:=h j hj;unfold aZs at this;simp only[cM,aB]at this;rcases this with h|h
  ·simp[part,h]
  ·exact h.2)
 have hl:xS (at_ s 0)=true:=by simpa[aZs]using h0
 have hne:s ≠ []:=by intro h;simp[h]at h1
 simp[eK,hp,hl,h2,hne]
theorem aDx{s:Str}{j:Nat}(hj:j<s.length)(h:aZs s j=false):eK s=false:=by
 unfold aZs at h;simp only[pF,nS]at h;rcases h with⟨h1,h2|h2⟩
 ·have:j=0:=by simpa using h2
  subst this;simp[eK,h1]
 ·simp[eK,mT hj h2]
theorem P8(s:Str)(hs:s.length≤140737488355328): CT 71 [.s s] (.b (eK s)):=by
 refine aZ cI Tryz.func71 g0 ?_
 ·skip;refine cO (fun(k:Nat)=>(.k::.k::.j::.j::.k::.k::.v (.i .i64 k)::(rp 25 .j (rp 8 .k [])))) (fun k=>[]) (fun k=>k≤s.length∧∀j,j<k→aZs s j=true) (fun k=>s.length-k) (0) ⟨aR _,fun j h=>by omega⟩ rfl (by simp[fO]) ?_;rintro k j ⟨hk,ha⟩;refine zg ?_;(refine zs2 bRb bRa ?_;repeat' first|exact trivial|refine zJ ?_ ?_|refine zH fun hc=>?_);all_goals first|refine Exists.intro (k+1) ⟨⟨by omega,cR ha (by simp_all[aZs,at_,part]<;>omega)⟩,by omega,by simp⟩|refine aV ?_ (by rfl)
  ·rw[aDx (j:=k) (by omega) (by simp_all[aZs,at_,part]<;>omega)]
  ·rw[aDx (j:=k) (by omega) (by simp_all[aZs,at_,part]<;>omega)]
  ·have h1:k=s.length:=by omega
   by_cases h2:s.length≤40
   ·rw[aTl (h1▸ha) (by omega) h2];simp;omega
   ·have e1:eK s=false:=by simp[eK,h2]
    rw[e1];congr 1;symm;simp;omega
  ·have:s=[]:=List.eq_nil_of_length_eq_zero (by omega);simp[this,eK]
def qC(s:Str):Bool:=decide (2<s.length)&&decide (at_ s (s.length-2)=39)&&decide (49≤at_ s (s.length-1))&&decide (at_ s (s.length-1)≤56)
def zU(s:Str):Str:=if qC s then s.take (s.length-2)else s
def frame(s:Str):Str:=if qC s then s.drop (s.length-2)else []
theorem bGn(s:Str)(hs:s.length≤140737488355328): CT 153 [.s s] (.tup [.s (zU s),.s (frame s)]):=by
 refine aZ cI Tryz.func153 g0 ?_
 ·skip;(refine zs0 ?_;repeat' first|exact trivial|refine zJ ?_ ?_|refine zH fun hc=>?_);all_goals(refine aV ?_ (by rfl))
  ·have h:qC s=true:=by simp_all[qC,at_]<;>omega
   simp[zU,frame,h]
  all_goals(have h:qC s=false:=by simp_all[qC,at_]<;>omega)
  all_goals simp[zU,frame,h]
theorem bTn(s:Str)(hs:s.length≤140737488355328): CT 230 [.s s] (.tup [.s (zU s),.s (frame s)]):=by
 refine aZ cI Tryz.func230 g0 ?_
 ·skip;(refine zs0 ?_;repeat' first|exact trivial|refine zJ ?_ ?_|refine zH fun hc=>?_);all_goals(refine aV ?_ (by rfl))
  ·have h:qC s=true:=by simp_all[qC,at_]<;>omega
   simp[zU,frame,h]
  all_goals(have h:qC s=false:=by simp_all[qC,at_]<;>omega)
  all_goals simp[zU,frame,h]
theorem aAp(s:Str):(zU s).length≤s.length:=by unfold zU;split<;>simp<;>omega
theorem bGl(s:Str)(hs:s.length≤140737488355328): CT 180 [.s s] (.b (eK (zU s))):=by
 refine aZ cI Tryz.func180 g0 ?_
 ·skip;(repeat'(first|refine gT ?_ ?_|refine gF ?_ ?_|refine gC ?_ ?_|(refine cE (bTn s hs) ?_;simp -implicitDefEqProofs (disch:=omega) only[go_sem,simprocAttr])|(refine aOn (P8 _ (hZ (aAp s) hs)) ?_;simp -implicitDefEqProofs (disch:=omega) only[go_sem,simprocAttr])|refine aU (by omega) ?_|(intro hr;have hc:=hr;(try simp only[zdz]at hc);simp -implicitDefEqProofs (disch:=omega) only[hr,go_sem,simprocAttr];(try clear hr))));refine aV ?_ (by rfl);rfl
theorem aHt{l:List Str}{s:Str}{k:Nat}(hk:k<l.length)(h:l.getD k []=s):l.contains s=true:=by
 have h1:l[k]? = some s:=by simpa[List.getD,hk]using h
 simpa using dN h1
theorem aDg{l:List Str}{s:Str}(h:∀j,j<l.length→l.getD j []≠s):l.contains s=false:=by
 have:s∉l:=by
  intro hm;obtain⟨j,hj,he⟩:=dG.1 hm;exact h j hj (by simp[List.getD,hj,he])
 simpa using this
theorem E2(l:List Str)(s:Str)(hl:l.length≤140737488355328): CT 80 [avs l,.s s] (.b (l.contains s)):=by
 refine cW cI Tryz.func80 g0 ?_
 ·simp -implicitDefEqProofs (disch:=omega) only[Tryz.f80,go_sem,List.replicate,simprocAttr,avs];refine cO (fun(k:Nat)=>[.k,.k,.k,.k,.j,.k,.j,.k,.k,.v (.i .i64 k),.j,.j,.j,.j,.j,.j,.j]) (fun k=>[]) (fun k=>k≤l.length∧∀j,j<k→l.getD j []≠s) (fun k=>l.length-k) (0) ⟨aR _,fun j h=>by omega⟩ rfl (by simp[fO]) ?_;rintro k j ⟨hk,ha⟩;refine zg ?_;(refine zs0 ?_;repeat' first|exact trivial|refine zJ ?_ ?_|refine zH fun hc=>?_)
  ·refine aV ?_ (by rfl);rw[aHt (k:=k) (by omega) (by assumption)]
  ·exact⟨k+1,⟨by omega,cR ha (by assumption)⟩,by omega,by simp⟩
  ·refine aV ?_ (by rfl);have h1:k=l.length:=by omega
   rw[aDg (h1▸ha)]
def iD:List Str:=[[65,110,121],[73,110,116],[66,111,111,108],[84,101,120,116],[73,100],[76,105,115,116],[77,97,112]]
theorem bSe:CT 85 [] (.own 1 (iD.map .s) iD.length):=by
 refine aZ cI Tryz.func85 g0 ?_
 ·skip;exact Z1 rfl rfl rfl rfl rfl
def qH:List Str:=[[65,110,121],[66,111,111,108],[73,100],[73,110,116],[76,105,115,116],[77,97,112],[84,101,120,116]]
theorem bLq:CT 178 [] (.own 1 (qH.map .s) qH.length):=by
 refine aZ cI Tryz.func178 g0 ?_
 ·skip;exact Z1 rfl rfl rfl rfl rfl
def idx{α:Type}(p:α→Bool)(l:List α):Int:=match l.findIdx? p with|some i=>i|none => -1
theorem xY{α:Type}{p:α→Bool}{l:List α}{d:α}{k:Nat}(hk:k<l.length)(h:p (l.getD k d)=true)(hn:∀j,j<k→p (l.getD j d)=false):idx p l=k:=by
 have:l.findIdx? p=some k:=by
  rw[iJ];refine⟨hk,by simpa[List.getD,hk]using h,fun j hj=>?_⟩;have:=hn j hj;simpa[List.getD,show j<l.length by omega]using this
 simp[idx,this]
theorem xZ{α:Type}{p:α→Bool}{l:List α}{d:α}(hn:∀j,j<l.length→p (l.getD j d)=false):idx p l = -1:=by
 have:l.findIdx? p=none:=by
  rw[fF];intro x hx;obtain⟨j,hj,rfl⟩:=dG.1 hx;have:=hn j hj;simpa[List.getD,hj]using this
 simp[idx,this]
theorem K5{α:Type}{p:α→Bool}{l:List α}:decide (0≤idx p l)=l.any p:=by
 unfold idx;cases h:l.findIdx? p with
 |none=>
  rw[fF]at h;have:l.any p=false:=by rw[oL];intro x hx;simp[h x hx]
  rw[this];rfl
 |some i=>
  rw[iJ]at h;obtain⟨hi,hp,_⟩:=h;have:l.any p=true:=pY.2 ⟨_,wU hi,hp⟩;rw[this];simp
theorem bUj(l:List Str)(s:Str)(hl:l.length≤140737488355328): CT 146 [avs l,.s s] (.i .i64 (idx (fun x=>decide (s=x)) l)):=by
 refine cW cI Tryz.func146 g0 ?_
 ·simp -implicitDefEqProofs (disch:=omega) only[Tryz.f146,go_sem,List.replicate,simprocAttr,avs];refine cO (fun(k:Nat)=>(.k::.k::.k::.k::.j::.j::.k::.k::.v (.i .i64 k)::(rp 10 .j []))) (fun k=>[]) (fun k=>k≤l.length∧∀j,j<k→decide (s=l.getD j [])=false) (fun k=>l.length-k) (0) ⟨aR _,fun j h=>by omega⟩ rfl (by simp[fO]) ?_;rintro k j ⟨hk,ha⟩;refine zg ?_;(refine zs0 ?_;repeat' first|exact trivial|refine zJ ?_ ?_|refine zH fun hc=>?_)
  ·refine aV ?_ (by rfl);rw[xY (d:=[]) (k:=k) (by omega) (by simpa using hc) ha]
  ·exact⟨k+1,⟨by omega,cR ha (by simpa using hc)⟩,by omega,by simp⟩
  ·refine aV ?_ (by rfl);have h1:k=l.length:=by omega
   rw[xZ (h1▸ha)]
theorem aDz{s:Str}{l:List Str}:decide (0≤idx (fun x=>decide (s=x)) l)=l.contains s:=by
 rw[K5,List.contains_eq_any_beq];congr 1;funext x;exact dK.2 (by simp)
theorem P7(l:List Str)(s:Str)(hl:l.length≤140737488355328): CT 84 [avs l,.s s] (.b (l.contains s)):=by
 refine cW cI Tryz.func84 g0 ?_
 ·simp -implicitDefEqProofs (disch:=omega) only[Tryz.f84,go_sem,List.replicate,simprocAttr,avs];(refine zs1 (bUj l s hl) ?_;repeat' first|exact trivial|refine zJ ?_ ?_|refine zH fun hc=>?_);refine aV ?_ (by rfl);rw[aDz]
theorem aIw{l m:List Str}(hl:l.length=m.length)(h:∀j,j<l.length→l.getD j []=m.getD j []):l=m:=by
 apply aBj hl;intro j h1 h2;have:=h j h1;simpa[List.getD,h1,h2]using this
theorem bRg(l m:List Str)(hl:l.length≤140737488355328)(hm:m.length≤140737488355328): CT 233 [avs l,avs m] (.b (decide (l=m))):=by
 refine cW cI Tryz.func233 g0 ?_
 ·simp -implicitDefEqProofs (disch:=omega) only[Tryz.f233,go_sem,List.replicate,simprocAttr,avs];(refine zs0 ?_;repeat' first|exact trivial|refine zJ ?_ ?_|refine zH fun hc=>?_)
  ·refine aV ?_ (by rfl);have:l≠m:=fun h=>hc (by rw[h]);rw[zf this]
  refine cO (fun(k:Nat)=>(.k::.k::.k::.k::.j::.j::(rp 7 .k (.v (.i .i64 k)::(rp 12 .j []))))) (fun k=>[]) (fun k=>k≤l.length∧∀j,j<k→l.getD j []=m.getD j []) (fun k=>l.length-k) (0) ⟨aR _,fun j h=>by omega⟩ rfl (by simp[fO]) ?_;rintro k j ⟨hk,ha⟩;refine zg ?_;(refine zs0 ?_;repeat' first|exact trivial|refine zJ ?_ ?_|refine zH fun hc=>?_)
  ·refine aV ?_ (by rfl);have:l≠m:=fun h=>by simp[h]at *
   rw[zf this]
  ·exact⟨k+1,⟨by omega,cR ha (by simpa using hc)⟩,by omega,by simp⟩
  ·refine aV ?_ (by rfl);have:l=m:=aIw (by omega) (fun j hj=>ha j (by omega));rw[zt this]
theorem bRf(l m:List Str)(hl:l.length≤140737488355328)(hm:m.length≤140737488355328): CT 217 [avs l,avs m] (.b (decide (l=m))):=by
 refine cW cI Tryz.func217 g0 ?_
 ·simp -implicitDefEqProofs (disch:=omega) only[Tryz.f217,go_sem,List.replicate,simprocAttr,avs];(refine zs0 ?_;repeat' first|exact trivial|refine zJ ?_ ?_|refine zH fun hc=>?_)
  ·refine aV ?_ (by rfl);have:l≠m:=fun h=>hc (by rw[h]);rw[zf this]
  refine cO (fun(k:Nat)=>(.k::.k::.k::.k::.j::.j::(rp 7 .k (.v (.i .i64 k)::(rp 12 .j []))))) (fun k=>[]) (fun k=>k≤l.length∧∀j,j<k→l.getD j []=m.getD j []) (fun k=>l.length-k) (0) ⟨aR _,fun j h=>by omega⟩ rfl (by simp[fO]) ?_;rintro k j ⟨hk,ha⟩;refine zg ?_;(refine zs0 ?_;repeat' first|exact trivial|refine zJ ?_ ?_|refine zH fun hc=>?_)
  ·refine aV ?_ (by rfl);have:l≠m:=fun h=>by simp[h]at *
   rw[zf this]
  ·exact⟨k+1,⟨by omega,cR ha (by simpa using hc)⟩,by omega,by simp⟩
  ·refine aV ?_ (by rfl);have:l=m:=aIw (by omega) (fun j hj=>ha j (by omega));rw[zt this]
theorem aJw{l:List Str}{k:Nat}(hn:l.Nodup)(hk:k<l.length):(l.take k).contains (l.getD k [])=false:=by
 have:l.getD k []∉l.take k:=by
  intro hm;obtain⟨j,hj,he⟩:=dG.1 hm;have:=(eR.1 hn) j k (by simp at hj;omega) hk (by simp at hj;omega);simp[List.getD,hk]at he;exact this he
 simpa using this
theorem aJv{l:List Str}(h:∀j,j<l.length→(l.take j).contains (l.getD j [])=false):l.Nodup:=by
 refine eR.2 (fun i j hi hj hij he=>?_);have:=h j hj;have hm:l.getD j []∈l.take j:=by
  rw[dG];exact⟨i,by simp;omega,by simp[List.getD,hj,he]⟩
 have h2:(l.take j).contains (l.getD j [])=true:=by simpa using hm
 rw[h2]at this;cases this
theorem bBl(l:List Str)(hl:l.length≤140737488355328): CT 112 [avs l] (.b (decide l.Nodup)):=by
 refine cW cI Tryz.func112 g0 ?_
 ·simp -implicitDefEqProofs (disch:=omega) only[Tryz.f112,go_sem,List.replicate,simprocAttr,avs];refine cO (fun(k:Nat)=>(.k::.k::.j::.j::.k::.k::.v (.i .i64 k)::(rp 11 .j []))) (fun k=>[]) (fun k=>k≤l.length∧∀j,j<k→(l.take j).contains (l.getD j [])=false) (fun k=>l.length-k) (0) ⟨aR _,fun j h=>by omega⟩ rfl (by simp[fO]) ?_;rintro k j ⟨hk,ha⟩;refine zg ?_;(refine zs1 (E2 (l.take k) (l.getD k []) (by simp;omega)) ?_;repeat' first|exact trivial|refine zJ ?_ ?_|refine zH fun hc=>?_)
  ·refine aV ?_ (by rfl);rw[zf (fun hn=>by rw[aJw hn (by omega)]at hc;cases hc)]
  ·exact⟨k+1,⟨by omega,cR ha hc⟩,by omega,by simp⟩
  ·refine aV ?_ (by rfl);have h1:k=l.length:=by omega
   rw[zt (aJv (h1▸ha))]
def jO:List Str:=[[97,100,100],[97,110,100],[99,97,116],[100,101,108],[100,105,118],[101,113],[103,101],[103,101,116],[103,116],[104,97,115],[105,115],[105,115,118,97,108,117,101],[106,111,105,110],[107,101,121,115],[108,101],[108,101,110,103,116,104],[108,116],[109,111,100],[109,117,108],[110,101],[110,101,103],[110,111,116],[111,114],[112,105,99,107],[112,117,116],[115,105,122,101],[115,117,98],[116,101,120,116]]
theorem bYz:CT 231 [] (.own 1 (jO.map .s) jO.length):=by
 refine aZ cI Tryz.func231 g0 ?_
 ·skip;exact Z1 rfl rfl rfl rfl rfl
theorem bLs(s:Str): CT 181 [.s s] (.b (jO.contains s)):=by
 refine aZ cI Tryz.func181 g0 ?_
 ·skip;(refine zs2 bYz (E2 jO s (by decide)) ?_;repeat' first|exact trivial|refine zJ ?_ ?_|refine zH fun hc=>?_);refine aV ?_ (by rfl);rfl
def jZ(s:dF)(a:Str):Bool:=qH.contains a||s.sorts.contains a
theorem bBm(s:dF)(a:Str)(hs:s.sorts.length≤140737488355328): CT 111 [.agg (bX s),.s a] (.b (jZ s a)):=by
 refine cW cI Tryz.func111 g0 ?_
 ·simp -implicitDefEqProofs (disch:=omega) only[Tryz.f111,go_sem,List.replicate,simprocAttr,bX,avs];(refine zs3 bLq (E2 qH a (by decide)) (E2 s.sorts a hs) ?_;repeat' first|exact trivial|refine zJ ?_ ?_|refine zH fun hc=>?_);all_goals(refine aV ?_ (by rfl))
  all_goals simp_all[jZ]
theorem aZg:∀{l:List AV},persL l=true→∀x∈l,pers x=true:=by
 intro l h x hx;obtain⟨j,hj,rfl⟩:=dG.1 hx;exact iE h j _ (by simp[hj])
theorem vK{h:List AObj}{l:List AV}(hl:persL l=true):l.map (gJ dep h)=l:=by
 have:l.map (gJ dep h)=l.map id:=iY (fun x hx=>by rw[fS,if_pos (aZg hl x hx)];rfl);rw[this,List.map_id]
theorem bTu(l:List Str)(f:FuncId)(a b:List AV)(p:Str→Bool)(hl:l.length≤140737488355328)(ha:persL a=true)(hb:persL b=true)(hw:∀k,k<l.length→CT f (a++[.s (l.getD k [])]++b) (.b (p (l.getD k [])))): CT 210 [avs l,.fn f a b] (.i .i64 (idx p l)):=by
 refine cW cI Tryz.func210 g0 ?_
 ·simp -implicitDefEqProofs (disch:=omega) only[Tryz.f210,go_sem,List.replicate,simprocAttr,avs];refine cO (fun(k:Nat)=>(.k::.k::.k::.k::.j::.j::.k::.k::.v (.i .i64 k)::(rp 10 .j []))) (fun k=>[]) (fun k=>k≤l.length∧∀j,j<k→p (l.getD j [])=false) (fun k=>l.length-k) (0) ⟨aR _,fun j h=>by omega⟩ rfl (by simp[fO]) ?_;rintro k j ⟨hk,hn⟩;refine zg ?_;(refine zs0 ?_;repeat' first|exact trivial|refine zJ ?_ ?_|refine zH fun hc=>?_)
  ·refine bM (hw k (by omega)) ?_ ?_
   ·exact zv (zA2 @bO.{0,0} (zA2 (fun h=>vK (h:=h) ha) (fun h=>vK (h:=h) hb)))
   ·refine zg ?_;(refine zs0 ?_;repeat' first|exact trivial|refine zJ ?_ ?_|refine zH fun hc=>?_)
    ·refine aV ?_ (by rfl);rw[xY (d:=[]) (k:=k) (by omega) hc hn]
    ·exact⟨k+1,⟨by omega,cR hn hc⟩,by omega,by simp⟩
  ·refine aV ?_ (by rfl);have h1:k=l.length:=by omega
   rw[xZ (h1▸hn)]
theorem bUi(l:List Str)(f:FuncId)(a b:List AV)(p:Str→Bool)(hl:l.length≤140737488355328)(ha:persL a=true)(hb:persL b=true)(hw:∀k,k<l.length→CT f (a++[.s (l.getD k [])]++b) (.b (p (l.getD k [])))): CT 147 [avs l,.fn f a b] (.b (l.any p)):=by
 refine cW cI Tryz.func147 g0 ?_
 ·simp -implicitDefEqProofs (disch:=omega) only[Tryz.f147,go_sem,List.replicate,simprocAttr,avs];refine bM (bTu l f a b p hl ha hb hw) ?_ ?_
  ·exact zv (zA2 @avs.eq_1 (zA2 ha hb))
  ·refine zg ?_;refine aV ?_ (by rfl);rw[K5]
theorem bUh(x:Str)(f:FuncId)(a b:List AV)(p:Bool)(ha:persL a=true)(hb:persL b=true)(hw:CT f (a++[.s x]++b) (.b p)): CT 148 [.s x,.box [.fn f a b] 0] (.b (!p)):=by
 refine aZ cI Tryz.func148 g0 ?_
 ·skip;refine bM hw ?_ ?_
  ·exact zv (zA2 @bO.{0,0} (zA2 (fun h=>vK (h:=h) ha) (fun h=>vK (h:=h) hb)))
  ·refine zg ?_;refine aV ?_ (by rfl);rfl
theorem bBn(l:List Str)(f:FuncId)(a b:List AV)(p:Str→Bool)(hl:l.length≤140737488355328)(ha:persL a=true)(hb:persL b=true)(hw:∀k,k<l.length→CT f (a++[.s (l.getD k [])]++b) (.b (p (l.getD k [])))): CT 86 [avs l,.fn f a b] (.b (l.all p)):=by
 refine cW cI Tryz.func86 g0 ?_
 ·simp -implicitDefEqProofs (disch:=omega) only[Tryz.f86,go_sem,List.replicate,↓reduceIte,reduceAdd,reduceSub,reduceMul,reduceLeDiff,reduceLT,reduceEqDiff,reduceNeg,Nat.reduceBEq,avs];refine bM (bUi l 148 [] [.box [.fn f a b] 0] (fun x => !p x) hl rfl (by simp[persL,pers,ha,hb]) (fun k hk=>bUh _ f a b _ ha hb (hw k hk))) ?_ ?_
  ·exact zv (zA2 @avs.eq_1 (zA2 ha hb))
  ·refine zh (zA2 ha hb) ?_;refine aV ?_ (by rfl);rw[sN]
theorem bZl(s:Str)(hs:s.length≤140737488355328): CT 83 [.s s] (.b (eK s && !iD.contains s)):=by
 refine aZ cI Tryz.func83 g0 ?_
 ·skip;(refine zs3 (P9 s hs) bSe (P7 iD s (by decide)) ?_;repeat' first|exact trivial|refine zJ ?_ ?_|refine zH fun hc=>?_);all_goals(refine aV ?_ (by rfl))
  all_goals simp_all
theorem V6{P:Program}{T:TypeId}(hT:P.underlying T=some .string){x:Str}:∀(l:List Str),fL P T (.s x) (l.map .s)=some (l.findIdx? fun y=>decide (x=y))
 | []=>rfl
 |y::l=>by
  simp only[aK,fL,aEq,lF,hT,V6 hT l,iK];cases h:decide (x=y)<;>simp
theorem uZ{x:Str}{l:List Str}(h:l.contains x=false):(l.findIdx? fun y=>decide (x=y))=none:=by
 rw[fF];intro y hy;have:x∉l:=by simpa using h
 simp only[decide_eq_false_iff_not];exact fun he=>this (he▸hy)
theorem D8(x:Str)(l:List Str):fL Tryz.prog 9 (.s x) (l.map .s)=some (l.findIdx? fun y=>decide (x=y)):=V6 un9 l
theorem aHq{x:Str}{l:List Str}(h:l.contains x=true):∃i,i<l.length∧(l.findIdx? fun y=>decide (x=y))=some i:=by
 cases hf:l.findIdx? fun y=>decide (x=y)with
 |none=>
  rw[fF]at hf;have hm:x∈l:=by simpa using h
  have:=hf x hm;simp at this
 |some i=>
  rw[iJ]at hf;exact⟨i,hf.1,rfl⟩
theorem aQc{l:List Str}{k:Nat}(h:k<l.length):l.take (k+1)=l.take k++[l.getD k []]:=by
 rw[lI h];simp[List.getD,h]
theorem aGf{n i:Nat}{a:AV}(h:i<n):(List.replicate n a)[i]? = some a:=by simp[h]
theorem bLr(l:List Str)(hl:l.length≤140737488355328): CT 82 [avs l] (.b (decide l.Nodup)):=by
 refine cW cI Tryz.func82 g0 ?_
 ·simp -implicitDefEqProofs (disch:=omega) only[Tryz.f82,go_sem,List.replicate,simprocAttr,avs];refine cO (fun(k:Nat)=>(.k::.k::.j::.k::.k::.j::.k::.k::.k::.v (.i .i64 k)::(rp 9 .j []))) (fun k=>[.map false ((l.take k).map .s) (List.replicate k (.b true))]) (fun k=>k≤l.length∧∀j,j<k→(l.take j).contains (l.getD j [])=false) (fun k=>l.length-k) (0) ⟨aR _,fun j h=>by omega⟩ rfl (by simp[fO]) ?_;rintro k j ⟨hk,ha⟩;refine zg ?_;(refine zs0 ?_;repeat' first|exact trivial|refine zJ ?_ ?_|refine zH fun hc=>?_)
  ·by_cases hx:(l.take k).contains (l.getD k [])=true
   ·obtain⟨i,hi,hf⟩:=aHq hx;have hi':i<k:=by simp at hi;omega
    simp -implicitDefEqProofs (disch:=omega) only[kH,D8,hf,aGf hi',go_sem,simprocAttr];refine aV ?_ (by rfl);rw[zf (fun hn=>by rw[aJw hn (by omega)]at hx;cases hx)]
   ·have hx:=cT.2 hx;simp -implicitDefEqProofs (disch:=omega) only[kH,D8,uZ hx,go_sem,simprocAttr];refine⟨k+1,⟨by omega,cR ha hx⟩,by omega,?_,by simp⟩;rw[aQc (by omega),bO,aPe];rfl
  ·refine aV ?_ (by rfl);have h1:k=l.length:=by omega
   rw[zt (aJv (h1▸ha))]
def elB(x:Str×Str):AV:=.agg (bZ x)
def elO(x:LOp):AV:=.agg (bG x)
attribute [go_sem] elB elO
theorem bTs(l:List (Str×Str))(f:FuncId)(a b:List AV)(p:Str×Str→Bool)(hl:l.length≤140737488355328)(ha:persL a=true)(hb:persL b=true)(hw:∀k,k<l.length→CT f (a++[elB (l.getD k ([],[]))]++b) (.b (p (l.getD k ([],[]))))): CT 211 [avb l,.fn f a b] (.i .i64 (idx p l)):=by
 refine aZ cI Tryz.func211 g0 ?_
 ·skip;refine cO (fun(k:Nat)=>(.k::.k::.k::.k::.j::.j::.k::.k::.v (.i .i64 k)::(rp 10 .j []))) (fun k=>[]) (fun k=>k≤l.length∧∀j,j<k→p (l.getD j ([],[]))=false) (fun k=>l.length-k) (0) ⟨aR _,fun j h=>by omega⟩ rfl (by simp[fO]) ?_;rintro k j ⟨hk,hn⟩;refine zg ?_;(refine zs0 ?_;repeat' first|exact trivial|refine zJ ?_ ?_|refine zH fun hc=>?_)
  ·refine bM (hw k (by omega)) ?_ ?_
   ·exact zv (zA2 @bO.{0,0} (zA2 (fun h=>vK (h:=h) ha) (fun h=>vK (h:=h) hb)))
   ·refine zg ?_;(refine zs0 ?_;repeat' first|exact trivial|refine zJ ?_ ?_|refine zH fun hc=>?_)
    ·refine aV ?_ (by rfl);rw[xY (d:=([],[])) (k:=k) (by omega) hc hn]
    ·exact⟨k+1,⟨by omega,cR hn hc⟩,by omega,by simp⟩
  ·refine aV ?_ (by rfl);have h1:k=l.length:=by omega
   rw[xZ (h1▸hn)]
theorem bTr(l:List (LOp))(f:FuncId)(a b:List AV)(p:LOp→Bool)(hl:l.length≤140737488355328)(ha:persL a=true)(hb:persL b=true)(hw:∀k,k<l.length→CT f (a++[elO (l.getD k default)]++b) (.b (p (l.getD k default)))): CT 212 [avo l,.fn f a b] (.i .i64 (idx p l)):=by
 refine aZ cI Tryz.func212 g0 ?_
 ·skip;refine cO (fun(k:Nat)=>(.k::.k::.k::.k::.j::.j::.k::.k::.v (.i .i64 k)::(rp 10 .j []))) (fun k=>[]) (fun k=>k≤l.length∧∀j,j<k→p (l.getD j default)=false) (fun k=>l.length-k) (0) ⟨aR _,fun j h=>by omega⟩ rfl (by simp[fO]) ?_;rintro k j ⟨hk,hn⟩;refine zg ?_;(refine zs0 ?_;repeat' first|exact trivial|refine zJ ?_ ?_|refine zH fun hc=>?_)
  ·refine bM (hw k (by omega)) ?_ ?_
   ·exact zv (zA2 @bO.{0,0} (zA2 (fun h=>vK (h:=h) ha) (fun h=>vK (h:=h) hb)))
   ·refine zg ?_;(refine zs0 ?_;repeat' first|exact trivial|refine zJ ?_ ?_|refine zH fun hc=>?_)
    ·refine aV ?_ (by rfl);rw[xY (d:=default) (k:=k) (by omega) hc hn]
    ·exact⟨k+1,⟨by omega,cR hn hc⟩,by omega,by simp⟩
  ·refine aV ?_ (by rfl);have h1:k=l.length:=by omega
   rw[xZ (h1▸hn)]
theorem bTl(l:List (Int))(f:FuncId)(a b:List AV)(p:Int→Bool)(hl:l.length≤140737488355328)(ha:persL a=true)(hb:persL b=true)(hw:∀k,k<l.length→CT f (a++[.i .i64 (l.getD k 0)]++b) (.b (p (l.getD k 0)))): CT 254 [avi l,.fn f a b] (.i .i64 (idx p l)):=by
 refine aZ cI Tryz.func254 g0 ?_
 ·skip;refine cO (fun(k:Nat)=>(.k::.k::.k::.k::.j::.j::.k::.k::.v (.i .i64 k)::(rp 10 .j []))) (fun k=>[]) (fun k=>k≤l.length∧∀j,j<k→p (l.getD j 0)=false) (fun k=>l.length-k) (0) ⟨aR _,fun j h=>by omega⟩ rfl (by simp[fO]) ?_;rintro k j ⟨hk,hn⟩;refine zg ?_;(refine zs0 ?_;repeat' first|exact trivial|refine zJ ?_ ?_|refine zH fun hc=>?_)
  ·refine bM (hw k (by omega)) ?_ ?_
   ·exact zv (zA2 @bO.{0,0} (zA2 (fun h=>vK (h:=h) ha) (fun h=>vK (h:=h) hb)))
   ·refine zg ?_;(refine zs0 ?_;repeat' first|exact trivial|refine zJ ?_ ?_|refine zH fun hc=>?_)
    ·refine aV ?_ (by rfl);rw[xY (d:=0) (k:=k) (by omega) hc hn]
    ·exact⟨k+1,⟨by omega,cR hn hc⟩,by omega,by simp⟩
  ·refine aV ?_ (by rfl);have h1:k=l.length:=by omega
   rw[xZ (h1▸hn)]
theorem bUe(l:List (Str×Str))(f:FuncId)(a b:List AV)(p:Str×Str→Bool)(hl:l.length≤140737488355328)(ha:persL a=true)(hb:persL b=true)(hw:∀k,k<l.length→CT f (a++[elB (l.getD k ([],[]))]++b) (.b (p (l.getD k ([],[]))))): CT 149 [avb l,.fn f a b] (.b (l.any p)):=by
 refine aZ cI Tryz.func149 g0 ?_
 ·skip;refine bM (bTs l f a b p hl ha hb hw) ?_ ?_
  ·exact zv (zA2 ha hb)
  ·refine zg ?_;refine aV ?_ (by rfl);rw[K5]
theorem bUc(l:List (LOp))(f:FuncId)(a b:List AV)(p:LOp→Bool)(hl:l.length≤140737488355328)(ha:persL a=true)(hb:persL b=true)(hw:∀k,k<l.length→CT f (a++[elO (l.getD k default)]++b) (.b (p (l.getD k default)))): CT 151 [avo l,.fn f a b] (.b (l.any p)):=by
 refine aZ cI Tryz.func151 g0 ?_
 ·skip;refine bM (bTr l f a b p hl ha hb hw) ?_ ?_
  ·exact zv (zA2 ha hb)
  ·refine zg ?_;refine aV ?_ (by rfl);rw[K5]
theorem bTq(l:List (Int))(f:FuncId)(a b:List AV)(p:Int→Bool)(hl:l.length≤140737488355328)(ha:persL a=true)(hb:persL b=true)(hw:∀k,k<l.length→CT f (a++[.i .i64 (l.getD k 0)]++b) (.b (p (l.getD k 0)))): CT 214 [avi l,.fn f a b] (.b (l.any p)):=by
 refine aZ cI Tryz.func214 g0 ?_
 ·skip;refine bM (bTl l f a b p hl ha hb hw) ?_ ?_
  ·exact zv (zA2 ha hb)
  ·refine zg ?_;refine aV ?_ (by rfl);rw[K5]
theorem bUd(x:Str×Str)(f:FuncId)(a b:List AV)(p:Bool)(ha:persL a=true)(hb:persL b=true)(hw:CT f (a++[elB x]++b) (.b p)): CT 150 [elB x,.box [.fn f a b] 0] (.b (!p)):=by
 refine aZ cI Tryz.func150 g0 ?_
 ·skip;refine bM hw ?_ ?_
  ·exact zv (zA2 @bO.{0,0} (zA2 (fun h=>vK (h:=h) ha) (fun h=>vK (h:=h) hb)))
  ·refine zg ?_;refine aV ?_ (by rfl);rfl
theorem bUb(x:LOp)(f:FuncId)(a b:List AV)(p:Bool)(ha:persL a=true)(hb:persL b=true)(hw:CT f (a++[elO x]++b) (.b p)): CT 152 [elO x,.box [.fn f a b] 0] (.b (!p)):=by
 refine aZ cI Tryz.func152 g0 ?_
 ·skip;refine bM hw ?_ ?_
  ·exact zv (zA2 @bO.{0,0} (zA2 (fun h=>vK (h:=h) ha) (fun h=>vK (h:=h) hb)))
  ·refine zg ?_;refine aV ?_ (by rfl);rfl
theorem bTp(x:Int)(f:FuncId)(a b:List AV)(p:Bool)(ha:persL a=true)(hb:persL b=true)(hw:CT f (a++[.i .i64 x]++b) (.b p)): CT 215 [.i .i64 x,.box [.fn f a b] 0] (.b (!p)):=by
 refine aZ cI Tryz.func215 g0 ?_
 ·skip;refine bM hw ?_ ?_
  ·exact zv (zA2 @bO.{0,0} (zA2 (fun h=>vK (h:=h) ha) (fun h=>vK (h:=h) hb)))
  ·refine zg ?_;refine aV ?_ (by rfl);rfl
theorem bZk(l:List (Str×Str))(f:FuncId)(a b:List AV)(p:Str×Str→Bool)(hl:l.length≤140737488355328)(ha:persL a=true)(hb:persL b=true)(hw:∀k,k<l.length→CT f (a++[elB (l.getD k ([],[]))]++b) (.b (p (l.getD k ([],[]))))): CT 88 [avb l,.fn f a b] (.b (l.all p)):=by
 refine aZ cI Tryz.func88 g0 ?_
 ·skip;refine bM (bUe l 150 [] [.box [.fn f a b] 0] (fun x => !p x) hl rfl (by simp[persL,pers,ha,hb]) (fun k hk=>bUd _ f a b _ ha hb (hw k hk))) ?_ ?_
  ·exact zv (zA2 ha hb)
  ·refine zh (zA2 ha hb) ?_;refine aV ?_ (by rfl);rw[sN]
theorem bRn(l:List (LOp))(f:FuncId)(a b:List AV)(p:LOp→Bool)(hl:l.length≤140737488355328)(ha:persL a=true)(hb:persL b=true)(hw:∀k,k<l.length→CT f (a++[elO (l.getD k default)]++b) (.b (p (l.getD k default)))): CT 91 [avo l,.fn f a b] (.b (l.all p)):=by
 refine aZ cI Tryz.func91 g0 ?_
 ·skip;refine bM (bUc l 152 [] [.box [.fn f a b] 0] (fun x => !p x) hl rfl (by simp[persL,pers,ha,hb]) (fun k hk=>bUb _ f a b _ ha hb (hw k hk))) ?_ ?_
  ·exact zv (zA2 ha hb)
  ·refine zh (zA2 ha hb) ?_;refine aV ?_ (by rfl);rw[sN]
theorem bTz(l:List (Int))(f:FuncId)(a b:List AV)(p:Int→Bool)(hl:l.length≤140737488355328)(ha:persL a=true)(hb:persL b=true)(hw:∀k,k<l.length→CT f (a++[.i .i64 (l.getD k 0)]++b) (.b (p (l.getD k 0)))): CT 156 [avi l,.fn f a b] (.b (l.all p)):=by
 refine aZ cI Tryz.func156 g0 ?_
 ·skip;refine bM (bTq l 215 [] [.box [.fn f a b] 0] (fun x => !p x) hl rfl (by simp[persL,pers,ha,hb]) (fun k hk=>bTp _ f a b _ ha hb (hw k hk))) ?_ ?_
  ·exact zv (zA2 ha hb)
  ·refine zh (zA2 ha hb) ?_;refine aV ?_ (by rfl);rw[sN]
theorem wT{α:Type}[DecidableEq α]{P:Program}{T:TypeId}{el:α→AV}(hT:∀x y,aEq P T (el x) (el y)=some (decide (x=y))){x:α}:∀(l:List α),fL P T (el x) (l.map el)=some (l.findIdx? fun y=>decide (x=y))
 | []=>rfl
 |y::l=>by
  simp only[aK,fL,hT,wT hT l,iK];cases h:decide (x=y)<;>simp
theorem cBb(x:Str×Str)(l:List (Str×Str)):fL Tryz.prog 117 (elB x) (l.map elB)=some (l.findIdx? fun y=>decide (x=y)):=wT (fun x y=>by
 simp only[elB,bZ,aEq,bXk,iT,lF,un9,aA];rw[dK];simp[Prod.ext_iff]) l
theorem cBa(x:Int)(l:List Int):fL Tryz.prog 3 (.i .i64 x) (l.map (.i .i64))=some (l.findIdx? fun y=>decide (x=y)):=wT (fun x y=>by
 simp[aEq,lF,un3]) l
theorem oU{α:Type}[BEq α] [LawfulBEq α][DecidableEq α]{x:α}{l:List α}(h:l.contains x=false):(l.findIdx? fun y=>decide (x=y))=none:=by
 rw[fF];intro y hy;have:x∉l:=by simpa using h
 simp only[decide_eq_false_iff_not];exact fun he=>this (he▸hy)
theorem C3{α:Type}[BEq α] [LawfulBEq α][DecidableEq α]{x:α}{l:List α}(h:l.contains x=true):∃i,i<l.length∧(l.findIdx? fun y=>decide (x=y))=some i:=by
 cases hf:l.findIdx? fun y=>decide (x=y)with
 |none=>
  rw[fF]at hf;have hm:x∈l:=by simpa using h
  have:=hf x hm;simp at this
 |some i=>
  rw[iJ]at hf;exact⟨i,hf.1,rfl⟩
theorem oS{α:Type}[BEq α] [LawfulBEq α][DecidableEq α]{l:List α}{k:Nat}{d:α}(hn:l.Nodup)(hk:k<l.length):(l.take k).contains (l.getD k d)=false:=by
 have:l.getD k d∉l.take k:=by
  intro hm;obtain⟨j,hj,he⟩:=dG.1 hm;have:=(eR.1 hn) j k (by simp at hj;omega) hk (by simp at hj;omega);simp[List.getD,hk]at he;exact this he
 simpa using this
theorem xO{α:Type}[BEq α] [LawfulBEq α][DecidableEq α]{l:List α}{d:α}(h:∀j,j<l.length→(l.take j).contains (l.getD j d)=false):l.Nodup:=by
 refine eR.2 (fun i j hi hj hij he=>?_);have:=h j hj;have hm:l.getD j d∈l.take j:=by
  rw[dG];exact⟨i,by simp;omega,by simp[List.getD,hj,he]⟩
 have h2:(l.take j).contains (l.getD j d)=true:=by simpa using hm
 rw[h2]at this;cases this
theorem bZm(l:List (Str×Str))(hl:l.length≤140737488355328): CT 81 [avb l] (.b (decide l.Nodup)):=by
 refine aZ cI Tryz.func81 g0 ?_
 ·skip;refine gW (fun(k:Nat)=>(.k::.k::.j::.k::.k::.j::.k::.k::.k::.v (.i .i64 k)::(rp 9 .j []))) (fun k=>[.map false ((l.take k).map elB) (List.replicate k (.b true))]) (fun k=>k≤l.length∧∀j,j<k→(l.take j).contains (l.getD j ([],[]))=false) (fun k=>l.length-k) (0) _ ⟨aR _,fun j h=>by omega⟩ rfl (by simp[fO]) ?_;rintro k g j ⟨hk,ha⟩;refine zg ?_;(refine zs0 ?_;repeat' first|exact trivial|refine zJ ?_ ?_|refine zH fun hc=>?_)
  ·by_cases hx:(l.take k).contains (l.getD k ([],[]))=true
   ·obtain⟨i,hi,hf⟩:=C3 hx;have hi':i<k:=by simp at hi;omega
    have hk2:=cBb (l.getD k ([],[])) (l.take k);simp only[elB,bZ]at hk2;simp -implicitDefEqProofs (disch:=omega) only[kH,hk2,hf,aGf hi',go_sem,simprocAttr];refine aV ?_ (by rfl);rw[zf (fun hn=>by rw[oS hn (by omega)]at hx;cases hx)]
   ·have hx:=cT.2 hx;have hk2:=cBb (l.getD k ([],[])) (l.take k);simp only[elB,bZ]at hk2;refine zh (zA2 @kH.eq_1 (zA2 hk2 (oU hx))) ?_;refine⟨k+1,_,⟨by omega,cR ha hx⟩,by omega,congr (congrArg List.cons ?_) rfl,by simp⟩;rw[eZ (d:=([],[])) (by omega),bO,aPe];rfl
  ·refine aV ?_ (by rfl);have h1:k=l.length:=by omega
   rw[zt (xO (h1▸ha))]
theorem bTy(l:List Int)(hl:l.length≤140737488355328): CT 157 [avi l] (.b (decide l.Nodup)):=by
 refine aZ cI Tryz.func157 g0 ?_
 ·skip;refine cO (fun(k:Nat)=>(.k::.k::.j::.k::.k::.j::.k::.k::.k::.v (.i .i64 k)::(rp 9 .j []))) (fun k=>[.map false ((l.take k).map (.i .i64)) (List.replicate k (.b true))]) (fun k=>k≤l.length∧∀j,j<k→(l.take j).contains (l.getD j 0)=false) (fun k=>l.length-k) (0) ⟨aR _,fun j h=>by omega⟩ rfl (by simp[fO]) ?_;rintro k j ⟨hk,ha⟩;refine zg ?_;(refine zs0 ?_;repeat' first|exact trivial|refine zJ ?_ ?_|refine zH fun hc=>?_)
  ·by_cases hx:(l.take k).contains (l.getD k 0)=true
   ·obtain⟨i,hi,hf⟩:=C3 hx;have hi':i<k:=by simp at hi;omega
    simp -implicitDefEqProofs (disch:=omega) only[kH,cBa,hf,aGf hi',go_sem,simprocAttr];refine aV ?_ (by rfl);rw[zf (fun hn=>by rw[oS hn (by omega)]at hx;cases hx)]
   ·have hx:=cT.2 hx;simp -implicitDefEqProofs (disch:=omega) only[kH,cBa,oU hx,go_sem,simprocAttr];refine⟨k+1,⟨by omega,cR ha hx⟩,by omega,?_,by simp⟩;rw[eZ (d:=0) (by omega),bO,aPe];rfl
  ·refine aV ?_ (by rfl);have h1:k=l.length:=by omega
   rw[zt (xO (h1▸ha))]
structure OkO(o:LOp):Prop where
 name:o.name.length≤140737488355328
 args:o.args.length≤140737488355328
 argsS:∀x∈o.args,x.length≤140737488355328
 sort:o.sort.length≤140737488355328
 pieces:o.pieces.length≤140737488355328
 piecesS:∀x∈o.pieces,x.1.length≤140737488355328∧x.2.length≤140737488355328
 strict:o.strict.length≤140737488355328
 piecesT:o.pieces.length≤4398046511104
 argsT:o.args.length≤8796093022208
 strictT:o.strict.length≤17592186044416
structure OkS(s:dF):Prop where
 sorts:s.sorts.length≤140737488355328
 sortsS:∀x∈s.sorts,x.length≤140737488355328
 below:s.below.length≤140737488355328
 belowS:∀x∈s.below,x.1.length≤140737488355328∧x.2.length≤140737488355328
 ops:s.ops.length≤140737488355328
 opsO:∀x∈s.ops,OkO x
 funs:s.funs.length≤140737488355328
 funsO:∀x∈s.funs,OkO x
 values:s.values.length≤140737488355328
 opsT:s.ops.length≤1172812402961
 funsT:s.funs.length≤1172812402961
 valuesS:∀x∈s.values,x.length≤140737488355328
theorem cC{α:Type}{l:List α}{d:α}{k:Nat}(h:k<l.length):l.getD k d∈l:=by simp[List.getD,h]
end Go.Proofs.YtdjcggcjlphdoaaGreatDoor

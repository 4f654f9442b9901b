/-
  The types of the program, as far as its code asks; no condition.
-/
import Derived.Test.YtdjcggcjlphdoaaGreatDoorProg
import Derived.Test.YtdjcggcjlphdoaaGreatDoorVoP76
import Derived.Lib.Space
import Derived.Lib.ItoaNum
import Derived.Test.YtdjcggcjlphdoaaGreatDoorSoP71
set_option linter.unusedVariables false
set_option maxRecDepth 100000
set_option linter.unusedSimpArgs false
set_option maxHeartbeats 4000000
namespace Go.Proofs.YtdjcggcjlphdoaaGreatDoor
open Go Go.Vo
open Nat (reduceAdd reduceSub reduceMul reduceLeDiff reduceLT reduceEqDiff)
open Int (reduceNeg)
theorem dE:Tryz.prog.follows .mixedOrders=true:=by kernel_rfl
def zQ:List AV:=Lib.asciiSpaceTab.map (.i .u8)
def Y0:List AV:=Lib.pow10Tab.map (.i .u64)
def G0:Glob:=fun g=>if g=0 then some (.box zQ 0)else if g=2 then some (.box Y0 0)else none
theorem g0:pC G0:=fun k a h=>by
 unfold G0 at h;split at h
 ·cases h;simp only[pers,zQ,sR]
 ·split at h
  ·cases h;simp only[pers,Y0,sR]
  ·cases h
@[go_sem] theorem az3:kW Tryz.prog 3=none:=by kernel_rfl
@[go_sem] theorem az4:kW Tryz.prog 4=none:=by kernel_rfl
@[go_sem] theorem az9:kW Tryz.prog 9=none:=by kernel_rfl
@[go_sem] theorem cJa:kW Tryz.prog 26=none:=by kernel_rfl
@[go_sem] theorem cIz:kW Tryz.prog 28=none:=by kernel_rfl
@[go_sem] theorem cIy:kW Tryz.prog 30=none:=by kernel_rfl
@[go_sem] theorem cIx:kW Tryz.prog 38=none:=by kernel_rfl
@[go_sem] theorem cIw:kW Tryz.prog 62=none:=by kernel_rfl
@[go_sem] theorem cIv:kW Tryz.prog 67=some 6:=by kernel_rfl
@[go_sem] theorem cIu:kW Tryz.prog 75=none:=by kernel_rfl
@[go_sem] theorem cIt:kW Tryz.prog 89=none:=by kernel_rfl
@[go_sem] theorem cIs:kW Tryz.prog 97=none:=by kernel_rfl
@[go_sem] theorem cHe:kW Tryz.prog 101=none:=by kernel_rfl
@[go_sem] theorem cHd:kW Tryz.prog 107=none:=by kernel_rfl
@[go_sem] theorem cHc:kW Tryz.prog 114=none:=by kernel_rfl
@[go_sem] theorem cHb:kW Tryz.prog 117=none:=by kernel_rfl
@[go_sem] theorem cHa:kW Tryz.prog 123=none:=by kernel_rfl
@[go_sem] theorem cGz:kW Tryz.prog 125=none:=by kernel_rfl
@[go_sem] theorem cGy:kW Tryz.prog 129=none:=by kernel_rfl
@[go_sem] theorem cGx:kW Tryz.prog 132=none:=by kernel_rfl
@[go_sem] theorem cGw:kW Tryz.prog 139=none:=by kernel_rfl
@[go_sem] theorem cGv:kW Tryz.prog 150=none:=by kernel_rfl
@[go_sem] theorem cGu:kW Tryz.prog 160=none:=by kernel_rfl
@[go_sem] theorem cGt:kW Tryz.prog 174=none:=by kernel_rfl
@[go_sem] theorem cGs:kW Tryz.prog 224=none:=by kernel_rfl
@[go_sem] theorem cGr:kW Tryz.prog 249=none:=by kernel_rfl
@[go_sem] theorem sz3:kZ Tryz.prog 3=some 1:=by kernel_rfl
@[go_sem] theorem ag3:gX Tryz.prog 3=some false:=by kernel_rfl
@[go_sem] theorem zo3:zeroOf Tryz.prog 3=some [.i .i64 0]:=by kernel_rfl
@[go_sem] theorem un3:Program.underlying Tryz.prog 3=some (.int .i64):=by kernel_rfl
@[go_sem] theorem sz4:kZ Tryz.prog 4=some 1:=by kernel_rfl
@[go_sem] theorem ag4:gX Tryz.prog 4=some false:=by kernel_rfl
@[go_sem] theorem by4:aBp Tryz.prog 4=some 1:=by kernel_rfl
@[go_sem] theorem zo4:zeroOf Tryz.prog 4=some [.b false]:=by kernel_rfl
@[go_sem] theorem zv4:qS Tryz.prog 4=some (.b false):=by kernel_rfl
@[go_sem] theorem un4:Program.underlying Tryz.prog 4=some .bool:=by kernel_rfl
@[go_sem] theorem sz9:kZ Tryz.prog 9=some 1:=by kernel_rfl
@[go_sem] theorem ag9:gX Tryz.prog 9=some false:=by kernel_rfl
@[go_sem] theorem by9:aBp Tryz.prog 9=some 16:=by kernel_rfl
@[go_sem] theorem zo9:zeroOf Tryz.prog 9=some [.s []]:=by kernel_rfl
@[go_sem] theorem zv9:qS Tryz.prog 9=some (.s []):=by kernel_rfl
@[go_sem] theorem un9:Program.underlying Tryz.prog 9=some .string:=by kernel_rfl
@[go_sem] theorem cIm:kZ Tryz.prog 22=some 1:=by kernel_rfl
@[go_sem] theorem cJm:gX Tryz.prog 22=some false:=by kernel_rfl
@[go_sem] theorem cIf:zeroOf Tryz.prog 22=some [.e0]:=by kernel_rfl
@[go_sem] theorem cIb:qS Tryz.prog 22=some (.e0):=by kernel_rfl
@[go_sem] theorem cEd:Program.underlying Tryz.prog 22=some (.slice 9):=by kernel_rfl
@[go_sem] theorem bXh:fS Tryz.prog 22=some 9:=by kernel_rfl
@[go_sem] theorem cJl:gX Tryz.prog 23=some false:=by kernel_rfl
@[go_sem] theorem cIj:Program.underlying Tryz.prog 23=some (.slice 117):=by kernel_rfl
@[go_sem] theorem cJk:gX Tryz.prog 24=some false:=by kernel_rfl
@[go_sem] theorem cIi:Program.underlying Tryz.prog 24=some (.slice 114):=by kernel_rfl
@[go_sem] theorem cIr:fS Tryz.prog 24=some 114:=by kernel_rfl
@[go_sem] theorem cIl:kZ Tryz.prog 26=some 5:=by kernel_rfl
@[go_sem] theorem cJj:gX Tryz.prog 26=some true:=by kernel_rfl
@[go_sem] theorem cDa:eP Tryz.prog 26 0=some (0,some 1):=by kernel_rfl
@[go_sem] theorem cCz:eP Tryz.prog 26 1=some (1,some 1):=by kernel_rfl
@[go_sem] theorem cCy:eP Tryz.prog 26 2=some (2,some 1):=by kernel_rfl
@[go_sem] theorem cCx:eP Tryz.prog 26 3=some (3,some 1):=by kernel_rfl
@[go_sem] theorem cCw:eP Tryz.prog 26 4=some (4,some 1):=by kernel_rfl
@[go_sem] theorem cJi:gX Tryz.prog 27=some false:=by kernel_rfl
@[go_sem] theorem cIk:kZ Tryz.prog 28=some 1:=by kernel_rfl
@[go_sem] theorem cJh:gX Tryz.prog 28=some false:=by kernel_rfl
@[go_sem] theorem cIe:zeroOf Tryz.prog 28=some [.e0]:=by kernel_rfl
@[go_sem] theorem cDz:Program.underlying Tryz.prog 28=some (.slice 30):=by kernel_rfl
@[go_sem] theorem bHb:fS Tryz.prog 28=some 30:=by kernel_rfl
@[go_sem] theorem bFj:kZ Tryz.prog 30=some 6:=by kernel_rfl
@[go_sem] theorem cJg:gX Tryz.prog 30=some true:=by kernel_rfl
@[go_sem] theorem bIc:aBp Tryz.prog 30=some 96:=by kernel_rfl
@[go_sem] theorem bFe:zeroOf Tryz.prog 30=some [.i .i64 0,.i .i64 0,.s [],.s [],.e0,.e0]:=by kernel_rfl
@[go_sem] theorem cIa:qS Tryz.prog 30=some (.agg [.i .i64 0,.i .i64 0,.s [],.s [],.e0,.e0]):=by kernel_rfl
@[go_sem] theorem cCv:eP Tryz.prog 30 0=some (0,some 1):=by kernel_rfl
@[go_sem] theorem cCu:eP Tryz.prog 30 1=some (1,some 1):=by kernel_rfl
@[go_sem] theorem cCt:eP Tryz.prog 30 2=some (2,some 1):=by kernel_rfl
@[go_sem] theorem cCs:eP Tryz.prog 30 3=some (3,some 1):=by kernel_rfl
@[go_sem] theorem cCr:eP Tryz.prog 30 4=some (4,some 1):=by kernel_rfl
@[go_sem] theorem cCq:eP Tryz.prog 30 5=some (5,some 1):=by kernel_rfl
@[go_sem] theorem cIp:iX Tryz.prog 30=some [(0,1),(1,1),(2,1),(3,1),(4,1),(5,1)]:=by kernel_rfl
@[go_sem] theorem cBr:Program.underlying Tryz.prog 31=some (.slice 62):=by kernel_rfl
@[go_sem] theorem cIq:fS Tryz.prog 31=some 62:=by kernel_rfl
@[go_sem] theorem bQn:kZ Tryz.prog 32=some 1:=by kernel_rfl
@[go_sem] theorem cJf:gX Tryz.prog 32=some false:=by kernel_rfl
@[go_sem] theorem bWa:aBp Tryz.prog 32=some 24:=by kernel_rfl
@[go_sem] theorem bPo:zeroOf Tryz.prog 32=some [.e0]:=by kernel_rfl
@[go_sem] theorem bYa:Program.underlying Tryz.prog 32=some (.slice 62):=by kernel_rfl
@[go_sem] theorem cDc:fS Tryz.prog 32=some 62:=by kernel_rfl
@[go_sem] theorem cIh:Program.underlying Tryz.prog 37=some (.slice 32):=by kernel_rfl
@[go_sem] theorem bSr:fS Tryz.prog 37=some 32:=by kernel_rfl
@[go_sem] theorem cEo:kZ Tryz.prog 38=some 1:=by kernel_rfl
@[go_sem] theorem cJe:gX Tryz.prog 38=some false:=by kernel_rfl
@[go_sem] theorem cId:zeroOf Tryz.prog 38=some [.i .i64 0]:=by kernel_rfl
@[go_sem] theorem bWx:kZ Tryz.prog 62=some 7:=by kernel_rfl
@[go_sem] theorem cJd:gX Tryz.prog 62=some true:=by kernel_rfl
@[go_sem] theorem cDh:aBp Tryz.prog 62=some 112:=by kernel_rfl
@[go_sem] theorem cBq:zeroOf Tryz.prog 62=some [.s [],.i .i64 0,.i .i64 0,.s [],.s [],.e0,.e0]:=by kernel_rfl
@[go_sem] theorem cCp:eP Tryz.prog 62 0=some (0,some 1):=by kernel_rfl
@[go_sem] theorem cCo:eP Tryz.prog 62 1=some (1,some 6):=by kernel_rfl
@[go_sem] theorem cIo:iX Tryz.prog 62=some [(0,1),(1,6)]:=by kernel_rfl
@[go_sem] theorem cIg:Program.underlying Tryz.prog 67=some (.array 2 30):=by kernel_rfl
@[go_sem] theorem cJc:gX Tryz.prog 75=some false:=by kernel_rfl
@[go_sem] theorem cIc:zeroOf Tryz.prog 89=some [.p (.pointer Option.none),.e0,.b false,.b false]:=by kernel_rfl
@[go_sem] theorem cCn:eP Tryz.prog 89 0=some (0,some 1):=by kernel_rfl
@[go_sem] theorem cCm:eP Tryz.prog 89 1=some (1,some 1):=by kernel_rfl
@[go_sem] theorem cCl:eP Tryz.prog 89 2=some (2,some 1):=by kernel_rfl
@[go_sem] theorem cCk:eP Tryz.prog 89 3=some (3,some 1):=by kernel_rfl
@[go_sem] theorem cIn:iX Tryz.prog 89=some [(0,1),(1,1),(2,1),(3,1)]:=by kernel_rfl
@[go_sem] theorem cJb:gX Tryz.prog 97=some false:=by kernel_rfl
@[go_sem] theorem cEw:kZ Tryz.prog 101=some 1:=by kernel_rfl
@[go_sem] theorem cHx:gX Tryz.prog 101=some true:=by kernel_rfl
@[go_sem] theorem cDy:zeroOf Tryz.prog 101=some [.p (.pointer Option.none)]:=by kernel_rfl
@[go_sem] theorem cAe:eP Tryz.prog 101 0=some (0,some 1):=by kernel_rfl
@[go_sem] theorem cFk:iX Tryz.prog 101=some [(0,1)]:=by kernel_rfl
@[go_sem] theorem bQc:Program.underlying Tryz.prog 104=some (.map 9 30):=by kernel_rfl
@[go_sem] theorem cHw:gX Tryz.prog 107=some false:=by kernel_rfl
@[go_sem] theorem cHv:gX Tryz.prog 110=some false:=by kernel_rfl
@[go_sem] theorem cEn:Program.underlying Tryz.prog 110=some (.slice 224):=by kernel_rfl
@[go_sem] theorem cHu:gX Tryz.prog 111=some false:=by kernel_rfl
@[go_sem] theorem cHt:gX Tryz.prog 112=some false:=by kernel_rfl
@[go_sem] theorem cEm:Program.underlying Tryz.prog 112=some (.slice 3):=by kernel_rfl
@[go_sem] theorem cGk:fS Tryz.prog 112=some 3:=by kernel_rfl
@[go_sem] theorem cEv:kZ Tryz.prog 114=some 7:=by kernel_rfl
@[go_sem] theorem cHs:gX Tryz.prog 114=some true:=by kernel_rfl
@[go_sem] theorem cGq:aBp Tryz.prog 114=some 120:=by kernel_rfl
@[go_sem] theorem cDx:zeroOf Tryz.prog 114=some [.s [],.e0,.s [],.e0,.i .i64 0,.i .i64 0,.e0]:=by kernel_rfl
@[go_sem] theorem cDo:qS Tryz.prog 114=some (.agg [.s [],.e0,.s [],.e0,.i .i64 0,.i .i64 0,.e0]):=by kernel_rfl
@[go_sem] theorem cAd:eP Tryz.prog 114 0=some (0,some 1):=by kernel_rfl
@[go_sem] theorem cAc:eP Tryz.prog 114 1=some (1,some 1):=by kernel_rfl
@[go_sem] theorem cAb:eP Tryz.prog 114 2=some (2,some 1):=by kernel_rfl
@[go_sem] theorem cAa:eP Tryz.prog 114 3=some (3,some 1):=by kernel_rfl
@[go_sem] theorem bZz:eP Tryz.prog 114 4=some (4,some 1):=by kernel_rfl
@[go_sem] theorem bZy:eP Tryz.prog 114 5=some (5,some 1):=by kernel_rfl
@[go_sem] theorem bZx:eP Tryz.prog 114 6=some (6,some 1):=by kernel_rfl
@[go_sem] theorem cFj:iX Tryz.prog 114=some [(0,1),(1,1),(2,1),(3,1),(4,1),(5,1),(6,1)]:=by kernel_rfl
@[go_sem] theorem cEu:kZ Tryz.prog 117=some 2:=by kernel_rfl
@[go_sem] theorem cHr:gX Tryz.prog 117=some true:=by kernel_rfl
@[go_sem] theorem cDw:zeroOf Tryz.prog 117=some [.s [],.s []]:=by kernel_rfl
@[go_sem] theorem bZw:eP Tryz.prog 117 0=some (0,some 1):=by kernel_rfl
@[go_sem] theorem bZv:eP Tryz.prog 117 1=some (1,some 1):=by kernel_rfl
@[go_sem] theorem bZb:kG Tryz.prog 117=some [9,9]:=by kernel_rfl
@[go_sem] theorem cHq:gX Tryz.prog 123=some false:=by kernel_rfl
@[go_sem] theorem cHp:gX Tryz.prog 125=some false:=by kernel_rfl
@[go_sem] theorem cHo:gX Tryz.prog 126=some false:=by kernel_rfl
@[go_sem] theorem cEl:Program.underlying Tryz.prog 126=some (.map 9 22):=by kernel_rfl
@[go_sem] theorem cHn:gX Tryz.prog 127=some false:=by kernel_rfl
@[go_sem] theorem cEk:Program.underlying Tryz.prog 127=some (.map 9 114):=by kernel_rfl
@[go_sem] theorem cDv:zeroOf Tryz.prog 129=some [.e0,.e0,.e0,.e0,.e0,.p (.map Option.none),.p (.map Option.none),.p (.map Option.none)]:=by kernel_rfl
@[go_sem] theorem bZu:eP Tryz.prog 129 0=some (0,some 5):=by kernel_rfl
@[go_sem] theorem bZt:eP Tryz.prog 129 1=some (5,some 1):=by kernel_rfl
@[go_sem] theorem bZs:eP Tryz.prog 129 2=some (6,some 1):=by kernel_rfl
@[go_sem] theorem bZr:eP Tryz.prog 129 3=some (7,some 1):=by kernel_rfl
@[go_sem] theorem cFi:iX Tryz.prog 129=some [(0,5),(5,1),(6,1),(7,1)]:=by kernel_rfl
@[go_sem] theorem cEt:kZ Tryz.prog 132=some 1:=by kernel_rfl
@[go_sem] theorem cHm:gX Tryz.prog 132=some false:=by kernel_rfl
@[go_sem] theorem cDu:zeroOf Tryz.prog 132=some [.p (.map Option.none)]:=by kernel_rfl
@[go_sem] theorem cEj:Program.underlying Tryz.prog 132=some (.map 9 9):=by kernel_rfl
@[go_sem] theorem cDt:zeroOf Tryz.prog 138=some []:=by kernel_rfl
@[go_sem] theorem cFh:iX Tryz.prog 138=some []:=by kernel_rfl
@[go_sem] theorem cEs:kZ Tryz.prog 139=some 1:=by kernel_rfl
@[go_sem] theorem cHl:gX Tryz.prog 139=some true:=by kernel_rfl
@[go_sem] theorem cDs:zeroOf Tryz.prog 139=some [.p (.pointer Option.none)]:=by kernel_rfl
@[go_sem] theorem bZq:eP Tryz.prog 139 0=some (0,some 1):=by kernel_rfl
@[go_sem] theorem cFg:iX Tryz.prog 139=some [(0,1)]:=by kernel_rfl
@[go_sem] theorem cEr:kZ Tryz.prog 150=some 2:=by kernel_rfl
@[go_sem] theorem cDr:zeroOf Tryz.prog 150=some [.i .i64 0,.b false]:=by kernel_rfl
@[go_sem] theorem bZp:eP Tryz.prog 150 0=some (0,some 1):=by kernel_rfl
@[go_sem] theorem bZo:eP Tryz.prog 150 1=some (1,some 1):=by kernel_rfl
@[go_sem] theorem cFf:iX Tryz.prog 150=some [(0,1),(1,1)]:=by kernel_rfl
@[go_sem] theorem cEq:kZ Tryz.prog 160=some 1:=by kernel_rfl
@[go_sem] theorem cHk:gX Tryz.prog 160=some false:=by kernel_rfl
@[go_sem] theorem cDq:zeroOf Tryz.prog 160=some [.e0]:=by kernel_rfl
@[go_sem] theorem cEi:Program.underlying Tryz.prog 160=some (.slice 4):=by kernel_rfl
@[go_sem] theorem cGj:fS Tryz.prog 160=some 4:=by kernel_rfl
@[go_sem] theorem cEh:Program.underlying Tryz.prog 168=some (.map 117 4):=by kernel_rfl
@[go_sem] theorem cEg:Program.underlying Tryz.prog 169=some (.map 9 4):=by kernel_rfl
@[go_sem] theorem cHj:gX Tryz.prog 174=some false:=by kernel_rfl
@[go_sem] theorem cEf:Program.underlying Tryz.prog 177=some (.slice 22):=by kernel_rfl
@[go_sem] theorem cGi:fS Tryz.prog 177=some 22:=by kernel_rfl
@[go_sem] theorem cEe:Program.underlying Tryz.prog 197=some (.slice 28):=by kernel_rfl
@[go_sem] theorem cGh:fS Tryz.prog 197=some 28:=by kernel_rfl
@[go_sem] theorem cEc:Program.underlying Tryz.prog 222=some (.map 3 4):=by kernel_rfl
@[go_sem] theorem cEp:kZ Tryz.prog 224=some 2:=by kernel_rfl
@[go_sem] theorem cHi:gX Tryz.prog 224=some true:=by kernel_rfl
@[go_sem] theorem cDp:zeroOf Tryz.prog 224=some [.s [],.s []]:=by kernel_rfl
@[go_sem] theorem bZn:eP Tryz.prog 224 0=some (0,some 1):=by kernel_rfl
@[go_sem] theorem bZm:eP Tryz.prog 224 1=some (1,some 1):=by kernel_rfl
@[go_sem] theorem cEb:Program.underlying Tryz.prog 237=some (.int .u64):=by kernel_rfl
@[go_sem] theorem cEa:Program.underlying Tryz.prog 247=some (.slice 249):=by kernel_rfl
@[go_sem] theorem bDa:fS Tryz.prog 247=some 249:=by kernel_rfl
@[go_sem] theorem aZo:kZ Tryz.prog 249=some 2:=by kernel_rfl
@[go_sem] theorem cHh:gX Tryz.prog 249=some true:=by kernel_rfl
@[go_sem] theorem bDy:aBp Tryz.prog 249=some 48:=by kernel_rfl
@[go_sem] theorem aZc:zeroOf Tryz.prog 249=some [.e0,.e0]:=by kernel_rfl
@[go_sem] theorem bZl:eP Tryz.prog 249 0=some (0,some 1):=by kernel_rfl
@[go_sem] theorem bZk:eP Tryz.prog 249 1=some (1,some 1):=by kernel_rfl
@[go_sem] theorem cFe:iX Tryz.prog 249=some [(0,1),(1,1)]:=by kernel_rfl
end Go.Proofs.YtdjcggcjlphdoaaGreatDoor
namespace Go.Vo
theorem zdA:(∀l,avs l=.sl (l.map .s) l.length)∧(∀l,avb l=.sl (l.flatMap fX) l.length)∧(∀l,avi l=.sl (l.map (.i .i64)) l.length)∧(∀l,avo l=.sl (l.flatMap fR) l.length)∧(∀s,dW s=[avs s.sorts,avb s.below,avo s.ops,avo s.funs,avs s.values])∧(∀o,fR o=[.s o.name,avs o.args,.s o.sort,avb o.pieces,.i .i64 o.prec,.i .i64 o.assoc,avi o.strict])∧(∀b,fX b=[.s b.1,.s b.2]):=⟨fun _=>rfl,fun _=>rfl,fun _=>rfl,fun _=>rfl,fun _=>rfl,fun _=>rfl,fun _=>rfl⟩
theorem cE{P:Program}{G:Glob}{dr:Option DR}{d:Option Nat}{os:List fZ}{K:List AV→List AObj→Prop}{env:List AV}{h:List AObj}{f:FuncId}{A A':List AV}{r:AV}(s:Ctr P G f A' r)
 (k:dM P G dr os K (iE env d (mat r (gM r h A)).1) (mat r (gM r h A)).2) (hA:A.map (iA dep h)=A':=by(simp -implicitDefEqProofs (disch:=omega) only[zdA,go_sem,↓reduceIte,reduceAdd,reduceSub,reduceMul,reduceLeDiff,reduceLT,reduceEqDiff,reduceNeg,Nat.reduceBEq];done)):zN P G dr f A d os K env h:=bJ s hA k
theorem zs1{K1:Prop}{p q:Prop}(k1:K1)(h:q)(e:K1→Cv q p:=by
 intro k1;repeat' first|with_reducible apply vT|with_reducible apply vF|with_reducible apply vC|((first|((with_reducible apply vE);(focus exact k1);(focus(simp -implicitDefEqProofs (disch:=omega) only[zdA,go_sem,simprocAttr];done)))|((with_reducible apply vE);(focus(apply k1<;>omega));(focus(simp -implicitDefEqProofs (disch:=omega) only[zdA,go_sem,simprocAttr];done)))|((with_reducible apply vR);focus exact k1 ..));simp -implicitDefEqProofs (disch:=omega) only[go_sem,simprocAttr])|((with_reducible apply vA);focus omega)|((with_reducible apply vI);(focus(intro hr;(try simp only[zdz]at hr);exact hr));intro hr;have hc:=hr;(try simp only[zdz]at hc);simp -implicitDefEqProofs (disch:=omega) only[hr,go_sem,simprocAttr];(try clear hr))
 any_goals exact vS):p:=(e k1).1 h
theorem zx1{K1:Prop}{x:Prop}{p q:Prop}(X:x)(k1:K1)(h:q)(e:x→K1→Cv q p:=by
 intro X k1;repeat' first|with_reducible apply vT|with_reducible apply vF|with_reducible apply vC|((first|((with_reducible apply vE);(focus exact k1);(focus(simp -implicitDefEqProofs (disch:=omega) only[X,zdA,go_sem,simprocAttr];done)))|((with_reducible apply vE);(focus(apply k1<;>omega));(focus(simp -implicitDefEqProofs (disch:=omega) only[X,zdA,go_sem,simprocAttr];done)))|((with_reducible apply vR);focus exact k1 ..));simp -implicitDefEqProofs (disch:=omega) only[X,go_sem,simprocAttr])|((with_reducible apply vA);focus omega)|((with_reducible apply vI);(focus(intro hr;(try simp only[zdz]at hr);exact hr));intro hr;have hc:=hr;(try simp only[zdz]at hc);simp -implicitDefEqProofs (disch:=omega) only[hr,X,go_sem,simprocAttr];(try clear hr))
 any_goals exact vS):p:=(e X k1).1 h
theorem zs2{K1:Prop}{K2:Prop}{p q:Prop}(k1:K1)(k2:K2)(h:q)(e:K1→K2→Cv q p:=by
 intro k1 k2;repeat' first|with_reducible apply vT|with_reducible apply vF|with_reducible apply vC|((first|((with_reducible apply vE);(focus exact k1);(focus(simp -implicitDefEqProofs (disch:=omega) only[zdA,go_sem,simprocAttr];done)))|((with_reducible apply vE);(focus(apply k1<;>omega));(focus(simp -implicitDefEqProofs (disch:=omega) only[zdA,go_sem,simprocAttr];done)))|((with_reducible apply vR);focus exact k1 ..)|((with_reducible apply vE);(focus exact k2);(focus(simp -implicitDefEqProofs (disch:=omega) only[zdA,go_sem,simprocAttr];done)))|((with_reducible apply vE);(focus(apply k2<;>omega));(focus(simp -implicitDefEqProofs (disch:=omega) only[zdA,go_sem,simprocAttr];done)))|((with_reducible apply vR);focus exact k2 ..));simp -implicitDefEqProofs (disch:=omega) only[go_sem,simprocAttr])|((with_reducible apply vA);focus omega)|((with_reducible apply vI);(focus(intro hr;(try simp only[zdz]at hr);exact hr));intro hr;have hc:=hr;(try simp only[zdz]at hc);simp -implicitDefEqProofs (disch:=omega) only[hr,go_sem,simprocAttr];(try clear hr))
 any_goals exact vS):p:=(e k1 k2).1 h
theorem zx2{K1:Prop}{K2:Prop}{x:Prop}{p q:Prop}(X:x)(k1:K1)(k2:K2)(h:q)(e:x→K1→K2→Cv q p:=by
 intro X k1 k2;repeat' first|with_reducible apply vT|with_reducible apply vF|with_reducible apply vC|((first|((with_reducible apply vE);(focus exact k1);(focus(simp -implicitDefEqProofs (disch:=omega) only[X,zdA,go_sem,simprocAttr];done)))|((with_reducible apply vE);(focus(apply k1<;>omega));(focus(simp -implicitDefEqProofs (disch:=omega) only[X,zdA,go_sem,simprocAttr];done)))|((with_reducible apply vR);focus exact k1 ..)|((with_reducible apply vE);(focus exact k2);(focus(simp -implicitDefEqProofs (disch:=omega) only[X,zdA,go_sem,simprocAttr];done)))|((with_reducible apply vE);(focus(apply k2<;>omega));(focus(simp -implicitDefEqProofs (disch:=omega) only[X,zdA,go_sem,simprocAttr];done)))|((with_reducible apply vR);focus exact k2 ..));simp -implicitDefEqProofs (disch:=omega) only[X,go_sem,simprocAttr])|((with_reducible apply vA);focus omega)|((with_reducible apply vI);(focus(intro hr;(try simp only[zdz]at hr);exact hr));intro hr;have hc:=hr;(try simp only[zdz]at hc);simp -implicitDefEqProofs (disch:=omega) only[hr,X,go_sem,simprocAttr];(try clear hr))
 any_goals exact vS):p:=(e X k1 k2).1 h
theorem zs3{K1:Prop}{K2:Prop}{K3:Prop}{p q:Prop}(k1:K1)(k2:K2)(k3:K3)(h:q)(e:K1→K2→K3→Cv q p:=by
 intro k1 k2 k3;repeat' first|with_reducible apply vT|with_reducible apply vF|with_reducible apply vC|((first|((with_reducible apply vE);(focus exact k1);(focus(simp -implicitDefEqProofs (disch:=omega) only[zdA,go_sem,simprocAttr];done)))|((with_reducible apply vE);(focus(apply k1<;>omega));(focus(simp -implicitDefEqProofs (disch:=omega) only[zdA,go_sem,simprocAttr];done)))|((with_reducible apply vR);focus exact k1 ..)|((with_reducible apply vE);(focus exact k2);(focus(simp -implicitDefEqProofs (disch:=omega) only[zdA,go_sem,simprocAttr];done)))|((with_reducible apply vE);(focus(apply k2<;>omega));(focus(simp -implicitDefEqProofs (disch:=omega) only[zdA,go_sem,simprocAttr];done)))|((with_reducible apply vR);focus exact k2 ..)|((with_reducible apply vE);(focus exact k3);(focus(simp -implicitDefEqProofs (disch:=omega) only[zdA,go_sem,simprocAttr];done)))|((with_reducible apply vE);(focus(apply k3<;>omega));(focus(simp -implicitDefEqProofs (disch:=omega) only[zdA,go_sem,simprocAttr];done)))|((with_reducible apply vR);focus exact k3 ..));simp -implicitDefEqProofs (disch:=omega) only[go_sem,simprocAttr])|((with_reducible apply vA);focus omega)|((with_reducible apply vI);(focus(intro hr;(try simp only[zdz]at hr);exact hr));intro hr;have hc:=hr;(try simp only[zdz]at hc);simp -implicitDefEqProofs (disch:=omega) only[hr,go_sem,simprocAttr];(try clear hr))
 any_goals exact vS):p:=(e k1 k2 k3).1 h
theorem zx3{K1:Prop}{K2:Prop}{K3:Prop}{x:Prop}{p q:Prop}(X:x)(k1:K1)(k2:K2)(k3:K3)(h:q)(e:x→K1→K2→K3→Cv q p:=by
 intro X k1 k2 k3;repeat' first|with_reducible apply vT|with_reducible apply vF|with_reducible apply vC|((first|((with_reducible apply vE);(focus exact k1);(focus(simp -implicitDefEqProofs (disch:=omega) only[X,zdA,go_sem,simprocAttr];done)))|((with_reducible apply vE);(focus(apply k1<;>omega));(focus(simp -implicitDefEqProofs (disch:=omega) only[X,zdA,go_sem,simprocAttr];done)))|((with_reducible apply vR);focus exact k1 ..)|((with_reducible apply vE);(focus exact k2);(focus(simp -implicitDefEqProofs (disch:=omega) only[X,zdA,go_sem,simprocAttr];done)))|((with_reducible apply vE);(focus(apply k2<;>omega));(focus(simp -implicitDefEqProofs (disch:=omega) only[X,zdA,go_sem,simprocAttr];done)))|((with_reducible apply vR);focus exact k2 ..)|((with_reducible apply vE);(focus exact k3);(focus(simp -implicitDefEqProofs (disch:=omega) only[X,zdA,go_sem,simprocAttr];done)))|((with_reducible apply vE);(focus(apply k3<;>omega));(focus(simp -implicitDefEqProofs (disch:=omega) only[X,zdA,go_sem,simprocAttr];done)))|((with_reducible apply vR);focus exact k3 ..));simp -implicitDefEqProofs (disch:=omega) only[X,go_sem,simprocAttr])|((with_reducible apply vA);focus omega)|((with_reducible apply vI);(focus(intro hr;(try simp only[zdz]at hr);exact hr));intro hr;have hc:=hr;(try simp only[zdz]at hc);simp -implicitDefEqProofs (disch:=omega) only[hr,X,go_sem,simprocAttr];(try clear hr))
 any_goals exact vS):p:=(e X k1 k2 k3).1 h
theorem zs4{K1:Prop}{K2:Prop}{K3:Prop}{K4:Prop}{p q:Prop}(k1:K1)(k2:K2)(k3:K3)(k4:K4)(h:q)(e:K1→K2→K3→K4→Cv q p:=by
 intro k1 k2 k3 k4;repeat' first|with_reducible apply vT|with_reducible apply vF|with_reducible apply vC|((first|((with_reducible apply vE);(focus exact k1);(focus(simp -implicitDefEqProofs (disch:=omega) only[zdA,go_sem,simprocAttr];done)))|((with_reducible apply vE);(focus(apply k1<;>omega));(focus(simp -implicitDefEqProofs (disch:=omega) only[zdA,go_sem,simprocAttr];done)))|((with_reducible apply vR);focus exact k1 ..)|((with_reducible apply vE);(focus exact k2);(focus(simp -implicitDefEqProofs (disch:=omega) only[zdA,go_sem,simprocAttr];done)))|((with_reducible apply vE);(focus(apply k2<;>omega));(focus(simp -implicitDefEqProofs (disch:=omega) only[zdA,go_sem,simprocAttr];done)))|((with_reducible apply vR);focus exact k2 ..)|((with_reducible apply vE);(focus exact k3);(focus(simp -implicitDefEqProofs (disch:=omega) only[zdA,go_sem,simprocAttr];done)))|((with_reducible apply vE);(focus(apply k3<;>omega));(focus(simp -implicitDefEqProofs (disch:=omega) only[zdA,go_sem,simprocAttr];done)))|((with_reducible apply vR);focus exact k3 ..)|((with_reducible apply vE);(focus exact k4);(focus(simp -implicitDefEqProofs (disch:=omega) only[zdA,go_sem,simprocAttr];done)))|((with_reducible apply vE);(focus(apply k4<;>omega));(focus(simp -implicitDefEqProofs (disch:=omega) only[zdA,go_sem,simprocAttr];done)))|((with_reducible apply vR);focus exact k4 ..));simp -implicitDefEqProofs (disch:=omega) only[go_sem,simprocAttr])|((with_reducible apply vA);focus omega)|((with_reducible apply vI);(focus(intro hr;(try simp only[zdz]at hr);exact hr));intro hr;have hc:=hr;(try simp only[zdz]at hc);simp -implicitDefEqProofs (disch:=omega) only[hr,go_sem,simprocAttr];(try clear hr))
 any_goals exact vS):p:=(e k1 k2 k3 k4).1 h
theorem zx4{K1:Prop}{K2:Prop}{K3:Prop}{K4:Prop}{x:Prop}{p q:Prop}(X:x)(k1:K1)(k2:K2)(k3:K3)(k4:K4)(h:q)(e:x→K1→K2→K3→K4→Cv q p:=by
 intro X k1 k2 k3 k4;repeat' first|with_reducible apply vT|with_reducible apply vF|with_reducible apply vC|((first|((with_reducible apply vE);(focus exact k1);(focus(simp -implicitDefEqProofs (disch:=omega) only[X,zdA,go_sem,simprocAttr];done)))|((with_reducible apply vE);(focus(apply k1<;>omega));(focus(simp -implicitDefEqProofs (disch:=omega) only[X,zdA,go_sem,simprocAttr];done)))|((with_reducible apply vR);focus exact k1 ..)|((with_reducible apply vE);(focus exact k2);(focus(simp -implicitDefEqProofs (disch:=omega) only[X,zdA,go_sem,simprocAttr];done)))|((with_reducible apply vE);(focus(apply k2<;>omega));(focus(simp -implicitDefEqProofs (disch:=omega) only[X,zdA,go_sem,simprocAttr];done)))|((with_reducible apply vR);focus exact k2 ..)|((with_reducible apply vE);(focus exact k3);(focus(simp -implicitDefEqProofs (disch:=omega) only[X,zdA,go_sem,simprocAttr];done)))|((with_reducible apply vE);(focus(apply k3<;>omega));(focus(simp -implicitDefEqProofs (disch:=omega) only[X,zdA,go_sem,simprocAttr];done)))|((with_reducible apply vR);focus exact k3 ..)|((with_reducible apply vE);(focus exact k4);(focus(simp -implicitDefEqProofs (disch:=omega) only[X,zdA,go_sem,simprocAttr];done)))|((with_reducible apply vE);(focus(apply k4<;>omega));(focus(simp -implicitDefEqProofs (disch:=omega) only[X,zdA,go_sem,simprocAttr];done)))|((with_reducible apply vR);focus exact k4 ..));simp -implicitDefEqProofs (disch:=omega) only[X,go_sem,simprocAttr])|((with_reducible apply vA);focus omega)|((with_reducible apply vI);(focus(intro hr;(try simp only[zdz]at hr);exact hr));intro hr;have hc:=hr;(try simp only[zdz]at hc);simp -implicitDefEqProofs (disch:=omega) only[hr,X,go_sem,simprocAttr];(try clear hr))
 any_goals exact vS):p:=(e X k1 k2 k3 k4).1 h
end Go.Vo
namespace Go.Proofs.YtdjcggcjlphdoaaGreatDoor
open Go Go.Vo
open Nat (reduceAdd reduceSub reduceMul reduceLeDiff reduceLT reduceEqDiff)
open Int (reduceNeg)
abbrev CT:=Ctr Tryz.prog G0
def aDp(n:Int):Bool:=decide (97≤n)&&decide (n≤122)||decide (65≤n)&&decide (n≤90)
def bSv(n:Int):Bool:=decide (48≤n)&&decide (n≤57)
theorem bSz(n:Int): CT 126 [.i .u8 n] (.b (aDp n)):=by
 refine cI dE Tryz.func126 g0 ?_
 ·skip;repeat'(first|refine gT ?_ ?_|refine gF ?_ ?_|refine gC ?_ ?_|(intro hc;simp -implicitDefEqProofs only[hc,go_sem]))
  all_goals(refine bR ?_ (by rfl);simp_all[aDp]<;>omega)
def part(n:Int):Bool:=aDp n||bSv n||decide (n=95)
theorem bSy(n:Int): CT 127 [.i .u8 n] (.b (part n)):=by
 refine cI dE Tryz.func127 g0 ?_
 ·skip;repeat'(first|refine gT ?_ ?_|refine gF ?_ ?_|refine gC ?_ ?_|refine aWr (bSz _) ?_;simp -implicitDefEqProofs only[go_sem]|(intro hc;simp -implicitDefEqProofs only[hc,go_sem]))
  all_goals(refine bR ?_ (by rfl);simp_all[part,bSv]<;>omega)
def at_(s:Str)(k:Nat):Int:=((s.getD k 0).toNat:Int)
def isName(s:Str):Bool := !s.isEmpty&&decide (s.length≤40)&&aDp (at_ s 0)&&s.all fun c=>part c.toNat
theorem bIg{s:Str}{q:Int→Bool}(h:∀j,j<s.length→q (at_ s j)=true):(s.all fun c=>q c.toNat)=true:=by
 rw[bC];intro c hc;obtain⟨j,hj,rfl⟩:=dJ.1 hc;have:=h j hj;simpa[at_,hj]using this
theorem qD{s:Str}{q:Int→Bool}{j:Nat}(hj:j<s.length)(h:q (at_ s j)=false):(s.all fun c=>q c.toNat)=false:=by
 rw[List.all_eq_false];exact⟨s[j],aBu hj,by simpa[at_,hj]using h⟩
theorem Q4(s:Str)(hs:s.length≤140737488355328): CT 66 [.s s] (.b (isName s)):=by
 refine cI dE Tryz.func66 g0 ?_
 ·skip;(refine zs1 bSz ?_;repeat' first|exact trivial|refine zJ ?_ ?_|refine zH fun hc=>?_);any_goals(refine bR ?_ (by rfl);simp_all[isName,at_]<;>omega)
  refine dV (fun(k:Nat)=>(.k::.k::.j::.j::(rp 15 .k (.v (.i .i64 k)::(rp 8 .j []))))) (fun k=>[]) (fun k=>k≤s.length∧∀j,j<k→part (at_ s j)=true) (fun k=>s.length-k) (0) ⟨bX _,fun j h=>by omega⟩ rfl (by simp[iS]) ?_;rintro k j ⟨hk,ha⟩;refine zg ?_;(refine zs1 bSy ?_;repeat' first|exact trivial|refine zJ ?_ ?_|refine zH fun hc=>?_)
  ·refine bR ?_ (by rfl);simp only[isName,qD (show k<s.length by omega) (by simpa[at_]using hc),aS]
  ·exact⟨k+1,⟨by omega,fF ha (by simpa[at_]using hc)⟩,by omega,by simp⟩
  ·refine bR ?_ (by rfl);have h1:k=s.length:=by omega
   simp only[isName,bIg (h1▸ha)];simp_all[at_]<;>omega
def zE(s:Str):Bool:=decide (2<s.length)&&decide (at_ s (s.length-2)=39)&&decide (49≤at_ s (s.length-1))&&decide (at_ s (s.length-1)≤56)
def C4(s:Str):Str:=if zE s then s.take (s.length-2)else s
def frame(s:Str):Str:=if zE s then s.drop (s.length-2)else []
theorem bHx(s:Str)(hs:s.length≤140737488355328): CT 153 [.s s] (.tup [.s (C4 s),.s (frame s)]):=by
 refine cI dE Tryz.func153 g0 ?_
 ·skip;(refine zs0 ?_;repeat' first|exact trivial|refine zJ ?_ ?_|refine zH fun hc=>?_);all_goals(refine bR ?_ (by rfl))
  ·have h:zE s=true:=by simp_all[zE,at_]<;>omega
   simp[C4,frame,h]
  all_goals(have h:zE s=false:=by simp_all[zE,at_]<;>omega)
  all_goals simp[C4,frame,h]
theorem aLs(s:Str):(C4 s).length≤s.length:=by unfold C4;split<;>simp<;>omega
def alwaysA:List Str:=[[65,110,121],[73,110,116],[66,111,111,108],[84,101,120,116],[73,100],[76,105,115,116],[77,97,112]]
theorem bTx:CT 85 [] (.own 1 (alwaysA.map .s) alwaysA.length):=by
 refine cI dE Tryz.func85 g0 ?_
 ·skip;exact aVa rfl rfl rfl rfl rfl
def bOr:List Str:=[[65,110,121],[66,111,111,108],[73,100],[73,110,116],[76,105,115,116],[77,97,112],[84,101,120,116]]
def idx{α:Type}(p:α→Bool)(l:List α):Int:=match l.findIdx? p with|some i=>i|none => -1
theorem xS{α:Type}{p:α→Bool}{l:List α}{d:α}{k:Nat}(hk:k<l.length)(h:p (l.getD k d)=true)(hn:∀j,j<k→p (l.getD j d)=false):idx p l=k:=by
 have:l.findIdx? p=some k:=by
  rw[iN];refine⟨hk,by simpa[List.getD,hk]using h,fun j hj=>?_⟩;have:=hn j hj;simpa[List.getD,show j<l.length by omega]using this
 simp[idx,this]
theorem xT{α:Type}{p:α→Bool}{l:List α}{d:α}(hn:∀j,j<l.length→p (l.getD j d)=false):idx p l = -1:=by
 have:l.findIdx? p=none:=by
  rw[fU];intro x hx;obtain⟨j,hj,rfl⟩:=dJ.1 hx;have:=hn j hj;simpa[List.getD,hj]using this
 simp[idx,this]
theorem L4{α:Type}{p:α→Bool}{l:List α}:decide (0≤idx p l)=l.any p:=by
 unfold idx;cases h:l.findIdx? p with
 |none=>
  rw[fU]at h;have:l.any p=false:=by rw[gV];intro x hx;simp[h x hx]
  rw[this];rfl
 |some i=>
  rw[iN]at h;obtain⟨hi,hp,_⟩:=h;have:l.any p=true:=pK.2 ⟨_,aBu hi,hp⟩;rw[this];simp
theorem bVo(l:List Str)(s:Str)(hl:l.length≤140737488355328): CT 146 [avs l,.s s] (.i .i64 (idx (fun x=>decide (s=x)) l)):=by
 refine dO dE Tryz.func146 g0 ?_
 ·simp -implicitDefEqProofs (disch:=omega) only[Tryz.f146,go_sem,List.replicate,simprocAttr,avs];refine dV (fun(k:Nat)=>(.k::.k::.k::.k::.j::.j::.k::.k::.v (.i .i64 k)::(rp 10 .j []))) (fun k=>[]) (fun k=>k≤l.length∧∀j,j<k→decide (s=l.getD j [])=false) (fun k=>l.length-k) (0) ⟨bX _,fun j h=>by omega⟩ rfl (by simp[iS]) ?_;rintro k j ⟨hk,ha⟩;refine zg ?_;(refine zs0 ?_;repeat' first|exact trivial|refine zJ ?_ ?_|refine zH fun hc=>?_)
  ·refine bR ?_ (by rfl);rw[xS (d:=[]) (k:=k) (by omega) (by simpa using hc) ha]
  ·exact⟨k+1,⟨by omega,fF ha (by simpa using hc)⟩,by omega,by simp⟩
  ·refine bR ?_ (by rfl);have h1:k=l.length:=by omega
   rw[xT (h1▸ha)]
theorem aDy{s:Str}{l:List Str}:decide (0≤idx (fun x=>decide (s=x)) l)=l.contains s:=by
 rw[L4,List.contains_eq_any_beq];congr 1;funext x;exact gA.2 (by simp)
theorem Q3(l:List Str)(s:Str)(hl:l.length≤140737488355328): CT 84 [avs l,.s s] (.b (l.contains s)):=by
 refine dO dE Tryz.func84 g0 ?_
 ·simp -implicitDefEqProofs (disch:=omega) only[Tryz.f84,go_sem,List.replicate,simprocAttr,avs];(refine zs1 (bVo l s hl) ?_;repeat' first|exact trivial|refine zJ ?_ ?_|refine zH fun hc=>?_);refine bR ?_ (by rfl);rw[aDy]
theorem aZy{l m:List Str}(hl:l.length=m.length)(h:∀j,j<l.length→l.getD j []=m.getD j []):l=m:=by
 apply List.ext_getElem hl;intro j h1 h2;have:=h j h1;simpa[List.getD,h1,h2]using this
theorem bTb(l m:List Str)(hl:l.length≤140737488355328)(hm:m.length≤140737488355328): CT 217 [avs l,avs m] (.b (decide (l=m))):=by
 refine dO dE Tryz.func217 g0 ?_
 ·simp -implicitDefEqProofs (disch:=omega) only[Tryz.f217,go_sem,List.replicate,simprocAttr,avs];(refine zs0 ?_;repeat' first|exact trivial|refine zJ ?_ ?_|refine zH fun hc=>?_)
  ·refine bR ?_ (by rfl);have:l≠m:=fun h=>hc (by rw[h]);rw[zf this]
  refine dV (fun(k:Nat)=>(.k::.k::.k::.k::.j::.j::(rp 7 .k (.v (.i .i64 k)::(rp 12 .j []))))) (fun k=>[]) (fun k=>k≤l.length∧∀j,j<k→l.getD j []=m.getD j []) (fun k=>l.length-k) (0) ⟨bX _,fun j h=>by omega⟩ rfl (by simp[iS]) ?_;rintro k j ⟨hk,ha⟩;refine zg ?_;(refine zs0 ?_;repeat' first|exact trivial|refine zJ ?_ ?_|refine zH fun hc=>?_)
  ·refine bR ?_ (by rfl);have:l≠m:=fun h=>by simp[h]at *
   rw[zf this]
  ·exact⟨k+1,⟨by omega,fF ha (by simpa using hc)⟩,by omega,by simp⟩
  ·refine bR ?_ (by rfl);have:l=m:=aZy (by omega) (fun j hj=>ha j (by omega));rw[zt this]
theorem bBj{l:List Str}{k:Nat}(hn:l.Nodup)(hk:k<l.length):(l.take k).contains (l.getD k [])=false:=by
 have:l.getD k []∉l.take k:=by
  intro hm;obtain⟨j,hj,he⟩:=dJ.1 hm;have:=(eS.1 hn) j k (by simp at hj;omega) hk (by simp at hj;omega);simp[List.getD,hk]at he;exact this he
 simpa using this
theorem bBi{l:List Str}(h:∀j,j<l.length→(l.take j).contains (l.getD j [])=false):l.Nodup:=by
 refine eS.2 (fun i j hi hj hij he=>?_);have:=h j hj;have hm:l.getD j []∈l.take j:=by
  rw[dJ];exact⟨i,by simp;omega,by simp[List.getD,hj,he]⟩
 have h2:(l.take j).contains (l.getD j [])=true:=by simpa using hm
 rw[h2]at this;cases this
def pJ:List Str:=[[97,100,100],[97,110,100],[99,97,116],[100,101,108],[100,105,118],[101,113],[103,101],[103,101,116],[103,116],[104,97,115],[105,115],[105,115,118,97,108,117,101],[106,111,105,110],[107,101,121,115],[108,101],[108,101,110,103,116,104],[108,116],[109,111,100],[109,117,108],[110,101],[110,101,103],[110,111,116],[111,114],[112,105,99,107],[112,117,116],[115,105,122,101],[115,117,98],[116,101,120,116]]
def bMz(s:dK)(a:Str):Bool:=bOr.contains a||s.sorts.contains a
theorem bAr:∀{l:List AV},persL l=true→∀x∈l,pers x=true:=by
 intro l h x hx;obtain⟨j,hj,rfl⟩:=dJ.1 hx;exact iL h j _ (by simp[hj])
theorem uU{h:List AObj}{l:List AV}(hl:persL l=true):l.map (iA dep h)=l:=by
 have:l.map (iA dep h)=l.map id:=jC (fun x hx=>by rw[gN,if_pos (bAr hl x hx)];rfl);rw[this,List.map_id]
theorem bVb(l:List Str)(f:FuncId)(a b:List AV)(p:Str→Bool)(hl:l.length≤140737488355328)(ha:persL a=true)(hb:persL b=true)(hw:∀k,k<l.length→CT f (a++[.s (l.getD k [])]++b) (.b (p (l.getD k [])))): CT 210 [avs l,.fn f a b] (.i .i64 (idx p l)):=by
 refine dO dE Tryz.func210 g0 ?_
 ·simp -implicitDefEqProofs (disch:=omega) only[Tryz.f210,go_sem,List.replicate,simprocAttr,avs];refine dV (fun(k:Nat)=>(.k::.k::.k::.k::.j::.j::.k::.k::.v (.i .i64 k)::(rp 10 .j []))) (fun k=>[]) (fun k=>k≤l.length∧∀j,j<k→p (l.getD j [])=false) (fun k=>l.length-k) (0) ⟨bX _,fun j h=>by omega⟩ rfl (by simp[iS]) ?_;rintro k j ⟨hk,hn⟩;refine zg ?_;(refine zs0 ?_;repeat' first|exact trivial|refine zJ ?_ ?_|refine zH fun hc=>?_)
  ·refine bJ (hw k (by omega)) ?_ ?_
   ·exact zv (zA2 @cL.{0,0} (zA2 (fun h=>uU (h:=h) ha) (fun h=>uU (h:=h) hb)))
   ·refine zg ?_;(refine zs0 ?_;repeat' first|exact trivial|refine zJ ?_ ?_|refine zH fun hc=>?_)
    ·refine bR ?_ (by rfl);rw[xS (d:=[]) (k:=k) (by omega) hc hn]
    ·exact⟨k+1,⟨by omega,fF hn hc⟩,by omega,by simp⟩
  ·refine bR ?_ (by rfl);have h1:k=l.length:=by omega
   rw[xT (h1▸hn)]
theorem bVn(l:List Str)(f:FuncId)(a b:List AV)(p:Str→Bool)(hl:l.length≤140737488355328)(ha:persL a=true)(hb:persL b=true)(hw:∀k,k<l.length→CT f (a++[.s (l.getD k [])]++b) (.b (p (l.getD k [])))): CT 147 [avs l,.fn f a b] (.b (l.any p)):=by
 refine dO dE Tryz.func147 g0 ?_
 ·simp -implicitDefEqProofs (disch:=omega) only[Tryz.f147,go_sem,List.replicate,simprocAttr,avs];refine bJ (bVb l f a b p hl ha hb hw) ?_ ?_
  ·exact zv (zA2 @avs.eq_1 (zA2 ha hb))
  ·refine zg ?_;refine bR ?_ (by rfl);rw[L4]
theorem bVm(x:Str)(f:FuncId)(a b:List AV)(p:Bool)(ha:persL a=true)(hb:persL b=true)(hw:CT f (a++[.s x]++b) (.b p)): CT 148 [.s x,.box [.fn f a b] 0] (.b (!p)):=by
 refine cI dE Tryz.func148 g0 ?_
 ·skip;refine bJ hw ?_ ?_
  ·exact zv (zA2 @cL.{0,0} (zA2 (fun h=>uU (h:=h) ha) (fun h=>uU (h:=h) hb)))
  ·refine zg ?_;refine bR ?_ (by rfl);rfl
theorem bDg(l:List Str)(f:FuncId)(a b:List AV)(p:Str→Bool)(hl:l.length≤140737488355328)(ha:persL a=true)(hb:persL b=true)(hw:∀k,k<l.length→CT f (a++[.s (l.getD k [])]++b) (.b (p (l.getD k [])))): CT 86 [avs l,.fn f a b] (.b (l.all p)):=by
 refine dO dE Tryz.func86 g0 ?_
 ·simp -implicitDefEqProofs (disch:=omega) only[Tryz.f86,go_sem,List.replicate,↓reduceIte,reduceAdd,reduceSub,reduceMul,reduceLeDiff,reduceLT,reduceEqDiff,reduceNeg,Nat.reduceBEq,avs];refine bJ (bVn l 148 [] [.box [.fn f a b] 0] (fun x => !p x) hl rfl (by simp[persL,pers,ha,hb]) (fun k hk=>bVm _ f a b _ ha hb (hw k hk))) ?_ ?_
  ·exact zv (zA2 @avs.eq_1 (zA2 ha hb))
  ·refine zh (zA2 ha hb) ?_;refine bR ?_ (by rfl);rw[rO]
theorem cAs(s:Str)(hs:s.length≤140737488355328): CT 83 [.s s] (.b (isName s && !alwaysA.contains s)):=by
 refine cI dE Tryz.func83 g0 ?_
 ·skip;(refine zs3 (Q4 s hs) bTx (Q3 alwaysA s (by decide)) ?_;repeat' first|exact trivial|refine zJ ?_ ?_|refine zH fun hc=>?_);all_goals(refine bR ?_ (by rfl))
  all_goals simp_all
theorem W5{P:Program}{T:TypeId}(hT:P.underlying T=some .string){x:Str}:∀(l:List Str),gB P T (.s x) (l.map .s)=some (l.findIdx? fun y=>decide (x=y))
 | []=>rfl
 |y::l=>by
  simp only[aQ,gB,aEq,lA,hT,W5 hT l,iO];cases h:decide (x=y)<;>simp
theorem uN{x:Str}{l:List Str}(h:l.contains x=false):(l.findIdx? fun y=>decide (x=y))=none:=by
 rw[fU];intro y hy;have:x∉l:=by simpa using h
 simp only[decide_eq_false_iff_not];exact fun he=>this (he▸hy)
theorem xR(x:Str)(l:List Str):gB Tryz.prog 9 (.s x) (l.map .s)=some (l.findIdx? fun y=>decide (x=y)):=W5 un9 l
theorem aHz{x:Str}{l:List Str}(h:l.contains x=true):∃i,i<l.length∧(l.findIdx? fun y=>decide (x=y))=some i:=by
 cases hf:l.findIdx? fun y=>decide (x=y)with
 |none=>
  rw[fU]at hf;have hm:x∈l:=by simpa using h
  have:=hf x hm;simp at this
 |some i=>
  rw[iN]at hf;exact⟨i,hf.1,rfl⟩
theorem aQk{l:List Str}{k:Nat}(h:k<l.length):l.take (k+1)=l.take k++[l.getD k []]:=by
 rw[sD h];simp[List.getD,h]
theorem aGn{n i:Nat}{a:AV}(h:i<n):(List.replicate n a)[i]? = some a:=by simp[h]
theorem bNr(l:List Str)(hl:l.length≤140737488355328): CT 82 [avs l] (.b (decide l.Nodup)):=by
 refine dO dE Tryz.func82 g0 ?_
 ·simp -implicitDefEqProofs (disch:=omega) only[Tryz.f82,go_sem,List.replicate,simprocAttr,avs];refine dV (fun(k:Nat)=>(.k::.k::.j::.k::.k::.j::.k::.k::.k::.v (.i .i64 k)::(rp 9 .j []))) (fun k=>[.map false ((l.take k).map .s) (List.replicate k (.b true))]) (fun k=>k≤l.length∧∀j,j<k→(l.take j).contains (l.getD j [])=false) (fun k=>l.length-k) (0) ⟨bX _,fun j h=>by omega⟩ rfl (by simp[iS]) ?_;rintro k j ⟨hk,ha⟩;refine zg ?_;(refine zs0 ?_;repeat' first|exact trivial|refine zJ ?_ ?_|refine zH fun hc=>?_)
  ·by_cases hx:(l.take k).contains (l.getD k [])=true
   ·obtain⟨i,hi,hf⟩:=aHz hx;have hi':i<k:=by simp at hi;omega
    simp -implicitDefEqProofs (disch:=omega) only[jM,xR,hf,aGn hi',go_sem,simprocAttr];refine bR ?_ (by rfl);rw[zf (fun hn=>by rw[bBj hn (by omega)]at hx;cases hx)]
   ·have hx:=dG.2 hx;simp -implicitDefEqProofs (disch:=omega) only[jM,xR,uN hx,go_sem,simprocAttr];refine⟨k+1,⟨by omega,fF ha hx⟩,by omega,?_,by simp⟩;rw[aQk (by omega),cL,aPg];rfl
  ·refine bR ?_ (by rfl);have h1:k=l.length:=by omega
   rw[zt (bBi (h1▸ha))]
def elB(x:Str×Str):AV:=.agg (fX x)
def elO(x:LOp):AV:=.agg (fR x)
attribute [go_sem] elB elO
theorem bUz(l:List (Str×Str))(f:FuncId)(a b:List AV)(p:Str×Str→Bool)(hl:l.length≤140737488355328)(ha:persL a=true)(hb:persL b=true)(hw:∀k,k<l.length→CT f (a++[elB (l.getD k ([],[]))]++b) (.b (p (l.getD k ([],[]))))): CT 211 [avb l,.fn f a b] (.i .i64 (idx p l)):=by
 refine cI dE Tryz.func211 g0 ?_
 ·skip;refine dV (fun(k:Nat)=>(.k::.k::.k::.k::.j::.j::.k::.k::.v (.i .i64 k)::(rp 10 .j []))) (fun k=>[]) (fun k=>k≤l.length∧∀j,j<k→p (l.getD j ([],[]))=false) (fun k=>l.length-k) (0) ⟨bX _,fun j h=>by omega⟩ rfl (by simp[iS]) ?_;rintro k j ⟨hk,hn⟩;refine zg ?_;(refine zs0 ?_;repeat' first|exact trivial|refine zJ ?_ ?_|refine zH fun hc=>?_)
  ·refine bJ (hw k (by omega)) ?_ ?_
   ·exact zv (zA2 @cL.{0,0} (zA2 (fun h=>uU (h:=h) ha) (fun h=>uU (h:=h) hb)))
   ·refine zg ?_;(refine zs0 ?_;repeat' first|exact trivial|refine zJ ?_ ?_|refine zH fun hc=>?_)
    ·refine bR ?_ (by rfl);rw[xS (d:=([],[])) (k:=k) (by omega) hc hn]
    ·exact⟨k+1,⟨by omega,fF hn hc⟩,by omega,by simp⟩
  ·refine bR ?_ (by rfl);have h1:k=l.length:=by omega
   rw[xT (h1▸hn)]
theorem bUy(l:List (LOp))(f:FuncId)(a b:List AV)(p:LOp→Bool)(hl:l.length≤140737488355328)(ha:persL a=true)(hb:persL b=true)(hw:∀k,k<l.length→CT f (a++[elO (l.getD k default)]++b) (.b (p (l.getD k default)))): CT 212 [avo l,.fn f a b] (.i .i64 (idx p l)):=by
 refine cI dE Tryz.func212 g0 ?_
 ·skip;refine dV (fun(k:Nat)=>(.k::.k::.k::.k::.j::.j::.k::.k::.v (.i .i64 k)::(rp 10 .j []))) (fun k=>[]) (fun k=>k≤l.length∧∀j,j<k→p (l.getD j default)=false) (fun k=>l.length-k) (0) ⟨bX _,fun j h=>by omega⟩ rfl (by simp[iS]) ?_;rintro k j ⟨hk,hn⟩;refine zg ?_;(refine zs0 ?_;repeat' first|exact trivial|refine zJ ?_ ?_|refine zH fun hc=>?_)
  ·refine bJ (hw k (by omega)) ?_ ?_
   ·exact zv (zA2 @cL.{0,0} (zA2 (fun h=>uU (h:=h) ha) (fun h=>uU (h:=h) hb)))
   ·refine zg ?_;(refine zs0 ?_;repeat' first|exact trivial|refine zJ ?_ ?_|refine zH fun hc=>?_)
    ·refine bR ?_ (by rfl);rw[xS (d:=default) (k:=k) (by omega) hc hn]
    ·exact⟨k+1,⟨by omega,fF hn hc⟩,by omega,by simp⟩
  ·refine bR ?_ (by rfl);have h1:k=l.length:=by omega
   rw[xT (h1▸hn)]
theorem bUu(l:List (Int))(f:FuncId)(a b:List AV)(p:Int→Bool)(hl:l.length≤140737488355328)(ha:persL a=true)(hb:persL b=true)(hw:∀k,k<l.length→CT f (a++[.i .i64 (l.getD k 0)]++b) (.b (p (l.getD k 0)))): CT 254 [avi l,.fn f a b] (.i .i64 (idx p l)):=by
 refine cI dE Tryz.func254 g0 ?_
 ·skip;refine dV (fun(k:Nat)=>(.k::.k::.k::.k::.j::.j::.k::.k::.v (.i .i64 k)::(rp 10 .j []))) (fun k=>[]) (fun k=>k≤l.length∧∀j,j<k→p (l.getD j 0)=false) (fun k=>l.length-k) (0) ⟨bX _,fun j h=>by omega⟩ rfl (by simp[iS]) ?_;rintro k j ⟨hk,hn⟩;refine zg ?_;(refine zs0 ?_;repeat' first|exact trivial|refine zJ ?_ ?_|refine zH fun hc=>?_)
  ·refine bJ (hw k (by omega)) ?_ ?_
   ·exact zv (zA2 @cL.{0,0} (zA2 (fun h=>uU (h:=h) ha) (fun h=>uU (h:=h) hb)))
   ·refine zg ?_;(refine zs0 ?_;repeat' first|exact trivial|refine zJ ?_ ?_|refine zH fun hc=>?_)
    ·refine bR ?_ (by rfl);rw[xS (d:=0) (k:=k) (by omega) hc hn]
    ·exact⟨k+1,⟨by omega,fF hn hc⟩,by omega,by simp⟩
  ·refine bR ?_ (by rfl);have h1:k=l.length:=by omega
   rw[xT (h1▸hn)]
theorem bVj(l:List (Str×Str))(f:FuncId)(a b:List AV)(p:Str×Str→Bool)(hl:l.length≤140737488355328)(ha:persL a=true)(hb:persL b=true)(hw:∀k,k<l.length→CT f (a++[elB (l.getD k ([],[]))]++b) (.b (p (l.getD k ([],[]))))): CT 149 [avb l,.fn f a b] (.b (l.any p)):=by
 refine cI dE Tryz.func149 g0 ?_
 ·skip;refine bJ (bUz l f a b p hl ha hb hw) ?_ ?_
  ·exact zv (zA2 ha hb)
  ·refine zg ?_;refine bR ?_ (by rfl);rw[L4]
theorem bVh(l:List (LOp))(f:FuncId)(a b:List AV)(p:LOp→Bool)(hl:l.length≤140737488355328)(ha:persL a=true)(hb:persL b=true)(hw:∀k,k<l.length→CT f (a++[elO (l.getD k default)]++b) (.b (p (l.getD k default)))): CT 151 [avo l,.fn f a b] (.b (l.any p)):=by
 refine cI dE Tryz.func151 g0 ?_
 ·skip;refine bJ (bUy l f a b p hl ha hb hw) ?_ ?_
  ·exact zv (zA2 ha hb)
  ·refine zg ?_;refine bR ?_ (by rfl);rw[L4]
theorem bUx(l:List (Int))(f:FuncId)(a b:List AV)(p:Int→Bool)(hl:l.length≤140737488355328)(ha:persL a=true)(hb:persL b=true)(hw:∀k,k<l.length→CT f (a++[.i .i64 (l.getD k 0)]++b) (.b (p (l.getD k 0)))): CT 214 [avi l,.fn f a b] (.b (l.any p)):=by
 refine cI dE Tryz.func214 g0 ?_
 ·skip;refine bJ (bUu l f a b p hl ha hb hw) ?_ ?_
  ·exact zv (zA2 ha hb)
  ·refine zg ?_;refine bR ?_ (by rfl);rw[L4]
theorem bVi(x:Str×Str)(f:FuncId)(a b:List AV)(p:Bool)(ha:persL a=true)(hb:persL b=true)(hw:CT f (a++[elB x]++b) (.b p)): CT 150 [elB x,.box [.fn f a b] 0] (.b (!p)):=by
 refine cI dE Tryz.func150 g0 ?_
 ·skip;refine bJ hw ?_ ?_
  ·exact zv (zA2 @cL.{0,0} (zA2 (fun h=>uU (h:=h) ha) (fun h=>uU (h:=h) hb)))
  ·refine zg ?_;refine bR ?_ (by rfl);rfl
theorem bVg(x:LOp)(f:FuncId)(a b:List AV)(p:Bool)(ha:persL a=true)(hb:persL b=true)(hw:CT f (a++[elO x]++b) (.b p)): CT 152 [elO x,.box [.fn f a b] 0] (.b (!p)):=by
 refine cI dE Tryz.func152 g0 ?_
 ·skip;refine bJ hw ?_ ?_
  ·exact zv (zA2 @cL.{0,0} (zA2 (fun h=>uU (h:=h) ha) (fun h=>uU (h:=h) hb)))
  ·refine zg ?_;refine bR ?_ (by rfl);rfl
theorem bUw(x:Int)(f:FuncId)(a b:List AV)(p:Bool)(ha:persL a=true)(hb:persL b=true)(hw:CT f (a++[.i .i64 x]++b) (.b p)): CT 215 [.i .i64 x,.box [.fn f a b] 0] (.b (!p)):=by
 refine cI dE Tryz.func215 g0 ?_
 ·skip;refine bJ hw ?_ ?_
  ·exact zv (zA2 @cL.{0,0} (zA2 (fun h=>uU (h:=h) ha) (fun h=>uU (h:=h) hb)))
  ·refine zg ?_;refine bR ?_ (by rfl);rfl
theorem cAr(l:List (Str×Str))(f:FuncId)(a b:List AV)(p:Str×Str→Bool)(hl:l.length≤140737488355328)(ha:persL a=true)(hb:persL b=true)(hw:∀k,k<l.length→CT f (a++[elB (l.getD k ([],[]))]++b) (.b (p (l.getD k ([],[]))))): CT 88 [avb l,.fn f a b] (.b (l.all p)):=by
 refine cI dE Tryz.func88 g0 ?_
 ·skip;refine bJ (bVj l 150 [] [.box [.fn f a b] 0] (fun x => !p x) hl rfl (by simp[persL,pers,ha,hb]) (fun k hk=>bVi _ f a b _ ha hb (hw k hk))) ?_ ?_
  ·exact zv (zA2 ha hb)
  ·refine zh (zA2 ha hb) ?_;refine bR ?_ (by rfl);rw[rO]
theorem bTm(l:List (LOp))(f:FuncId)(a b:List AV)(p:LOp→Bool)(hl:l.length≤140737488355328)(ha:persL a=true)(hb:persL b=true)(hw:∀k,k<l.length→CT f (a++[elO (l.getD k default)]++b) (.b (p (l.getD k default)))): CT 91 [avo l,.fn f a b] (.b (l.all p)):=by
 refine cI dE Tryz.func91 g0 ?_
 ·skip;refine bJ (bVh l 152 [] [.box [.fn f a b] 0] (fun x => !p x) hl rfl (by simp[persL,pers,ha,hb]) (fun k hk=>bVg _ f a b _ ha hb (hw k hk))) ?_ ?_
  ·exact zv (zA2 ha hb)
  ·refine zh (zA2 ha hb) ?_;refine bR ?_ (by rfl);rw[rO]
theorem bVe(l:List (Int))(f:FuncId)(a b:List AV)(p:Int→Bool)(hl:l.length≤140737488355328)(ha:persL a=true)(hb:persL b=true)(hw:∀k,k<l.length→CT f (a++[.i .i64 (l.getD k 0)]++b) (.b (p (l.getD k 0)))): CT 156 [avi l,.fn f a b] (.b (l.all p)):=by
 refine cI dE Tryz.func156 g0 ?_
 ·skip;refine bJ (bUx l 215 [] [.box [.fn f a b] 0] (fun x => !p x) hl rfl (by simp[persL,pers,ha,hb]) (fun k hk=>bUw _ f a b _ ha hb (hw k hk))) ?_ ?_
  ·exact zv (zA2 ha hb)
  ·refine zh (zA2 ha hb) ?_;refine bR ?_ (by rfl);rw[rO]
theorem wF{α:Type}[DecidableEq α]{P:Program}{T:TypeId}{el:α→AV}(hT:∀x y,aEq P T (el x) (el y)=some (decide (x=y))){x:α}:∀(l:List α),gB P T (el x) (l.map el)=some (l.findIdx? fun y=>decide (x=y))
 | []=>rfl
 |y::l=>by
  simp only[aQ,gB,hT,wF hT l,iO];cases h:decide (x=y)<;>simp
theorem cCh(x:Str×Str)(l:List (Str×Str)):gB Tryz.prog 117 (elB x) (l.map elB)=some (l.findIdx? fun y=>decide (x=y)):=wF (fun x y=>by
 simp only[elB,fX,aEq,bZb,iY,lA,un9,aF];rw[gA];simp[Prod.ext_iff]) l
theorem cCg(x:Int)(l:List Int):gB Tryz.prog 3 (.i .i64 x) (l.map (.i .i64))=some (l.findIdx? fun y=>decide (x=y)):=wF (fun x y=>by
 simp[aEq,lA,un3]) l
theorem oP{α:Type}[BEq α] [LawfulBEq α][DecidableEq α]{x:α}{l:List α}(h:l.contains x=false):(l.findIdx? fun y=>decide (x=y))=none:=by
 rw[fU];intro y hy;have:x∉l:=by simpa using h
 simp only[decide_eq_false_iff_not];exact fun he=>this (he▸hy)
theorem C0{α:Type}[BEq α] [LawfulBEq α][DecidableEq α]{x:α}{l:List α}(h:l.contains x=true):∃i,i<l.length∧(l.findIdx? fun y=>decide (x=y))=some i:=by
 cases hf:l.findIdx? fun y=>decide (x=y)with
 |none=>
  rw[fU]at hf;have hm:x∈l:=by simpa using h
  have:=hf x hm;simp at this
 |some i=>
  rw[iN]at hf;exact⟨i,hf.1,rfl⟩
theorem sS{α:Type}[BEq α] [LawfulBEq α][DecidableEq α]{l:List α}{k:Nat}{d:α}(hn:l.Nodup)(hk:k<l.length):(l.take k).contains (l.getD k d)=false:=by
 have:l.getD k d∉l.take k:=by
  intro hm;obtain⟨j,hj,he⟩:=dJ.1 hm;have:=(eS.1 hn) j k (by simp at hj;omega) hk (by simp at hj;omega);simp[List.getD,hk]at he;exact this he
 simpa using this
theorem aDi{α:Type}[BEq α] [LawfulBEq α][DecidableEq α]{l:List α}{d:α}(h:∀j,j<l.length→(l.take j).contains (l.getD j d)=false):l.Nodup:=by
 refine eS.2 (fun i j hi hj hij he=>?_);have:=h j hj;have hm:l.getD j d∈l.take j:=by
  rw[dJ];exact⟨i,by simp;omega,by simp[List.getD,hj,he]⟩
 have h2:(l.take j).contains (l.getD j d)=true:=by simpa using hm
 rw[h2]at this;cases this
theorem cAt(l:List (Str×Str))(hl:l.length≤140737488355328): CT 81 [avb l] (.b (decide l.Nodup)):=by
 refine cI dE Tryz.func81 g0 ?_
 ·skip;refine lJ (fun(k:Nat)=>(.k::.k::.j::.k::.k::.j::.k::.k::.k::.v (.i .i64 k)::(rp 9 .j []))) (fun k=>[.map false ((l.take k).map elB) (List.replicate k (.b true))]) (fun k=>k≤l.length∧∀j,j<k→(l.take j).contains (l.getD j ([],[]))=false) (fun k=>l.length-k) (0) _ ⟨bX _,fun j h=>by omega⟩ rfl (by simp[iS]) ?_;rintro k g j ⟨hk,ha⟩;refine zg ?_;(refine zs0 ?_;repeat' first|exact trivial|refine zJ ?_ ?_|refine zH fun hc=>?_)
  ·by_cases hx:(l.take k).contains (l.getD k ([],[]))=true
   ·obtain⟨i,hi,hf⟩:=C0 hx;have hi':i<k:=by simp at hi;omega
    have hk2:=cCh (l.getD k ([],[])) (l.take k);simp only[elB,fX]at hk2;simp -implicitDefEqProofs (disch:=omega) only[jM,hk2,hf,aGn hi',go_sem,simprocAttr];refine bR ?_ (by rfl);rw[zf (fun hn=>by rw[sS hn (by omega)]at hx;cases hx)]
   ·have hx:=dG.2 hx;have hk2:=cCh (l.getD k ([],[])) (l.take k);simp only[elB,fX]at hk2;refine zh (zA2 @jM.eq_1 (zA2 hk2 (oP hx))) ?_;refine⟨k+1,_,⟨by omega,fF ha hx⟩,by omega,congr (congrArg List.cons ?_) rfl,by simp⟩;rw[fI (d:=([],[])) (by omega),cL,aPg];rfl
  ·refine bR ?_ (by rfl);have h1:k=l.length:=by omega
   rw[zt (aDi (h1▸ha))]
theorem bVd(l:List Int)(hl:l.length≤140737488355328): CT 157 [avi l] (.b (decide l.Nodup)):=by
 refine cI dE Tryz.func157 g0 ?_
 ·skip;refine dV (fun(k:Nat)=>(.k::.k::.j::.k::.k::.j::.k::.k::.k::.v (.i .i64 k)::(rp 9 .j []))) (fun k=>[.map false ((l.take k).map (.i .i64)) (List.replicate k (.b true))]) (fun k=>k≤l.length∧∀j,j<k→(l.take j).contains (l.getD j 0)=false) (fun k=>l.length-k) (0) ⟨bX _,fun j h=>by omega⟩ rfl (by simp[iS]) ?_;rintro k j ⟨hk,ha⟩;refine zg ?_;(refine zs0 ?_;repeat' first|exact trivial|refine zJ ?_ ?_|refine zH fun hc=>?_)
  ·by_cases hx:(l.take k).contains (l.getD k 0)=true
   ·obtain⟨i,hi,hf⟩:=C0 hx;have hi':i<k:=by simp at hi;omega
    simp -implicitDefEqProofs (disch:=omega) only[jM,cCg,hf,aGn hi',go_sem,simprocAttr];refine bR ?_ (by rfl);rw[zf (fun hn=>by rw[sS hn (by omega)]at hx;cases hx)]
   ·have hx:=dG.2 hx;simp -implicitDefEqProofs (disch:=omega) only[jM,cCg,oP hx,go_sem,simprocAttr];refine⟨k+1,⟨by omega,fF ha hx⟩,by omega,?_,by simp⟩;rw[fI (d:=0) (by omega),cL,aPg];rfl
  ·refine bR ?_ (by rfl);have h1:k=l.length:=by omega
   rw[zt (aDi (h1▸ha))]
structure OkO(o:LOp):Prop where
 name:o.name.length≤140737488355328
 args:o.args.length≤140737488355328
 argsS:∀x∈o.args,x.length≤140737488355328
 sort:o.sort.length≤140737488355328
 pieces:o.pieces.length≤140737488355328
 piecesS:∀x∈o.pieces,x.1.length≤140737488355328∧x.2.length≤140737488355328
 strict:o.strict.length≤140737488355328
 piecesT:o.pieces.length≤4398046511104
 argsT:o.args.length≤8796093022208
 strictT:o.strict.length≤17592186044416
structure OkS(s:dK):Prop where
 sorts:s.sorts.length≤140737488355328
 sortsS:∀x∈s.sorts,x.length≤140737488355328
 below:s.below.length≤140737488355328
 belowS:∀x∈s.below,x.1.length≤140737488355328∧x.2.length≤140737488355328
 ops:s.ops.length≤140737488355328
 opsO:∀x∈s.ops,OkO x
 funs:s.funs.length≤140737488355328
 funsO:∀x∈s.funs,OkO x
 values:s.values.length≤140737488355328
 opsT:s.ops.length≤1172812402961
 funsT:s.funs.length≤1172812402961
 valuesS:∀x∈s.values,x.length≤140737488355328
theorem cS{α:Type}{l:List α}{d:α}{k:Nat}(h:k<l.length):l.getD k d∈l:=by simp[List.getD,h]
end Go.Proofs.YtdjcggcjlphdoaaGreatDoor

/-
  The types of the program, as far as its code asks; no condition.
-/
import Derived.Test.YtdjcggcjlphdoaaGreatDoorProg
import Derived.Test.YtdjcggcjlphdoaaGreatDoorVoP16
import Derived.Lib.Space
import Derived.Lib.ItoaNum
import Derived.Test.YtdjcggcjlphdoaaGreatDoorSoP11
set_option linter.unusedVariables false
set_option maxRecDepth 100000
set_option linter.unusedSimpArgs false
set_option maxHeartbeats 4000000
namespace Go.Proofs.YtdjcggcjlphdoaaGreatDoor
open Go Go.Vo
open Nat (reduceAdd reduceSub reduceMul reduceLeDiff reduceLT reduceEqDiff)
open Int (reduceNeg)
theorem cZ:Tryz.prog.follows .mixedOrders=true:=by kernel_rfl
def C7:List AV:=Lib.asciiSpaceTab.map (.i .u8)
def aLu:List AV:=Lib.pow10Tab.map (.i .u64)
def G0:Glob:=fun g=>if g=0 then some (.box C7 0)else if g=2 then some (.box aLu 0)else none
theorem g0:oR G0:=fun k a h=>by
 unfold G0 at h;split at h
 ·cases h;simp only[pers,C7,uH]
 ·split at h
  ·cases h;simp only[pers,aLu,uH]
  ·cases h
@[go_sem] theorem az3:lU Tryz.prog 3=none:=by kernel_rfl
@[go_sem] theorem az4:lU Tryz.prog 4=none:=by kernel_rfl
@[go_sem] theorem az9:lU Tryz.prog 9=none:=by kernel_rfl
@[go_sem] theorem cNm:lU Tryz.prog 26=none:=by kernel_rfl
@[go_sem] theorem cNl:lU Tryz.prog 28=none:=by kernel_rfl
@[go_sem] theorem cNk:lU Tryz.prog 30=none:=by kernel_rfl
@[go_sem] theorem cNj:lU Tryz.prog 34=none:=by kernel_rfl
@[go_sem] theorem cNi:lU Tryz.prog 38=none:=by kernel_rfl
@[go_sem] theorem cNh:lU Tryz.prog 62=none:=by kernel_rfl
@[go_sem] theorem cNg:lU Tryz.prog 75=none:=by kernel_rfl
@[go_sem] theorem cNf:lU Tryz.prog 89=none:=by kernel_rfl
@[go_sem] theorem cNe:lU Tryz.prog 97=none:=by kernel_rfl
@[go_sem] theorem cLt:lU Tryz.prog 101=none:=by kernel_rfl
@[go_sem] theorem cLs:lU Tryz.prog 114=none:=by kernel_rfl
@[go_sem] theorem cLr:lU Tryz.prog 117=none:=by kernel_rfl
@[go_sem] theorem cLq:lU Tryz.prog 123=none:=by kernel_rfl
@[go_sem] theorem cLp:lU Tryz.prog 125=none:=by kernel_rfl
@[go_sem] theorem cLo:lU Tryz.prog 129=none:=by kernel_rfl
@[go_sem] theorem cLn:lU Tryz.prog 132=none:=by kernel_rfl
@[go_sem] theorem cLm:lU Tryz.prog 139=none:=by kernel_rfl
@[go_sem] theorem cLl:lU Tryz.prog 150=none:=by kernel_rfl
@[go_sem] theorem cLk:lU Tryz.prog 174=none:=by kernel_rfl
@[go_sem] theorem cLj:lU Tryz.prog 224=none:=by kernel_rfl
@[go_sem] theorem cLi:lU Tryz.prog 249=none:=by kernel_rfl
@[go_sem] theorem sz3:lP Tryz.prog 3=some 1:=by kernel_rfl
@[go_sem] theorem ag3:iM Tryz.prog 3=some false:=by kernel_rfl
@[go_sem] theorem zo3:zeroOf Tryz.prog 3=some [.i .i64 0]:=by kernel_rfl
@[go_sem] theorem un3:Program.underlying Tryz.prog 3=some (.int .i64):=by kernel_rfl
@[go_sem] theorem sz4:lP Tryz.prog 4=some 1:=by kernel_rfl
@[go_sem] theorem ag4:iM Tryz.prog 4=some false:=by kernel_rfl
@[go_sem] theorem by4:aCo Tryz.prog 4=some 1:=by kernel_rfl
@[go_sem] theorem zo4:zeroOf Tryz.prog 4=some [.b false]:=by kernel_rfl
@[go_sem] theorem zv4:rK Tryz.prog 4=some (.b false):=by kernel_rfl
@[go_sem] theorem un4:Program.underlying Tryz.prog 4=some .bool:=by kernel_rfl
@[go_sem] theorem sz9:lP Tryz.prog 9=some 1:=by kernel_rfl
@[go_sem] theorem ag9:iM Tryz.prog 9=some false:=by kernel_rfl
@[go_sem] theorem by9:aCo Tryz.prog 9=some 16:=by kernel_rfl
@[go_sem] theorem zo9:zeroOf Tryz.prog 9=some [.s []]:=by kernel_rfl
@[go_sem] theorem zv9:rK Tryz.prog 9=some (.s []):=by kernel_rfl
@[go_sem] theorem un9:Program.underlying Tryz.prog 9=some .string:=by kernel_rfl
@[go_sem] theorem cMy:lP Tryz.prog 22=some 1:=by kernel_rfl
@[go_sem] theorem cNy:iM Tryz.prog 22=some false:=by kernel_rfl
@[go_sem] theorem cMs:zeroOf Tryz.prog 22=some [.e0]:=by kernel_rfl
@[go_sem] theorem cMo:rK Tryz.prog 22=some (.e0):=by kernel_rfl
@[go_sem] theorem cIx:Program.underlying Tryz.prog 22=some (.slice 9):=by kernel_rfl
@[go_sem] theorem cBr:fV Tryz.prog 22=some 9:=by kernel_rfl
@[go_sem] theorem cNx:iM Tryz.prog 23=some false:=by kernel_rfl
@[go_sem] theorem cMv:Program.underlying Tryz.prog 23=some (.slice 117):=by kernel_rfl
@[go_sem] theorem cNw:iM Tryz.prog 24=some false:=by kernel_rfl
@[go_sem] theorem cMu:Program.underlying Tryz.prog 24=some (.slice 114):=by kernel_rfl
@[go_sem] theorem cNd:fV Tryz.prog 24=some 114:=by kernel_rfl
@[go_sem] theorem cMx:lP Tryz.prog 26=some 5:=by kernel_rfl
@[go_sem] theorem cNv:iM Tryz.prog 26=some true:=by kernel_rfl
@[go_sem] theorem cHv:eI Tryz.prog 26 0=some (0,some 1):=by kernel_rfl
@[go_sem] theorem cHu:eI Tryz.prog 26 1=some (1,some 1):=by kernel_rfl
@[go_sem] theorem cHt:eI Tryz.prog 26 2=some (2,some 1):=by kernel_rfl
@[go_sem] theorem cHs:eI Tryz.prog 26 3=some (3,some 1):=by kernel_rfl
@[go_sem] theorem cHr:eI Tryz.prog 26 4=some (4,some 1):=by kernel_rfl
@[go_sem] theorem cNu:iM Tryz.prog 27=some false:=by kernel_rfl
@[go_sem] theorem cMw:lP Tryz.prog 28=some 1:=by kernel_rfl
@[go_sem] theorem cNt:iM Tryz.prog 28=some false:=by kernel_rfl
@[go_sem] theorem cMr:zeroOf Tryz.prog 28=some [.e0]:=by kernel_rfl
@[go_sem] theorem cIt:Program.underlying Tryz.prog 28=some (.slice 30):=by kernel_rfl
@[go_sem] theorem bWm:fV Tryz.prog 28=some 30:=by kernel_rfl
@[go_sem] theorem bUa:lP Tryz.prog 30=some 6:=by kernel_rfl
@[go_sem] theorem cNs:iM Tryz.prog 30=some true:=by kernel_rfl
@[go_sem] theorem cAg:aCo Tryz.prog 30=some 96:=by kernel_rfl
@[go_sem] theorem bSq:zeroOf Tryz.prog 30=some [.i .i64 0,.i .i64 0,.s [],.s [],.e0,.e0]:=by kernel_rfl
@[go_sem] theorem cMn:rK Tryz.prog 30=some (.agg [.i .i64 0,.i .i64 0,.s [],.s [],.e0,.e0]):=by kernel_rfl
@[go_sem] theorem cHq:eI Tryz.prog 30 0=some (0,some 1):=by kernel_rfl
@[go_sem] theorem cHp:eI Tryz.prog 30 1=some (1,some 1):=by kernel_rfl
@[go_sem] theorem cHo:eI Tryz.prog 30 2=some (2,some 1):=by kernel_rfl
@[go_sem] theorem cHn:eI Tryz.prog 30 3=some (3,some 1):=by kernel_rfl
@[go_sem] theorem cHm:eI Tryz.prog 30 4=some (4,some 1):=by kernel_rfl
@[go_sem] theorem cHl:eI Tryz.prog 30 5=some (5,some 1):=by kernel_rfl
@[go_sem] theorem cNb:jP Tryz.prog 30=some [(0,1),(1,1),(2,1),(3,1),(4,1),(5,1)]:=by kernel_rfl
@[go_sem] theorem cGg:Program.underlying Tryz.prog 31=some (.slice 62):=by kernel_rfl
@[go_sem] theorem cNc:fV Tryz.prog 31=some 62:=by kernel_rfl
@[go_sem] theorem bTz:lP Tryz.prog 32=some 1:=by kernel_rfl
@[go_sem] theorem cNr:iM Tryz.prog 32=some false:=by kernel_rfl
@[go_sem] theorem cAf:aCo Tryz.prog 32=some 24:=by kernel_rfl
@[go_sem] theorem bSp:zeroOf Tryz.prog 32=some [.e0]:=by kernel_rfl
@[go_sem] theorem cCj:Program.underlying Tryz.prog 32=some (.slice 62):=by kernel_rfl
@[go_sem] theorem cHw:fV Tryz.prog 32=some 62:=by kernel_rfl
@[go_sem] theorem cHk:eI Tryz.prog 34 0=some (0,some 6):=by kernel_rfl
@[go_sem] theorem cHj:eI Tryz.prog 34 1=some (6,some 6):=by kernel_rfl
@[go_sem] theorem cHi:eI Tryz.prog 34 2=some (12,some 1):=by kernel_rfl
@[go_sem] theorem cMt:Program.underlying Tryz.prog 37=some (.slice 32):=by kernel_rfl
@[go_sem] theorem bWl:fV Tryz.prog 37=some 32:=by kernel_rfl
@[go_sem] theorem cJh:lP Tryz.prog 38=some 1:=by kernel_rfl
@[go_sem] theorem cNq:iM Tryz.prog 38=some false:=by kernel_rfl
@[go_sem] theorem cMq:zeroOf Tryz.prog 38=some [.i .i64 0]:=by kernel_rfl
@[go_sem] theorem cBh:lP Tryz.prog 62=some 7:=by kernel_rfl
@[go_sem] theorem cNp:iM Tryz.prog 62=some true:=by kernel_rfl
@[go_sem] theorem cIa:aCo Tryz.prog 62=some 112:=by kernel_rfl
@[go_sem] theorem cGe:zeroOf Tryz.prog 62=some [.s [],.i .i64 0,.i .i64 0,.s [],.s [],.e0,.e0]:=by kernel_rfl
@[go_sem] theorem cHh:eI Tryz.prog 62 0=some (0,some 1):=by kernel_rfl
@[go_sem] theorem cHg:eI Tryz.prog 62 1=some (1,some 6):=by kernel_rfl
@[go_sem] theorem cNa:jP Tryz.prog 62=some [(0,1),(1,6)]:=by kernel_rfl
@[go_sem] theorem cNo:iM Tryz.prog 75=some false:=by kernel_rfl
@[go_sem] theorem cMp:zeroOf Tryz.prog 89=some [.p (.pointer Option.none),.e0,.b false,.b false]:=by kernel_rfl
@[go_sem] theorem cHf:eI Tryz.prog 89 0=some (0,some 1):=by kernel_rfl
@[go_sem] theorem cHe:eI Tryz.prog 89 1=some (1,some 1):=by kernel_rfl
@[go_sem] theorem cHd:eI Tryz.prog 89 2=some (2,some 1):=by kernel_rfl
@[go_sem] theorem cHc:eI Tryz.prog 89 3=some (3,some 1):=by kernel_rfl
@[go_sem] theorem cMz:jP Tryz.prog 89=some [(0,1),(1,1),(2,1),(3,1)]:=by kernel_rfl
@[go_sem] theorem cNn:iM Tryz.prog 97=some false:=by kernel_rfl
@[go_sem] theorem cEq:eI Tryz.prog 101 0=some (0,some 1):=by kernel_rfl
@[go_sem] theorem bTo:Program.underlying Tryz.prog 104=some (.map 9 30):=by kernel_rfl
@[go_sem] theorem cMj:iM Tryz.prog 110=some false:=by kernel_rfl
@[go_sem] theorem cJg:Program.underlying Tryz.prog 110=some (.slice 224):=by kernel_rfl
@[go_sem] theorem cMi:iM Tryz.prog 111=some false:=by kernel_rfl
@[go_sem] theorem cMh:iM Tryz.prog 112=some false:=by kernel_rfl
@[go_sem] theorem cJf:Program.underlying Tryz.prog 112=some (.slice 3):=by kernel_rfl
@[go_sem] theorem cLb:fV Tryz.prog 112=some 3:=by kernel_rfl
@[go_sem] theorem cJn:lP Tryz.prog 114=some 7:=by kernel_rfl
@[go_sem] theorem cMg:iM Tryz.prog 114=some true:=by kernel_rfl
@[go_sem] theorem cLh:aCo Tryz.prog 114=some 120:=by kernel_rfl
@[go_sem] theorem cIr:zeroOf Tryz.prog 114=some [.s [],.e0,.s [],.e0,.i .i64 0,.i .i64 0,.e0]:=by kernel_rfl
@[go_sem] theorem cIj:rK Tryz.prog 114=some (.agg [.s [],.e0,.s [],.e0,.i .i64 0,.i .i64 0,.e0]):=by kernel_rfl
@[go_sem] theorem cEp:eI Tryz.prog 114 0=some (0,some 1):=by kernel_rfl
@[go_sem] theorem cEo:eI Tryz.prog 114 1=some (1,some 1):=by kernel_rfl
@[go_sem] theorem cEn:eI Tryz.prog 114 2=some (2,some 1):=by kernel_rfl
@[go_sem] theorem cEm:eI Tryz.prog 114 3=some (3,some 1):=by kernel_rfl
@[go_sem] theorem cEl:eI Tryz.prog 114 4=some (4,some 1):=by kernel_rfl
@[go_sem] theorem cEk:eI Tryz.prog 114 5=some (5,some 1):=by kernel_rfl
@[go_sem] theorem cEj:eI Tryz.prog 114 6=some (6,some 1):=by kernel_rfl
@[go_sem] theorem cKa:jP Tryz.prog 114=some [(0,1),(1,1),(2,1),(3,1),(4,1),(5,1),(6,1)]:=by kernel_rfl
@[go_sem] theorem cJm:lP Tryz.prog 117=some 2:=by kernel_rfl
@[go_sem] theorem cMf:iM Tryz.prog 117=some true:=by kernel_rfl
@[go_sem] theorem cIq:zeroOf Tryz.prog 117=some [.s [],.s []]:=by kernel_rfl
@[go_sem] theorem cEi:eI Tryz.prog 117 0=some (0,some 1):=by kernel_rfl
@[go_sem] theorem cEh:eI Tryz.prog 117 1=some (1,some 1):=by kernel_rfl
@[go_sem] theorem cDn:kR Tryz.prog 117=some [9,9]:=by kernel_rfl
@[go_sem] theorem cMe:iM Tryz.prog 123=some false:=by kernel_rfl
@[go_sem] theorem cMd:iM Tryz.prog 125=some false:=by kernel_rfl
@[go_sem] theorem cMc:iM Tryz.prog 126=some false:=by kernel_rfl
@[go_sem] theorem cJe:Program.underlying Tryz.prog 126=some (.map 9 22):=by kernel_rfl
@[go_sem] theorem cMb:iM Tryz.prog 127=some false:=by kernel_rfl
@[go_sem] theorem cJd:Program.underlying Tryz.prog 127=some (.map 9 114):=by kernel_rfl
@[go_sem] theorem cIp:zeroOf Tryz.prog 129=some [.e0,.e0,.e0,.e0,.e0,.p (.map Option.none),.p (.map Option.none),.p (.map Option.none)]:=by kernel_rfl
@[go_sem] theorem cEg:eI Tryz.prog 129 0=some (0,some 5):=by kernel_rfl
@[go_sem] theorem cEf:eI Tryz.prog 129 1=some (5,some 1):=by kernel_rfl
@[go_sem] theorem cEe:eI Tryz.prog 129 2=some (6,some 1):=by kernel_rfl
@[go_sem] theorem cEd:eI Tryz.prog 129 3=some (7,some 1):=by kernel_rfl
@[go_sem] theorem cJz:jP Tryz.prog 129=some [(0,5),(5,1),(6,1),(7,1)]:=by kernel_rfl
@[go_sem] theorem cJl:lP Tryz.prog 132=some 1:=by kernel_rfl
@[go_sem] theorem cMa:iM Tryz.prog 132=some false:=by kernel_rfl
@[go_sem] theorem cIo:zeroOf Tryz.prog 132=some [.p (.map Option.none)]:=by kernel_rfl
@[go_sem] theorem cJc:Program.underlying Tryz.prog 132=some (.map 9 9):=by kernel_rfl
@[go_sem] theorem cIn:zeroOf Tryz.prog 138=some []:=by kernel_rfl
@[go_sem] theorem cJy:jP Tryz.prog 138=some []:=by kernel_rfl
@[go_sem] theorem cJk:lP Tryz.prog 139=some 1:=by kernel_rfl
@[go_sem] theorem cLz:iM Tryz.prog 139=some true:=by kernel_rfl
@[go_sem] theorem cIm:zeroOf Tryz.prog 139=some [.p (.pointer Option.none)]:=by kernel_rfl
@[go_sem] theorem cEc:eI Tryz.prog 139 0=some (0,some 1):=by kernel_rfl
@[go_sem] theorem cJx:jP Tryz.prog 139=some [(0,1)]:=by kernel_rfl
@[go_sem] theorem cJj:lP Tryz.prog 150=some 2:=by kernel_rfl
@[go_sem] theorem cIl:zeroOf Tryz.prog 150=some [.i .i64 0,.b false]:=by kernel_rfl
@[go_sem] theorem cEb:eI Tryz.prog 150 0=some (0,some 1):=by kernel_rfl
@[go_sem] theorem cEa:eI Tryz.prog 150 1=some (1,some 1):=by kernel_rfl
@[go_sem] theorem cJw:jP Tryz.prog 150=some [(0,1),(1,1)]:=by kernel_rfl
@[go_sem] theorem cLy:iM Tryz.prog 160=some false:=by kernel_rfl
@[go_sem] theorem cJb:Program.underlying Tryz.prog 160=some (.slice 4):=by kernel_rfl
@[go_sem] theorem cLa:fV Tryz.prog 160=some 4:=by kernel_rfl
@[go_sem] theorem cJa:Program.underlying Tryz.prog 168=some (.map 117 4):=by kernel_rfl
@[go_sem] theorem cIz:Program.underlying Tryz.prog 169=some (.map 9 4):=by kernel_rfl
@[go_sem] theorem cLx:iM Tryz.prog 174=some false:=by kernel_rfl
@[go_sem] theorem cIy:Program.underlying Tryz.prog 177=some (.slice 22):=by kernel_rfl
@[go_sem] theorem cKz:fV Tryz.prog 177=some 22:=by kernel_rfl
@[go_sem] theorem bTn:Program.underlying Tryz.prog 197=some (.slice 28):=by kernel_rfl
@[go_sem] theorem cKy:fV Tryz.prog 197=some 28:=by kernel_rfl
@[go_sem] theorem cIw:Program.underlying Tryz.prog 222=some (.map 3 4):=by kernel_rfl
@[go_sem] theorem cJi:lP Tryz.prog 224=some 2:=by kernel_rfl
@[go_sem] theorem cLw:iM Tryz.prog 224=some true:=by kernel_rfl
@[go_sem] theorem cIk:zeroOf Tryz.prog 224=some [.s [],.s []]:=by kernel_rfl
@[go_sem] theorem cDz:eI Tryz.prog 224 0=some (0,some 1):=by kernel_rfl
@[go_sem] theorem cDy:eI Tryz.prog 224 1=some (1,some 1):=by kernel_rfl
@[go_sem] theorem cIv:Program.underlying Tryz.prog 237=some (.int .u64):=by kernel_rfl
@[go_sem] theorem cIu:Program.underlying Tryz.prog 247=some (.slice 249):=by kernel_rfl
@[go_sem] theorem bGc:fV Tryz.prog 247=some 249:=by kernel_rfl
@[go_sem] theorem bCc:lP Tryz.prog 249=some 2:=by kernel_rfl
@[go_sem] theorem cLv:iM Tryz.prog 249=some true:=by kernel_rfl
@[go_sem] theorem bHc:aCo Tryz.prog 249=some 48:=by kernel_rfl
@[go_sem] theorem bBm:zeroOf Tryz.prog 249=some [.e0,.e0]:=by kernel_rfl
@[go_sem] theorem cDx:eI Tryz.prog 249 0=some (0,some 1):=by kernel_rfl
@[go_sem] theorem cDw:eI Tryz.prog 249 1=some (1,some 1):=by kernel_rfl
@[go_sem] theorem cJv:jP Tryz.prog 249=some [(0,1),(1,1)]:=by kernel_rfl
end Go.Proofs.YtdjcggcjlphdoaaGreatDoor
namespace Go.Vo
theorem zdA:(∀l,avs l=.sl (l.map .s) l.length)∧(∀l,avb l=.sl (l.flatMap fX) l.length)∧(∀l,avi l=.sl (l.map (.i .i64)) l.length)∧(∀l,avo l=.sl (l.flatMap eU) l.length)∧(∀s,dT s=[avs s.sorts,avb s.below,avo s.ops,avo s.funs,avs s.values])∧(∀o,eU o=[.s o.name,avs o.args,.s o.sort,avb o.pieces,.i .i64 o.prec,.i .i64 o.assoc,avi o.strict])∧(∀b,fX b=[.s b.1,.s b.2]):=⟨fun _=>rfl,fun _=>rfl,fun _=>rfl,fun _=>rfl,fun _=>rfl,fun _=>rfl,fun _=>rfl⟩
theorem cE{P:Program}{G:Glob}{dr:Option DR}{d:Option Nat}{os:List gA}{K:List AV→List AObj→Prop}{env:List AV}{h:List AObj}{f:FuncId}{A A':List AV}{r:AV}(s:Ctr P G f A' r)
 (k:dN P G dr os K (iV env d (mat r (gU r h A)).1) (mat r (gU r h A)).2) (hA:A.map (gZ dep h)=A':=by(simp -implicitDefEqProofs (disch:=omega) only[zdA,go_sem,↓reduceIte,reduceAdd,reduceSub,reduceMul,reduceLeDiff,reduceLT,reduceEqDiff,reduceNeg,Nat.reduceBEq];done)):tM P G dr f A d os K env h:=dA s hA k
theorem zs1{K1:Prop}{p q:Prop}(k1:K1)(h:q)(e:K1→Cv q p:=by
 intro k1;repeat' first|with_reducible apply vT|with_reducible apply vF|with_reducible apply vC|((first|((with_reducible apply vE);(focus exact k1);(focus(simp -implicitDefEqProofs (disch:=omega) only[zdA,go_sem,simprocAttr];done)))|((with_reducible apply vE);(focus(apply k1<;>omega));(focus(simp -implicitDefEqProofs (disch:=omega) only[zdA,go_sem,simprocAttr];done)))|((with_reducible apply vR);focus exact k1 ..));simp -implicitDefEqProofs (disch:=omega) only[go_sem,simprocAttr])|((with_reducible apply vA);focus omega)|((with_reducible apply vI);(focus(intro hr;(try simp only[zdz]at hr);exact hr));intro hr;have hc:=hr;(try simp only[zdz]at hc);simp -implicitDefEqProofs (disch:=omega) only[hr,go_sem,simprocAttr];(try clear hr))
 any_goals exact vS):p:=(e k1).1 h
theorem zx1{K1:Prop}{x:Prop}{p q:Prop}(X:x)(k1:K1)(h:q)(e:x→K1→Cv q p:=by
 intro X k1;repeat' first|with_reducible apply vT|with_reducible apply vF|with_reducible apply vC|((first|((with_reducible apply vE);(focus exact k1);(focus(simp -implicitDefEqProofs (disch:=omega) only[X,zdA,go_sem,simprocAttr];done)))|((with_reducible apply vE);(focus(apply k1<;>omega));(focus(simp -implicitDefEqProofs (disch:=omega) only[X,zdA,go_sem,simprocAttr];done)))|((with_reducible apply vR);focus exact k1 ..));simp -implicitDefEqProofs (disch:=omega) only[X,go_sem,simprocAttr])|((with_reducible apply vA);focus omega)|((with_reducible apply vI);(focus(intro hr;(try simp only[zdz]at hr);exact hr));intro hr;have hc:=hr;(try simp only[zdz]at hc);simp -implicitDefEqProofs (disch:=omega) only[hr,X,go_sem,simprocAttr];(try clear hr))
 any_goals exact vS):p:=(e X k1).1 h
theorem zs2{K1:Prop}{K2:Prop}{p q:Prop}(k1:K1)(k2:K2)(h:q)(e:K1→K2→Cv q p:=by
 intro k1 k2;repeat' first|with_reducible apply vT|with_reducible apply vF|with_reducible apply vC|((first|((with_reducible apply vE);(focus exact k1);(focus(simp -implicitDefEqProofs (disch:=omega) only[zdA,go_sem,simprocAttr];done)))|((with_reducible apply vE);(focus(apply k1<;>omega));(focus(simp -implicitDefEqProofs (disch:=omega) only[zdA,go_sem,simprocAttr];done)))|((with_reducible apply vR);focus exact k1 ..)|((with_reducible apply vE);(focus exact k2);(focus(simp -implicitDefEqProofs (disch:=omega) only[zdA,go_sem,simprocAttr];done)))|((with_reducible apply vE);(focus(apply k2<;>omega));(focus(simp -implicitDefEqProofs (disch:=omega) only[zdA,go_sem,simprocAttr];done)))|((with_reducible apply vR);focus exact k2 ..));simp -implicitDefEqProofs (disch:=omega) only[go_sem,simprocAttr])|((with_reducible apply vA);focus omega)|((with_reducible apply vI);(focus(intro hr;(try simp only[zdz]at hr);exact hr));intro hr;have hc:=hr;(try simp only[zdz]at hc);simp -implicitDefEqProofs (disch:=omega) only[hr,go_sem,simprocAttr];(try clear hr))
 any_goals exact vS):p:=(e k1 k2).1 h
theorem zx2{K1:Prop}{K2:Prop}{x:Prop}{p q:Prop}(X:x)(k1:K1)(k2:K2)(h:q)(e:x→K1→K2→Cv q p:=by
 intro X k1 k2;repeat' first|with_reducible apply vT|with_reducible apply vF|with_reducible apply vC|((first|((with_reducible apply vE);(focus exact k1);(focus(simp -implicitDefEqProofs (disch:=omega) only[X,zdA,go_sem,simprocAttr];done)))|((with_reducible apply vE);(focus(apply k1<;>omega));(focus(simp -implicitDefEqProofs (disch:=omega) only[X,zdA,go_sem,simprocAttr];done)))|((with_reducible apply vR);focus exact k1 ..)|((with_reducible apply vE);(focus exact k2);(focus(simp -implicitDefEqProofs (disch:=omega) only[X,zdA,go_sem,simprocAttr];done)))|((with_reducible apply vE);(focus(apply k2<;>omega));(focus(simp -implicitDefEqProofs (disch:=omega) only[X,zdA,go_sem,simprocAttr];done)))|((with_reducible apply vR);focus exact k2 ..));simp -implicitDefEqProofs (disch:=omega) only[X,go_sem,simprocAttr])|((with_reducible apply vA);focus omega)|((with_reducible apply vI);(focus(intro hr;(try simp only[zdz]at hr);exact hr));intro hr;have hc:=hr;(try simp only[zdz]at hc);simp -implicitDefEqProofs (disch:=omega) only[hr,X,go_sem,simprocAttr];(try clear hr))
 any_goals exact vS):p:=(e X k1 k2).1 h
theorem zs3{K1:Prop}{K2:Prop}{K3:Prop}{p q:Prop}(k1:K1)(k2:K2)(k3:K3)(h:q)(e:K1→K2→K3→Cv q p:=by
 intro k1 k2 k3;repeat' first|with_reducible apply vT|with_reducible apply vF|with_reducible apply vC|((first|((with_reducible apply vE);(focus exact k1);(focus(simp -implicitDefEqProofs (disch:=omega) only[zdA,go_sem,simprocAttr];done)))|((with_reducible apply vE);(focus(apply k1<;>omega));(focus(simp -implicitDefEqProofs (disch:=omega) only[zdA,go_sem,simprocAttr];done)))|((with_reducible apply vR);focus exact k1 ..)|((with_reducible apply vE);(focus exact k2);(focus(simp -implicitDefEqProofs (disch:=omega) only[zdA,go_sem,simprocAttr];done)))|((with_reducible apply vE);(focus(apply k2<;>omega));(focus(simp -implicitDefEqProofs (disch:=omega) only[zdA,go_sem,simprocAttr];done)))|((with_reducible apply vR);focus exact k2 ..)|((with_reducible apply vE);(focus exact k3);(focus(simp -implicitDefEqProofs (disch:=omega) only[zdA,go_sem,simprocAttr];done)))|((with_reducible apply vE);(focus(apply k3<;>omega));(focus(simp -implicitDefEqProofs (disch:=omega) only[zdA,go_sem,simprocAttr];done)))|((with_reducible apply vR);focus exact k3 ..));simp -implicitDefEqProofs (disch:=omega) only[go_sem,simprocAttr])|((with_reducible apply vA);focus omega)|((with_reducible apply vI);(focus(intro hr;(try simp only[zdz]at hr);exact hr));intro hr;have hc:=hr;(try simp only[zdz]at hc);simp -implicitDefEqProofs (disch:=omega) only[hr,go_sem,simprocAttr];(try clear hr))
 any_goals exact vS):p:=(e k1 k2 k3).1 h
theorem zx3{K1:Prop}{K2:Prop}{K3:Prop}{x:Prop}{p q:Prop}(X:x)(k1:K1)(k2:K2)(k3:K3)(h:q)(e:x→K1→K2→K3→Cv q p:=by
 intro X k1 k2 k3;repeat' first|with_reducible apply vT|with_reducible apply vF|with_reducible apply vC|((first|((with_reducible apply vE);(focus exact k1);(focus(simp -implicitDefEqProofs (disch:=omega) only[X,zdA,go_sem,simprocAttr];done)))|((with_reducible apply vE);(focus(apply k1<;>omega));(focus(simp -implicitDefEqProofs (disch:=omega) only[X,zdA,go_sem,simprocAttr];done)))|((with_reducible apply vR);focus exact k1 ..)|((with_reducible apply vE);(focus exact k2);(focus(simp -implicitDefEqProofs (disch:=omega) only[X,zdA,go_sem,simprocAttr];done)))|((with_reducible apply vE);(focus(apply k2<;>omega));(focus(simp -implicitDefEqProofs (disch:=omega) only[X,zdA,go_sem,simprocAttr];done)))|((with_reducible apply vR);focus exact k2 ..)|((with_reducible apply vE);(focus exact k3);(focus(simp -implicitDefEqProofs (disch:=omega) only[X,zdA,go_sem,simprocAttr];done)))|((with_reducible apply vE);(focus(apply k3<;>omega));(focus(simp -implicitDefEqProofs (disch:=omega) only[X,zdA,go_sem,simprocAttr];done)))|((with_reducible apply vR);focus exact k3 ..));simp -implicitDefEqProofs (disch:=omega) only[X,go_sem,simprocAttr])|((with_reducible apply vA);focus omega)|((with_reducible apply vI);(focus(intro hr;(try simp only[zdz]at hr);exact hr));intro hr;have hc:=hr;(try simp only[zdz]at hc);simp -implicitDefEqProofs (disch:=omega) only[hr,X,go_sem,simprocAttr];(try clear hr))
 any_goals exact vS):p:=(e X k1 k2 k3).1 h
theorem zs4{K1:Prop}{K2:Prop}{K3:Prop}{K4:Prop}{p q:Prop}(k1:K1)(k2:K2)(k3:K3)(k4:K4)(h:q)(e:K1→K2→K3→K4→Cv q p:=by
 intro k1 k2 k3 k4;repeat' first|with_reducible apply vT|with_reducible apply vF|with_reducible apply vC|((first|((with_reducible apply vE);(focus exact k1);(focus(simp -implicitDefEqProofs (disch:=omega) only[zdA,go_sem,simprocAttr];done)))|((with_reducible apply vE);(focus(apply k1<;>omega));(focus(simp -implicitDefEqProofs (disch:=omega) only[zdA,go_sem,simprocAttr];done)))|((with_reducible apply vR);focus exact k1 ..)|((with_reducible apply vE);(focus exact k2);(focus(simp -implicitDefEqProofs (disch:=omega) only[zdA,go_sem,simprocAttr];done)))|((with_reducible apply vE);(focus(apply k2<;>omega));(focus(simp -implicitDefEqProofs (disch:=omega) only[zdA,go_sem,simprocAttr];done)))|((with_reducible apply vR);focus exact k2 ..)|((with_reducible apply vE);(focus exact k3);(focus(simp -implicitDefEqProofs (disch:=omega) only[zdA,go_sem,simprocAttr];done)))|((with_reducible apply vE);(focus(apply k3<;>omega));(focus(simp -implicitDefEqProofs (disch:=omega) only[zdA,go_sem,simprocAttr];done)))|((with_reducible apply vR);focus exact k3 ..)|((with_reducible apply vE);(focus exact k4);(focus(simp -implicitDefEqProofs (disch:=omega) only[zdA,go_sem,simprocAttr];done)))|((with_reducible apply vE);(focus(apply k4<;>omega));(focus(simp -implicitDefEqProofs (disch:=omega) only[zdA,go_sem,simprocAttr];done)))|((with_reducible apply vR);focus exact k4 ..));simp -implicitDefEqProofs (disch:=omega) only[go_sem,simprocAttr])|((with_reducible apply vA);focus omega)|((with_reducible apply vI);(focus(intro hr;(try simp only[zdz]at hr);exact hr));intro hr;have hc:=hr;(try simp only[zdz]at hc);simp -implicitDefEqProofs (disch:=omega) only[hr,go_sem,simprocAttr];(try clear hr))
 any_goals exact vS):p:=(e k1 k2 k3 k4).1 h
theorem zx4{K1:Prop}{K2:Prop}{K3:Prop}{K4:Prop}{x:Prop}{p q:Prop}(X:x)(k1:K1)(k2:K2)(k3:K3)(k4:K4)(h:q)(e:x→K1→K2→K3→K4→Cv q p:=by
 intro X k1 k2 k3 k4;repeat' first|with_reducible apply vT|with_reducible apply vF|with_reducible apply vC|((first|((with_reducible apply vE);(focus exact k1);(focus(simp -implicitDefEqProofs (disch:=omega) only[X,zdA,go_sem,simprocAttr];done)))|((with_reducible apply vE);(focus(apply k1<;>omega));(focus(simp -implicitDefEqProofs (disch:=omega) only[X,zdA,go_sem,simprocAttr];done)))|((with_reducible apply vR);focus exact k1 ..)|((with_reducible apply vE);(focus exact k2);(focus(simp -implicitDefEqProofs (disch:=omega) only[X,zdA,go_sem,simprocAttr];done)))|((with_reducible apply vE);(focus(apply k2<;>omega));(focus(simp -implicitDefEqProofs (disch:=omega) only[X,zdA,go_sem,simprocAttr];done)))|((with_reducible apply vR);focus exact k2 ..)|((with_reducible apply vE);(focus exact k3);(focus(simp -implicitDefEqProofs (disch:=omega) only[X,zdA,go_sem,simprocAttr];done)))|((with_reducible apply vE);(focus(apply k3<;>omega));(focus(simp -implicitDefEqProofs (disch:=omega) only[X,zdA,go_sem,simprocAttr];done)))|((with_reducible apply vR);focus exact k3 ..)|((with_reducible apply vE);(focus exact k4);(focus(simp -implicitDefEqProofs (disch:=omega) only[X,zdA,go_sem,simprocAttr];done)))|((with_reducible apply vE);(focus(apply k4<;>omega));(focus(simp -implicitDefEqProofs (disch:=omega) only[X,zdA,go_sem,simprocAttr];done)))|((with_reducible apply vR);focus exact k4 ..));simp -implicitDefEqProofs (disch:=omega) only[X,go_sem,simprocAttr])|((with_reducible apply vA);focus omega)|((with_reducible apply vI);(focus(intro hr;(try simp only[zdz]at hr);exact hr));intro hr;have hc:=hr;(try simp only[zdz]at hc);simp -implicitDefEqProofs (disch:=omega) only[hr,X,go_sem,simprocAttr];(try clear hr))
 any_goals exact vS):p:=(e X k1 k2 k3 k4).1 h
end Go.Vo
namespace Go.Proofs.YtdjcggcjlphdoaaGreatDoor
open Go Go.Vo
open Nat (reduceAdd reduceSub reduceMul reduceLeDiff reduceLT reduceEqDiff)
open Int (reduceNeg)
abbrev CT:=Ctr Tryz.prog G0
def yS(n:Int):Bool:=decide (97≤n)&&decide (n≤122)||decide (65≤n)&&decide (n≤90)
def bGf(n:Int):Bool:=decide (48≤n)&&decide (n≤57)
theorem bWu(n:Int): CT 126 [.i .u8 n] (.b (yS n)):=by
 refine bQ cZ Tryz.func126 g0 ?_
 ·skip;repeat'(first|refine gT ?_ ?_|refine gF ?_ ?_|refine gC ?_ ?_|(intro hc;simp -implicitDefEqProofs only[hc,go_sem]))
  all_goals(refine bV ?_ (by rfl);simp_all[yS]<;>omega)
theorem cEz(n:Int): CT 132 [.i .u8 n] (.b (yS n)):=by
 refine bQ cZ Tryz.func132 g0 ?_
 ·skip;repeat'(first|refine gT ?_ ?_|refine gF ?_ ?_|refine gC ?_ ?_|(intro hc;simp -implicitDefEqProofs only[hc,go_sem]))
  all_goals(refine bV ?_ (by rfl);simp_all[yS]<;>omega)
theorem cEy(n:Int): CT 133 [.i .u8 n] (.b (bGf n)):=by
 refine bQ cZ Tryz.func133 g0 ?_
 ·skip;repeat'(first|refine gT ?_ ?_|refine gF ?_ ?_|refine gC ?_ ?_|(intro hc;simp -implicitDefEqProofs only[hc,go_sem]))
  all_goals(refine bV ?_ (by rfl);simp_all[bGf]<;>omega)
def part(n:Int):Bool:=yS n||bGf n||decide (n=95)
theorem bWt(n:Int): CT 127 [.i .u8 n] (.b (part n)):=by
 refine bQ cZ Tryz.func127 g0 ?_
 ·skip;repeat'(first|refine gT ?_ ?_|refine gF ?_ ?_|refine gC ?_ ?_|refine aRf (bWu _) ?_;simp -implicitDefEqProofs only[go_sem]|(intro hc;simp -implicitDefEqProofs only[hc,go_sem]))
  all_goals(refine bV ?_ (by rfl);simp_all[part,bGf]<;>omega)
def at_(s:Str)(k:Nat):Int:=((s.getD k 0).toNat:Int)
def eQ(s:Str):Bool := !s.isEmpty&&decide (s.length≤40)&&yS (at_ s 0)&&s.all fun c=>part c.toNat
theorem bAs{s:Str}{q:Int→Bool}(h:∀j,j<s.length→q (at_ s j)=true):(s.all fun c=>q c.toNat)=true:=by
 rw[bF];intro c hc;obtain⟨j,hj,rfl⟩:=dC.1 hc;have:=h j hj;simpa[at_,hj]using this
theorem oT{s:Str}{q:Int→Bool}{j:Nat}(hj:j<s.length)(h:q (at_ s j)=false):(s.all fun c=>q c.toNat)=false:=by
 rw[List.all_eq_false];exact⟨s[j],qK hj,by simpa[at_,hj]using h⟩
theorem U0(s:Str)(hs:s.length≤140737488355328): CT 66 [.s s] (.b (eQ s)):=by
 refine bQ cZ Tryz.func66 g0 ?_
 ·skip;(refine zs1 bWu ?_;repeat' first|exact trivial|refine zJ ?_ ?_|refine zH fun hc=>?_);any_goals(refine bV ?_ (by rfl);simp_all[eQ,at_]<;>omega)
  refine dF (fun(k:Nat)=>(.k::.k::.j::.j::(rp 15 .k (.v (.i .i64 k)::(rp 8 .j []))))) (fun k=>[]) (fun k=>k≤s.length∧∀j,j<k→part (at_ s j)=true) (fun k=>s.length-k) (0) ⟨bJ _,fun j h=>by omega⟩ rfl (by simp[hZ]) ?_;rintro k j ⟨hk,ha⟩;refine zg ?_;(refine zs1 bWt ?_;repeat' first|exact trivial|refine zJ ?_ ?_|refine zH fun hc=>?_)
  ·refine bV ?_ (by rfl);simp only[eQ,oT (show k<s.length by omega) (by simpa[at_]using hc),aM]
  ·exact⟨k+1,⟨by omega,fD ha (by simpa[at_]using hc)⟩,by omega,by simp⟩
  ·refine bV ?_ (by rfl);have h1:k=s.length:=by omega
   simp only[eQ,bAs (h1▸ha)];simp_all[at_]<;>omega
def bEb(s:Str)(j:Nat):Bool:=yS (at_ s j)||(decide (j≠0)&&part (at_ s j))
theorem aWr{s:Str}(h:∀j,j<s.length→bEb s j=true)(h1:1≤s.length)(h2:s.length≤40):eQ s=true:=by
 have h0:=h 0 (by omega);have hp:(s.all fun c=>part c.toNat)=true:=bAs (fun j hj=>by
  have:=h j hj;unfold bEb at this;simp only[cC,aA]at this;rcases this with h|h
  ·simp[part,h]
  ·exact h.2)
 have hl:yS (at_ s 0)=true:=by simpa[bEb]using h0
 have hne:s ≠ []:=by intro h;simp[h]at h1
 simp[eQ,hp,hl,h2,hne]
theorem aFf{s:Str}{j:Nat}(hj:j<s.length)(h:bEb s j=false):eQ s=false:=by
 unfold bEb at h;simp only[gR,nZ]at h;rcases h with⟨h1,h2|h2⟩
 ·have:j=0:=by simpa using h2
  subst this;simp[eQ,h1]
 ·simp[eQ,oT hj h2]
theorem aYq(s:Str)(hs:s.length≤140737488355328): CT 71 [.s s] (.b (eQ s)):=by
 refine bQ cZ Tryz.func71 g0 ?_
 ·skip;refine dF (fun(k:Nat)=>(.k::.k::.j::.j::.k::.k::.v (.i .i64 k)::(rp 25 .j (rp 8 .k [])))) (fun k=>[]) (fun k=>k≤s.length∧∀j,j<k→bEb s j=true) (fun k=>s.length-k) (0) ⟨bJ _,fun j h=>by omega⟩ rfl (by simp[hZ]) ?_;rintro k j ⟨hk,ha⟩;refine zg ?_;(refine zs2 cEz cEy ?_;repeat' first|exact trivial|refine zJ ?_ ?_|refine zH fun hc=>?_);all_goals first|refine Exists.intro (k+1) ⟨⟨by omega,fD ha (by simp_all[bEb,at_,part]<;>omega)⟩,by omega,by simp⟩|refine bV ?_ (by rfl)
  ·rw[aFf (j:=k) (by omega) (by simp_all[bEb,at_,part]<;>omega)]
  ·rw[aFf (j:=k) (by omega) (by simp_all[bEb,at_,part]<;>omega)]
  ·have h1:k=s.length:=by omega
   by_cases h2:s.length≤40
   ·rw[aWr (h1▸ha) (by omega) h2];simp;omega
   ·have e1:eQ s=false:=by simp[eQ,h2]
    rw[e1];congr 1;symm;simp;omega
  ·have:s=[]:=List.eq_nil_of_length_eq_zero (by omega);simp[this,eQ]
def qO(s:Str):Bool:=decide (2<s.length)&&decide (at_ s (s.length-2)=39)&&decide (49≤at_ s (s.length-1))&&decide (at_ s (s.length-1)≤56)
def sO(s:Str):Str:=if qO s then s.take (s.length-2)else s
def frame(s:Str):Str:=if qO s then s.drop (s.length-2)else []
theorem bLb(s:Str)(hs:s.length≤140737488355328): CT 153 [.s s] (.tup [.s (sO s),.s (frame s)]):=by
 refine bQ cZ Tryz.func153 g0 ?_
 ·skip;(refine zs0 ?_;repeat' first|exact trivial|refine zJ ?_ ?_|refine zH fun hc=>?_);all_goals(refine bV ?_ (by rfl))
  ·have h:qO s=true:=by simp_all[qO,at_]<;>omega
   simp[sO,frame,h]
  all_goals(have h:qO s=false:=by simp_all[qO,at_]<;>omega)
  all_goals simp[sO,frame,h]
theorem bYz(s:Str)(hs:s.length≤140737488355328): CT 230 [.s s] (.tup [.s (sO s),.s (frame s)]):=by
 refine bQ cZ Tryz.func230 g0 ?_
 ·skip;(refine zs0 ?_;repeat' first|exact trivial|refine zJ ?_ ?_|refine zH fun hc=>?_);all_goals(refine bV ?_ (by rfl))
  ·have h:qO s=true:=by simp_all[qO,at_]<;>omega
   simp[sO,frame,h]
  all_goals(have h:qO s=false:=by simp_all[qO,at_]<;>omega)
  all_goals simp[sO,frame,h]
theorem aBw(s:Str):(sO s).length≤s.length:=by unfold sO;split<;>simp<;>omega
theorem bZh(s:Str)(hs:s.length≤140737488355328): CT 180 [.s s] (.b (eQ (sO s))):=by
 refine bQ cZ Tryz.func180 g0 ?_
 ·skip;(repeat'(first|refine gT ?_ ?_|refine gF ?_ ?_|refine gC ?_ ?_|(refine cE (bYz s hs) ?_;simp -implicitDefEqProofs (disch:=omega) only[go_sem,simprocAttr])|(refine aRf (aYq _ (jT (aBw s) hs)) ?_;simp -implicitDefEqProofs (disch:=omega) only[go_sem,simprocAttr])|refine bX (by omega) ?_|(intro hr;have hc:=hr;(try simp only[zdz]at hc);simp -implicitDefEqProofs (disch:=omega) only[hr,go_sem,simprocAttr];(try clear hr))));refine bV ?_ (by rfl);rfl
def kL:List Str:=[[65,110,121],[73,110,116],[66,111,111,108],[84,101,120,116],[73,100],[76,105,115,116],[77,97,112]]
theorem bYb:CT 85 [] (.own 1 (kL.map .s) kL.length):=by
 refine bQ cZ Tryz.func85 g0 ?_
 ·skip;exact aXm rfl rfl rfl rfl rfl
def idx{α:Type}(p:α→Bool)(l:List α):Int:=match l.findIdx? p with|some i=>i|none => -1
theorem yZ{α:Type}{p:α→Bool}{l:List α}{d:α}{k:Nat}(hk:k<l.length)(h:p (l.getD k d)=true)(hn:∀j,j<k→p (l.getD j d)=false):idx p l=k:=by
 have:l.findIdx? p=some k:=by
  rw[jA];refine⟨hk,by simpa[List.getD,hk]using h,fun j hj=>?_⟩;have:=hn j hj;simpa[List.getD,show j<l.length by omega]using this
 simp[idx,this]
theorem zC{α:Type}{p:α→Bool}{l:List α}{d:α}(hn:∀j,j<l.length→p (l.getD j d)=false):idx p l = -1:=by
 have:l.findIdx? p=none:=by
  rw[fW];intro x hx;obtain⟨j,hj,rfl⟩:=dC.1 hx;have:=hn j hj;simpa[List.getD,hj]using this
 simp[idx,this]
theorem O6{α:Type}{p:α→Bool}{l:List α}:decide (0≤idx p l)=l.any p:=by
 unfold idx;cases h:l.findIdx? p with
 |none=>
  rw[fW]at h;have:l.any p=false:=by rw[fQ];intro x hx;simp[h x hx]
  rw[this];rfl
 |some i=>
  rw[jA]at h;obtain⟨hi,hp,_⟩:=h;have:l.any p=true:=gY.2 ⟨_,qK hi,hp⟩;rw[this];simp
theorem bZu(l:List Str)(s:Str)(hl:l.length≤140737488355328): CT 146 [avs l,.s s] (.i .i64 (idx (fun x=>decide (s=x)) l)):=by
 refine eG cZ Tryz.func146 g0 ?_
 ·simp -implicitDefEqProofs (disch:=omega) only[Tryz.f146,go_sem,List.replicate,simprocAttr,avs];refine dF (fun(k:Nat)=>(.k::.k::.k::.k::.j::.j::.k::.k::.v (.i .i64 k)::(rp 10 .j []))) (fun k=>[]) (fun k=>k≤l.length∧∀j,j<k→decide (s=l.getD j [])=false) (fun k=>l.length-k) (0) ⟨bJ _,fun j h=>by omega⟩ rfl (by simp[hZ]) ?_;rintro k j ⟨hk,ha⟩;refine zg ?_;(refine zs0 ?_;repeat' first|exact trivial|refine zJ ?_ ?_|refine zH fun hc=>?_)
  ·refine bV ?_ (by rfl);rw[yZ (d:=[]) (k:=k) (by omega) (by simpa using hc) ha]
  ·exact⟨k+1,⟨by omega,fD ha (by simpa using hc)⟩,by omega,by simp⟩
  ·refine bV ?_ (by rfl);have h1:k=l.length:=by omega
   rw[zC (h1▸ha)]
theorem aFh{s:Str}{l:List Str}:decide (0≤idx (fun x=>decide (s=x)) l)=l.contains s:=by
 rw[O6,List.contains_eq_any_beq];congr 1;funext x;exact fA.2 (by simp)
theorem T9(l:List Str)(s:Str)(hl:l.length≤140737488355328): CT 84 [avs l,.s s] (.b (l.contains s)):=by
 refine eG cZ Tryz.func84 g0 ?_
 ·simp -implicitDefEqProofs (disch:=omega) only[Tryz.f84,go_sem,List.replicate,simprocAttr,avs];(refine zs1 (bZu l s hl) ?_;repeat' first|exact trivial|refine zJ ?_ ?_|refine zH fun hc=>?_);refine bV ?_ (by rfl);rw[aFh]
theorem bCr{l m:List Str}(hl:l.length=m.length)(h:∀j,j<l.length→l.getD j []=m.getD j []):l=m:=by
 apply List.ext_getElem hl;intro j h1 h2;have:=h j h1;simpa[List.getD,h1,h2]using this
theorem bWw(l m:List Str)(hl:l.length≤140737488355328)(hm:m.length≤140737488355328): CT 217 [avs l,avs m] (.b (decide (l=m))):=by
 refine eG cZ Tryz.func217 g0 ?_
 ·simp -implicitDefEqProofs (disch:=omega) only[Tryz.f217,go_sem,List.replicate,simprocAttr,avs];(refine zs0 ?_;repeat' first|exact trivial|refine zJ ?_ ?_|refine zH fun hc=>?_)
  ·refine bV ?_ (by rfl);have:l≠m:=fun h=>hc (by rw[h]);rw[zf this]
  refine dF (fun(k:Nat)=>(.k::.k::.k::.k::.j::.j::(rp 7 .k (.v (.i .i64 k)::(rp 12 .j []))))) (fun k=>[]) (fun k=>k≤l.length∧∀j,j<k→l.getD j []=m.getD j []) (fun k=>l.length-k) (0) ⟨bJ _,fun j h=>by omega⟩ rfl (by simp[hZ]) ?_;rintro k j ⟨hk,ha⟩;refine zg ?_;(refine zs0 ?_;repeat' first|exact trivial|refine zJ ?_ ?_|refine zH fun hc=>?_)
  ·refine bV ?_ (by rfl);have:l≠m:=fun h=>by simp[h]at *
   rw[zf this]
  ·exact⟨k+1,⟨by omega,fD ha (by simpa using hc)⟩,by omega,by simp⟩
  ·refine bV ?_ (by rfl);have:l=m:=bCr (by omega) (fun j hj=>ha j (by omega));rw[zt this]
theorem bEh{l:List Str}{k:Nat}(hn:l.Nodup)(hk:k<l.length):(l.take k).contains (l.getD k [])=false:=by
 have:l.getD k []∉l.take k:=by
  intro hm;obtain⟨j,hj,he⟩:=dC.1 hm;have:=(dQ.1 hn) j k (by simp at hj;omega) hk (by simp at hj;omega);simp[List.getD,hk]at he;exact this he
 simpa using this
theorem bEg{l:List Str}(h:∀j,j<l.length→(l.take j).contains (l.getD j [])=false):l.Nodup:=by
 refine dQ.2 (fun i j hi hj hij he=>?_);have:=h j hj;have hm:l.getD j []∈l.take j:=by
  rw[dC];exact⟨i,by simp;omega,by simp[List.getD,hj,he]⟩
 have h2:(l.take j).contains (l.getD j [])=true:=by simpa using hm
 rw[h2]at this;cases this
def sN:List Str:=[[97,100,100],[97,110,100],[99,97,116],[100,101,108],[100,105,118],[101,113],[103,101],[103,101,116],[103,116],[104,97,115],[105,115],[105,115,118,97,108,117,101],[106,111,105,110],[107,101,121,115],[108,101],[108,101,110,103,116,104],[108,116],[109,111,100],[109,117,108],[110,101],[110,101,103],[110,111,116],[111,114],[112,105,99,107],[112,117,116],[115,105,122,101],[115,117,98],[116,101,120,116]]
theorem bDp:∀{l:List AV},persL l=true→∀x∈l,pers x=true:=by
 intro l h x hx;obtain⟨j,hj,rfl⟩:=dC.1 hx;exact iN h j _ (by simp[hj])
theorem wI{h:List AObj}{l:List AV}(hl:persL l=true):l.map (gZ dep h)=l:=by
 have:l.map (gZ dep h)=l.map id:=iP (fun x hx=>by rw[gE,if_pos (bDp hl x hx)];rfl);rw[this,List.map_id]
theorem bZg(l:List Str)(f:FuncId)(a b:List AV)(p:Str→Bool)(hl:l.length≤140737488355328)(ha:persL a=true)(hb:persL b=true)(hw:∀k,k<l.length→CT f (a++[.s (l.getD k [])]++b) (.b (p (l.getD k [])))): CT 210 [avs l,.fn f a b] (.i .i64 (idx p l)):=by
 refine eG cZ Tryz.func210 g0 ?_
 ·simp -implicitDefEqProofs (disch:=omega) only[Tryz.f210,go_sem,List.replicate,simprocAttr,avs];refine dF (fun(k:Nat)=>(.k::.k::.k::.k::.j::.j::.k::.k::.v (.i .i64 k)::(rp 10 .j []))) (fun k=>[]) (fun k=>k≤l.length∧∀j,j<k→p (l.getD j [])=false) (fun k=>l.length-k) (0) ⟨bJ _,fun j h=>by omega⟩ rfl (by simp[hZ]) ?_;rintro k j ⟨hk,hn⟩;refine zg ?_;(refine zs0 ?_;repeat' first|exact trivial|refine zJ ?_ ?_|refine zH fun hc=>?_)
  ·refine dA (hw k (by omega)) ?_ ?_
   ·exact zv (zA2 @cG.{0,0} (zA2 (fun h=>wI (h:=h) ha) (fun h=>wI (h:=h) hb)))
   ·refine zg ?_;(refine zs0 ?_;repeat' first|exact trivial|refine zJ ?_ ?_|refine zH fun hc=>?_)
    ·refine bV ?_ (by rfl);rw[yZ (d:=[]) (k:=k) (by omega) hc hn]
    ·exact⟨k+1,⟨by omega,fD hn hc⟩,by omega,by simp⟩
  ·refine bV ?_ (by rfl);have h1:k=l.length:=by omega
   rw[zC (h1▸hn)]
theorem bZt(l:List Str)(f:FuncId)(a b:List AV)(p:Str→Bool)(hl:l.length≤140737488355328)(ha:persL a=true)(hb:persL b=true)(hw:∀k,k<l.length→CT f (a++[.s (l.getD k [])]++b) (.b (p (l.getD k [])))): CT 147 [avs l,.fn f a b] (.b (l.any p)):=by
 refine eG cZ Tryz.func147 g0 ?_
 ·simp -implicitDefEqProofs (disch:=omega) only[Tryz.f147,go_sem,List.replicate,simprocAttr,avs];refine dA (bZg l f a b p hl ha hb hw) ?_ ?_
  ·exact zv (zA2 @avs.eq_1 (zA2 ha hb))
  ·refine zg ?_;refine bV ?_ (by rfl);rw[O6]
theorem bZs(x:Str)(f:FuncId)(a b:List AV)(p:Bool)(ha:persL a=true)(hb:persL b=true)(hw:CT f (a++[.s x]++b) (.b p)): CT 148 [.s x,.box [.fn f a b] 0] (.b (!p)):=by
 refine bQ cZ Tryz.func148 g0 ?_
 ·skip;refine dA hw ?_ ?_
  ·exact zv (zA2 @cG.{0,0} (zA2 (fun h=>wI (h:=h) ha) (fun h=>wI (h:=h) hb)))
  ·refine zg ?_;refine bV ?_ (by rfl);rfl
theorem bGh(l:List Str)(f:FuncId)(a b:List AV)(p:Str→Bool)(hl:l.length≤140737488355328)(ha:persL a=true)(hb:persL b=true)(hw:∀k,k<l.length→CT f (a++[.s (l.getD k [])]++b) (.b (p (l.getD k [])))): CT 86 [avs l,.fn f a b] (.b (l.all p)):=by
 refine eG cZ Tryz.func86 g0 ?_
 ·simp -implicitDefEqProofs (disch:=omega) only[Tryz.f86,go_sem,List.replicate,↓reduceIte,reduceAdd,reduceSub,reduceMul,reduceLeDiff,reduceLT,reduceEqDiff,reduceNeg,Nat.reduceBEq,avs];refine dA (bZt l 148 [] [.box [.fn f a b] 0] (fun x => !p x) hl rfl (by simp[persL,pers,ha,hb]) (fun k hk=>bZs _ f a b _ ha hb (hw k hk))) ?_ ?_
  ·exact zv (zA2 @avs.eq_1 (zA2 ha hb))
  ·refine zh (zA2 ha hb) ?_;refine bV ?_ (by rfl);rw[sS]
theorem cFh(s:Str)(hs:s.length≤140737488355328): CT 83 [.s s] (.b (eQ s && !kL.contains s)):=by
 refine bQ cZ Tryz.func83 g0 ?_
 ·skip;(refine zs3 (U0 s hs) bYb (T9 kL s (by decide)) ?_;repeat' first|exact trivial|refine zJ ?_ ?_|refine zH fun hc=>?_);all_goals(refine bV ?_ (by rfl))
  all_goals simp_all
theorem aAa{P:Program}{T:TypeId}(hT:P.underlying T=some .string){x:Str}:∀(l:List Str),gG P T (.s x) (l.map .s)=some (l.findIdx? fun y=>decide (x=y))
 | []=>rfl
 |y::l=>by
  simp only[aK,gG,aEq,lM,hT,aAa hT l,jB];cases h:decide (x=y)<;>simp
theorem wB{x:Str}{l:List Str}(h:l.contains x=false):(l.findIdx? fun y=>decide (x=y))=none:=by
 rw[fW];intro y hy;have:x∉l:=by simpa using h
 simp only[decide_eq_false_iff_not];exact fun he=>this (he▸hy)
theorem aMt(x:Str)(l:List Str):gG Tryz.prog 9 (.s x) (l.map .s)=some (l.findIdx? fun y=>decide (x=y)):=aAa un9 l
theorem aJn{x:Str}{l:List Str}(h:l.contains x=true):∃i,i<l.length∧(l.findIdx? fun y=>decide (x=y))=some i:=by
 cases hf:l.findIdx? fun y=>decide (x=y)with
 |none=>
  rw[fW]at hf;have hm:x∈l:=by simpa using h
  have:=hf x hm;simp at this
 |some i=>
  rw[jA]at hf;exact⟨i,hf.1,rfl⟩
theorem aSy{l:List Str}{k:Nat}(h:k<l.length):l.take (k+1)=l.take k++[l.getD k []]:=by
 rw[tO h];simp[List.getD,h]
theorem aHz{n i:Nat}{a:AV}(h:i<n):(List.replicate n a)[i]? = some a:=by simp[h]
theorem bQp(l:List Str)(hl:l.length≤140737488355328): CT 82 [avs l] (.b (decide l.Nodup)):=by
 refine eG cZ Tryz.func82 g0 ?_
 ·simp -implicitDefEqProofs (disch:=omega) only[Tryz.f82,go_sem,List.replicate,simprocAttr,avs];refine dF (fun(k:Nat)=>(.k::.k::.j::.k::.k::.j::.k::.k::.k::.v (.i .i64 k)::(rp 9 .j []))) (fun k=>[.map false ((l.take k).map .s) (List.replicate k (.b true))]) (fun k=>k≤l.length∧∀j,j<k→(l.take j).contains (l.getD j [])=false) (fun k=>l.length-k) (0) ⟨bJ _,fun j h=>by omega⟩ rfl (by simp[hZ]) ?_;rintro k j ⟨hk,ha⟩;refine zg ?_;(refine zs0 ?_;repeat' first|exact trivial|refine zJ ?_ ?_|refine zH fun hc=>?_)
  ·by_cases hx:(l.take k).contains (l.getD k [])=true
   ·obtain⟨i,hi,hf⟩:=aJn hx;have hi':i<k:=by simp at hi;omega
    simp -implicitDefEqProofs (disch:=omega) only[nD,aMt,hf,aHz hi',go_sem,simprocAttr];refine bV ?_ (by rfl);rw[zf (fun hn=>by rw[bEh hn (by omega)]at hx;cases hx)]
   ·have hx:=dD.2 hx;simp -implicitDefEqProofs (disch:=omega) only[nD,aMt,wB hx,go_sem,simprocAttr];refine⟨k+1,⟨by omega,fD ha hx⟩,by omega,?_,by simp⟩;rw[aSy (by omega),cG,aRu];rfl
  ·refine bV ?_ (by rfl);have h1:k=l.length:=by omega
   rw[zt (bEg (h1▸ha))]
def elB(x:Str×Str):AV:=.agg (fX x)
def elO(x:LOp):AV:=.agg (eU x)
attribute [go_sem] elB elO
theorem bZe(l:List (Str×Str))(f:FuncId)(a b:List AV)(p:Str×Str→Bool)(hl:l.length≤140737488355328)(ha:persL a=true)(hb:persL b=true)(hw:∀k,k<l.length→CT f (a++[elB (l.getD k ([],[]))]++b) (.b (p (l.getD k ([],[]))))): CT 211 [avb l,.fn f a b] (.i .i64 (idx p l)):=by
 refine bQ cZ Tryz.func211 g0 ?_
 ·skip;refine dF (fun(k:Nat)=>(.k::.k::.k::.k::.j::.j::.k::.k::.v (.i .i64 k)::(rp 10 .j []))) (fun k=>[]) (fun k=>k≤l.length∧∀j,j<k→p (l.getD j ([],[]))=false) (fun k=>l.length-k) (0) ⟨bJ _,fun j h=>by omega⟩ rfl (by simp[hZ]) ?_;rintro k j ⟨hk,hn⟩;refine zg ?_;(refine zs0 ?_;repeat' first|exact trivial|refine zJ ?_ ?_|refine zH fun hc=>?_)
  ·refine dA (hw k (by omega)) ?_ ?_
   ·exact zv (zA2 @cG.{0,0} (zA2 (fun h=>wI (h:=h) ha) (fun h=>wI (h:=h) hb)))
   ·refine zg ?_;(refine zs0 ?_;repeat' first|exact trivial|refine zJ ?_ ?_|refine zH fun hc=>?_)
    ·refine bV ?_ (by rfl);rw[yZ (d:=([],[])) (k:=k) (by omega) hc hn]
    ·exact⟨k+1,⟨by omega,fD hn hc⟩,by omega,by simp⟩
  ·refine bV ?_ (by rfl);have h1:k=l.length:=by omega
   rw[zC (h1▸hn)]
theorem bZd(l:List (LOp))(f:FuncId)(a b:List AV)(p:LOp→Bool)(hl:l.length≤140737488355328)(ha:persL a=true)(hb:persL b=true)(hw:∀k,k<l.length→CT f (a++[elO (l.getD k default)]++b) (.b (p (l.getD k default)))): CT 212 [avo l,.fn f a b] (.i .i64 (idx p l)):=by
 refine bQ cZ Tryz.func212 g0 ?_
 ·skip;refine dF (fun(k:Nat)=>(.k::.k::.k::.k::.j::.j::.k::.k::.v (.i .i64 k)::(rp 10 .j []))) (fun k=>[]) (fun k=>k≤l.length∧∀j,j<k→p (l.getD j default)=false) (fun k=>l.length-k) (0) ⟨bJ _,fun j h=>by omega⟩ rfl (by simp[hZ]) ?_;rintro k j ⟨hk,hn⟩;refine zg ?_;(refine zs0 ?_;repeat' first|exact trivial|refine zJ ?_ ?_|refine zH fun hc=>?_)
  ·refine dA (hw k (by omega)) ?_ ?_
   ·exact zv (zA2 @cG.{0,0} (zA2 (fun h=>wI (h:=h) ha) (fun h=>wI (h:=h) hb)))
   ·refine zg ?_;(refine zs0 ?_;repeat' first|exact trivial|refine zJ ?_ ?_|refine zH fun hc=>?_)
    ·refine bV ?_ (by rfl);rw[yZ (d:=default) (k:=k) (by omega) hc hn]
    ·exact⟨k+1,⟨by omega,fD hn hc⟩,by omega,by simp⟩
  ·refine bV ?_ (by rfl);have h1:k=l.length:=by omega
   rw[zC (h1▸hn)]
theorem bYy(l:List (Int))(f:FuncId)(a b:List AV)(p:Int→Bool)(hl:l.length≤140737488355328)(ha:persL a=true)(hb:persL b=true)(hw:∀k,k<l.length→CT f (a++[.i .i64 (l.getD k 0)]++b) (.b (p (l.getD k 0)))): CT 254 [avi l,.fn f a b] (.i .i64 (idx p l)):=by
 refine bQ cZ Tryz.func254 g0 ?_
 ·skip;refine dF (fun(k:Nat)=>(.k::.k::.k::.k::.j::.j::.k::.k::.v (.i .i64 k)::(rp 10 .j []))) (fun k=>[]) (fun k=>k≤l.length∧∀j,j<k→p (l.getD j 0)=false) (fun k=>l.length-k) (0) ⟨bJ _,fun j h=>by omega⟩ rfl (by simp[hZ]) ?_;rintro k j ⟨hk,hn⟩;refine zg ?_;(refine zs0 ?_;repeat' first|exact trivial|refine zJ ?_ ?_|refine zH fun hc=>?_)
  ·refine dA (hw k (by omega)) ?_ ?_
   ·exact zv (zA2 @cG.{0,0} (zA2 (fun h=>wI (h:=h) ha) (fun h=>wI (h:=h) hb)))
   ·refine zg ?_;(refine zs0 ?_;repeat' first|exact trivial|refine zJ ?_ ?_|refine zH fun hc=>?_)
    ·refine bV ?_ (by rfl);rw[yZ (d:=0) (k:=k) (by omega) hc hn]
    ·exact⟨k+1,⟨by omega,fD hn hc⟩,by omega,by simp⟩
  ·refine bV ?_ (by rfl);have h1:k=l.length:=by omega
   rw[zC (h1▸hn)]
theorem bZp(l:List (Str×Str))(f:FuncId)(a b:List AV)(p:Str×Str→Bool)(hl:l.length≤140737488355328)(ha:persL a=true)(hb:persL b=true)(hw:∀k,k<l.length→CT f (a++[elB (l.getD k ([],[]))]++b) (.b (p (l.getD k ([],[]))))): CT 149 [avb l,.fn f a b] (.b (l.any p)):=by
 refine bQ cZ Tryz.func149 g0 ?_
 ·skip;refine dA (bZe l f a b p hl ha hb hw) ?_ ?_
  ·exact zv (zA2 ha hb)
  ·refine zg ?_;refine bV ?_ (by rfl);rw[O6]
theorem bZn(l:List (LOp))(f:FuncId)(a b:List AV)(p:LOp→Bool)(hl:l.length≤140737488355328)(ha:persL a=true)(hb:persL b=true)(hw:∀k,k<l.length→CT f (a++[elO (l.getD k default)]++b) (.b (p (l.getD k default)))): CT 151 [avo l,.fn f a b] (.b (l.any p)):=by
 refine bQ cZ Tryz.func151 g0 ?_
 ·skip;refine dA (bZd l f a b p hl ha hb hw) ?_ ?_
  ·exact zv (zA2 ha hb)
  ·refine zg ?_;refine bV ?_ (by rfl);rw[O6]
theorem bZc(l:List (Int))(f:FuncId)(a b:List AV)(p:Int→Bool)(hl:l.length≤140737488355328)(ha:persL a=true)(hb:persL b=true)(hw:∀k,k<l.length→CT f (a++[.i .i64 (l.getD k 0)]++b) (.b (p (l.getD k 0)))): CT 214 [avi l,.fn f a b] (.b (l.any p)):=by
 refine bQ cZ Tryz.func214 g0 ?_
 ·skip;refine dA (bYy l f a b p hl ha hb hw) ?_ ?_
  ·exact zv (zA2 ha hb)
  ·refine zg ?_;refine bV ?_ (by rfl);rw[O6]
theorem bZo(x:Str×Str)(f:FuncId)(a b:List AV)(p:Bool)(ha:persL a=true)(hb:persL b=true)(hw:CT f (a++[elB x]++b) (.b p)): CT 150 [elB x,.box [.fn f a b] 0] (.b (!p)):=by
 refine bQ cZ Tryz.func150 g0 ?_
 ·skip;refine dA hw ?_ ?_
  ·exact zv (zA2 @cG.{0,0} (zA2 (fun h=>wI (h:=h) ha) (fun h=>wI (h:=h) hb)))
  ·refine zg ?_;refine bV ?_ (by rfl);rfl
theorem bZm(x:LOp)(f:FuncId)(a b:List AV)(p:Bool)(ha:persL a=true)(hb:persL b=true)(hw:CT f (a++[elO x]++b) (.b p)): CT 152 [elO x,.box [.fn f a b] 0] (.b (!p)):=by
 refine bQ cZ Tryz.func152 g0 ?_
 ·skip;refine dA hw ?_ ?_
  ·exact zv (zA2 @cG.{0,0} (zA2 (fun h=>wI (h:=h) ha) (fun h=>wI (h:=h) hb)))
  ·refine zg ?_;refine bV ?_ (by rfl);rfl
theorem bZb(x:Int)(f:FuncId)(a b:List AV)(p:Bool)(ha:persL a=true)(hb:persL b=true)(hw:CT f (a++[.i .i64 x]++b) (.b p)): CT 215 [.i .i64 x,.box [.fn f a b] 0] (.b (!p)):=by
 refine bQ cZ Tryz.func215 g0 ?_
 ·skip;refine dA hw ?_ ?_
  ·exact zv (zA2 @cG.{0,0} (zA2 (fun h=>wI (h:=h) ha) (fun h=>wI (h:=h) hb)))
  ·refine zg ?_;refine bV ?_ (by rfl);rfl
theorem cFg(l:List (Str×Str))(f:FuncId)(a b:List AV)(p:Str×Str→Bool)(hl:l.length≤140737488355328)(ha:persL a=true)(hb:persL b=true)(hw:∀k,k<l.length→CT f (a++[elB (l.getD k ([],[]))]++b) (.b (p (l.getD k ([],[]))))): CT 88 [avb l,.fn f a b] (.b (l.all p)):=by
 refine bQ cZ Tryz.func88 g0 ?_
 ·skip;refine dA (bZp l 150 [] [.box [.fn f a b] 0] (fun x => !p x) hl rfl (by simp[persL,pers,ha,hb]) (fun k hk=>bZo _ f a b _ ha hb (hw k hk))) ?_ ?_
  ·exact zv (zA2 ha hb)
  ·refine zh (zA2 ha hb) ?_;refine bV ?_ (by rfl);rw[sS]
theorem bXo(l:List (LOp))(f:FuncId)(a b:List AV)(p:LOp→Bool)(hl:l.length≤140737488355328)(ha:persL a=true)(hb:persL b=true)(hw:∀k,k<l.length→CT f (a++[elO (l.getD k default)]++b) (.b (p (l.getD k default)))): CT 91 [avo l,.fn f a b] (.b (l.all p)):=by
 refine bQ cZ Tryz.func91 g0 ?_
 ·skip;refine dA (bZn l 152 [] [.box [.fn f a b] 0] (fun x => !p x) hl rfl (by simp[persL,pers,ha,hb]) (fun k hk=>bZm _ f a b _ ha hb (hw k hk))) ?_ ?_
  ·exact zv (zA2 ha hb)
  ·refine zh (zA2 ha hb) ?_;refine bV ?_ (by rfl);rw[sS]
theorem bZk(l:List (Int))(f:FuncId)(a b:List AV)(p:Int→Bool)(hl:l.length≤140737488355328)(ha:persL a=true)(hb:persL b=true)(hw:∀k,k<l.length→CT f (a++[.i .i64 (l.getD k 0)]++b) (.b (p (l.getD k 0)))): CT 156 [avi l,.fn f a b] (.b (l.all p)):=by
 refine bQ cZ Tryz.func156 g0 ?_
 ·skip;refine dA (bZc l 215 [] [.box [.fn f a b] 0] (fun x => !p x) hl rfl (by simp[persL,pers,ha,hb]) (fun k hk=>bZb _ f a b _ ha hb (hw k hk))) ?_ ?_
  ·exact zv (zA2 ha hb)
  ·refine zh (zA2 ha hb) ?_;refine bV ?_ (by rfl);rw[sS]
theorem xO{α:Type}[DecidableEq α]{P:Program}{T:TypeId}{el:α→AV}(hT:∀x y,aEq P T (el x) (el y)=some (decide (x=y))){x:α}:∀(l:List α),gG P T (el x) (l.map el)=some (l.findIdx? fun y=>decide (x=y))
 | []=>rfl
 |y::l=>by
  simp only[aK,gG,hT,xO hT l,jB];cases h:decide (x=y)<;>simp
theorem cGz(x:Str×Str)(l:List (Str×Str)):gG Tryz.prog 117 (elB x) (l.map elB)=some (l.findIdx? fun y=>decide (x=y)):=xO (fun x y=>by
 simp only[elB,fX,aEq,cDn,jH,lM,un9,aB];rw[fA];simp[Prod.ext_iff]) l
theorem cGy(x:Int)(l:List Int):gG Tryz.prog 3 (.i .i64 x) (l.map (.i .i64))=some (l.findIdx? fun y=>decide (x=y)):=xO (fun x y=>by
 simp[aEq,lM,un3]) l
theorem pI{α:Type}[BEq α] [LawfulBEq α][DecidableEq α]{x:α}{l:List α}(h:l.contains x=false):(l.findIdx? fun y=>decide (x=y))=none:=by
 rw[fW];intro y hy;have:x∉l:=by simpa using h
 simp only[decide_eq_false_iff_not];exact fun he=>this (he▸hy)
theorem E8{α:Type}[BEq α] [LawfulBEq α][DecidableEq α]{x:α}{l:List α}(h:l.contains x=true):∃i,i<l.length∧(l.findIdx? fun y=>decide (x=y))=some i:=by
 cases hf:l.findIdx? fun y=>decide (x=y)with
 |none=>
  rw[fW]at hf;have hm:x∈l:=by simpa using h
  have:=hf x hm;simp at this
 |some i=>
  rw[jA]at hf;exact⟨i,hf.1,rfl⟩
theorem uJ{α:Type}[BEq α] [LawfulBEq α][DecidableEq α]{l:List α}{k:Nat}{d:α}(hn:l.Nodup)(hk:k<l.length):(l.take k).contains (l.getD k d)=false:=by
 have:l.getD k d∉l.take k:=by
  intro hm;obtain⟨j,hj,he⟩:=dC.1 hm;have:=(dQ.1 hn) j k (by simp at hj;omega) hk (by simp at hj;omega);simp[List.getD,hk]at he;exact this he
 simpa using this
theorem aEo{α:Type}[BEq α] [LawfulBEq α][DecidableEq α]{l:List α}{d:α}(h:∀j,j<l.length→(l.take j).contains (l.getD j d)=false):l.Nodup:=by
 refine dQ.2 (fun i j hi hj hij he=>?_);have:=h j hj;have hm:l.getD j d∈l.take j:=by
  rw[dC];exact⟨i,by simp;omega,by simp[List.getD,hj,he]⟩
 have h2:(l.take j).contains (l.getD j d)=true:=by simpa using hm
 rw[h2]at this;cases this
theorem cFi(l:List (Str×Str))(hl:l.length≤140737488355328): CT 81 [avb l] (.b (decide l.Nodup)):=by
 refine bQ cZ Tryz.func81 g0 ?_
 ·skip;refine kI (fun(k:Nat)=>(.k::.k::.j::.k::.k::.j::.k::.k::.k::.v (.i .i64 k)::(rp 9 .j []))) (fun k=>[.map false ((l.take k).map elB) (List.replicate k (.b true))]) (fun k=>k≤l.length∧∀j,j<k→(l.take j).contains (l.getD j ([],[]))=false) (fun k=>l.length-k) (0) _ ⟨bJ _,fun j h=>by omega⟩ rfl (by simp[hZ]) ?_;rintro k g j ⟨hk,ha⟩;refine zg ?_;(refine zs0 ?_;repeat' first|exact trivial|refine zJ ?_ ?_|refine zH fun hc=>?_)
  ·by_cases hx:(l.take k).contains (l.getD k ([],[]))=true
   ·obtain⟨i,hi,hf⟩:=E8 hx;have hi':i<k:=by simp at hi;omega
    have hk2:=cGz (l.getD k ([],[])) (l.take k);simp only[elB,fX]at hk2;simp -implicitDefEqProofs (disch:=omega) only[nD,hk2,hf,aHz hi',go_sem,simprocAttr];refine bV ?_ (by rfl);rw[zf (fun hn=>by rw[uJ hn (by omega)]at hx;cases hx)]
   ·have hx:=dD.2 hx;have hk2:=cGz (l.getD k ([],[])) (l.take k);simp only[elB,fX]at hk2;refine zh (zA2 @nD.eq_1 (zA2 hk2 (pI hx))) ?_;refine⟨k+1,_,⟨by omega,fD ha hx⟩,by omega,congr (congrArg List.cons ?_) rfl,by simp⟩;rw[fO (d:=([],[])) (by omega),cG,aRu];rfl
  ·refine bV ?_ (by rfl);have h1:k=l.length:=by omega
   rw[zt (aEo (h1▸ha))]
theorem bZj(l:List Int)(hl:l.length≤140737488355328): CT 157 [avi l] (.b (decide l.Nodup)):=by
 refine bQ cZ Tryz.func157 g0 ?_
 ·skip;refine dF (fun(k:Nat)=>(.k::.k::.j::.k::.k::.j::.k::.k::.k::.v (.i .i64 k)::(rp 9 .j []))) (fun k=>[.map false ((l.take k).map (.i .i64)) (List.replicate k (.b true))]) (fun k=>k≤l.length∧∀j,j<k→(l.take j).contains (l.getD j 0)=false) (fun k=>l.length-k) (0) ⟨bJ _,fun j h=>by omega⟩ rfl (by simp[hZ]) ?_;rintro k j ⟨hk,ha⟩;refine zg ?_;(refine zs0 ?_;repeat' first|exact trivial|refine zJ ?_ ?_|refine zH fun hc=>?_)
  ·by_cases hx:(l.take k).contains (l.getD k 0)=true
   ·obtain⟨i,hi,hf⟩:=E8 hx;have hi':i<k:=by simp at hi;omega
    simp -implicitDefEqProofs (disch:=omega) only[nD,cGy,hf,aHz hi',go_sem,simprocAttr];refine bV ?_ (by rfl);rw[zf (fun hn=>by rw[uJ hn (by omega)]at hx;cases hx)]
   ·have hx:=dD.2 hx;simp -implicitDefEqProofs (disch:=omega) only[nD,cGy,pI hx,go_sem,simprocAttr];refine⟨k+1,⟨by omega,fD ha hx⟩,by omega,?_,by simp⟩;rw[fO (d:=0) (by omega),cG,aRu];rfl
  ·refine bV ?_ (by rfl);have h1:k=l.length:=by omega
   rw[zt (aEo (h1▸ha))]
structure OkO(o:LOp):Prop where
 name:o.name.length≤140737488355328
 args:o.args.length≤140737488355328
 argsS:∀x∈o.args,x.length≤140737488355328
 sort:o.sort.length≤140737488355328
 pieces:o.pieces.length≤140737488355328
 piecesS:∀x∈o.pieces,x.1.length≤140737488355328∧x.2.length≤140737488355328
 strict:o.strict.length≤140737488355328
 piecesT:o.pieces.length≤4398046511104
 argsT:o.args.length≤8796093022208
 strictT:o.strict.length≤17592186044416
structure OkS(s:dX):Prop where
 sorts:s.sorts.length≤140737488355328
 sortsS:∀x∈s.sorts,x.length≤140737488355328
 below:s.below.length≤140737488355328
 belowS:∀x∈s.below,x.1.length≤140737488355328∧x.2.length≤140737488355328
 ops:s.ops.length≤140737488355328
 opsO:∀x∈s.ops,OkO x
 funs:s.funs.length≤140737488355328
 funsO:∀x∈s.funs,OkO x
 values:s.values.length≤140737488355328
 opsT:s.ops.length≤1172812402961
 funsT:s.funs.length≤1172812402961
 valuesS:∀x∈s.values,x.length≤140737488355328
theorem cT{α:Type}{l:List α}{d:α}{k:Nat}(h:k<l.length):l.getD k d∈l:=by simp[List.getD,h]
end Go.Proofs.YtdjcggcjlphdoaaGreatDoor

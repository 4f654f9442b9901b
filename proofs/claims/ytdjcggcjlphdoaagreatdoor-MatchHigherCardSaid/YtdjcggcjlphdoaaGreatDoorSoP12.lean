/-
  The types of the program, as far as its code asks; no condition.
-/
import Derived.Test.YtdjcggcjlphdoaaGreatDoorProg
import Derived.Test.YtdjcggcjlphdoaaGreatDoorVoP16
import Derived.Lib.Space
import Derived.Lib.ItoaNum
import Derived.Test.YtdjcggcjlphdoaaGreatDoorSoP11
set_option linter.unusedVariables false
set_option maxRecDepth 100000
set_option linter.unusedSimpArgs false
set_option maxHeartbeats 4000000
namespace Go.Proofs.YtdjcggcjlphdoaaGreatDoor
open Go Go.Vo
open Nat (reduceAdd reduceSub reduceMul reduceLeDiff reduceLT reduceEqDiff)
open Int (reduceNeg)
theorem cU:Tryz.prog.follows .mixedOrders=true:=by kernel_rfl
def wM:List AV:=Lib.asciiSpaceTab.map (.i .u8)
def aEl:List AV:=Lib.pow10Tab.map (.i .u64)
def G0:Glob:=fun g=>if g=0 then some (.box wM 0) else if g=2 then some (.box aEl 0) else none
theorem g0:nQ G0:=fun k a h=>by
 unfold G0 at h
 split at h
 · cases h; simp only [pers,wM,qZ]
 · split at h
   · cases h; simp only [pers,aEl,qZ]
   · cases h
@[go_sem] theorem az4:lB Tryz.prog 4=none:=by kernel_rfl
@[go_sem] theorem az9:lB Tryz.prog 9=none:=by kernel_rfl
@[go_sem] theorem bYd:lB Tryz.prog 26=none:=by kernel_rfl
@[go_sem] theorem bYc:lB Tryz.prog 30=none:=by kernel_rfl
@[go_sem] theorem bYb:lB Tryz.prog 38=none:=by kernel_rfl
@[go_sem] theorem bYa:lB Tryz.prog 62=none:=by kernel_rfl
@[go_sem] theorem bXz:lB Tryz.prog 75=none:=by kernel_rfl
@[go_sem] theorem bXy:lB Tryz.prog 89=none:=by kernel_rfl
@[go_sem] theorem bXx:lB Tryz.prog 97=none:=by kernel_rfl
@[go_sem] theorem bWn:lB Tryz.prog 101=none:=by kernel_rfl
@[go_sem] theorem bWm:lB Tryz.prog 114=none:=by kernel_rfl
@[go_sem] theorem bWl:lB Tryz.prog 117=none:=by kernel_rfl
@[go_sem] theorem bWk:lB Tryz.prog 123=none:=by kernel_rfl
@[go_sem] theorem bWj:lB Tryz.prog 125=none:=by kernel_rfl
@[go_sem] theorem bWi:lB Tryz.prog 129=none:=by kernel_rfl
@[go_sem] theorem bWh:lB Tryz.prog 132=none:=by kernel_rfl
@[go_sem] theorem bWg:lB Tryz.prog 139=none:=by kernel_rfl
@[go_sem] theorem bWf:lB Tryz.prog 150=none:=by kernel_rfl
@[go_sem] theorem bWe:lB Tryz.prog 174=none:=by kernel_rfl
@[go_sem] theorem bWd:lB Tryz.prog 224=none:=by kernel_rfl
@[go_sem] theorem bWc:lB Tryz.prog 249=none:=by kernel_rfl
@[go_sem] theorem sz3:kJ Tryz.prog 3=some 1:=by kernel_rfl
@[go_sem] theorem ag3:gJ Tryz.prog 3=some false:=by kernel_rfl
@[go_sem] theorem zo3:zeroOf Tryz.prog 3=some [.i .i64 0]:=by kernel_rfl
@[go_sem] theorem un3:Program.underlying Tryz.prog 3=some (.int .i64):=by kernel_rfl
@[go_sem] theorem sz4:kJ Tryz.prog 4=some 1:=by kernel_rfl
@[go_sem] theorem ag4:gJ Tryz.prog 4=some false:=by kernel_rfl
@[go_sem] theorem by4:R6 Tryz.prog 4=some 1:=by kernel_rfl
@[go_sem] theorem zo4:zeroOf Tryz.prog 4=some [.b false]:=by kernel_rfl
@[go_sem] theorem zv4:oY Tryz.prog 4=some (.b false):=by kernel_rfl
@[go_sem] theorem un4:Program.underlying Tryz.prog 4=some .bool:=by kernel_rfl
@[go_sem] theorem sz9:kJ Tryz.prog 9=some 1:=by kernel_rfl
@[go_sem] theorem ag9:gJ Tryz.prog 9=some false:=by kernel_rfl
@[go_sem] theorem by9:R6 Tryz.prog 9=some 16:=by kernel_rfl
@[go_sem] theorem zo9:zeroOf Tryz.prog 9=some [.s []]:=by kernel_rfl
@[go_sem] theorem zv9:oY Tryz.prog 9=some (.s []):=by kernel_rfl
@[go_sem] theorem un9:Program.underlying Tryz.prog 9=some .string:=by kernel_rfl
@[go_sem] theorem bXr:kJ Tryz.prog 22=some 1:=by kernel_rfl
@[go_sem] theorem bYp:gJ Tryz.prog 22=some false:=by kernel_rfl
@[go_sem] theorem bXl:zeroOf Tryz.prog 22=some [.e0]:=by kernel_rfl
@[go_sem] theorem bXh:oY Tryz.prog 22=some (.e0):=by kernel_rfl
@[go_sem] theorem bTp:Program.underlying Tryz.prog 22=some (.slice 9):=by kernel_rfl
@[go_sem] theorem bIy:eU Tryz.prog 22=some 9:=by kernel_rfl
@[go_sem] theorem bYo:gJ Tryz.prog 23=some false:=by kernel_rfl
@[go_sem] theorem bXo:Program.underlying Tryz.prog 23=some (.slice 117):=by kernel_rfl
@[go_sem] theorem bYn:gJ Tryz.prog 24=some false:=by kernel_rfl
@[go_sem] theorem bXn:Program.underlying Tryz.prog 24=some (.slice 114):=by kernel_rfl
@[go_sem] theorem bXw:eU Tryz.prog 24=some 114:=by kernel_rfl
@[go_sem] theorem bXq:kJ Tryz.prog 26=some 5:=by kernel_rfl
@[go_sem] theorem bYm:gJ Tryz.prog 26=some true:=by kernel_rfl
@[go_sem] theorem bSr:dQ Tryz.prog 26 0=some (0,some 1):=by kernel_rfl
@[go_sem] theorem bSq:dQ Tryz.prog 26 1=some (1,some 1):=by kernel_rfl
@[go_sem] theorem bSp:dQ Tryz.prog 26 2=some (2,some 1):=by kernel_rfl
@[go_sem] theorem bSo:dQ Tryz.prog 26 3=some (3,some 1):=by kernel_rfl
@[go_sem] theorem bSn:dQ Tryz.prog 26 4=some (4,some 1):=by kernel_rfl
@[go_sem] theorem bYl:gJ Tryz.prog 27=some false:=by kernel_rfl
@[go_sem] theorem bXp:kJ Tryz.prog 28=some 1:=by kernel_rfl
@[go_sem] theorem bYk:gJ Tryz.prog 28=some false:=by kernel_rfl
@[go_sem] theorem bXk:zeroOf Tryz.prog 28=some [.e0]:=by kernel_rfl
@[go_sem] theorem bTl:Program.underlying Tryz.prog 28=some (.slice 30):=by kernel_rfl
@[go_sem] theorem aZb:eU Tryz.prog 28=some 30:=by kernel_rfl
@[go_sem] theorem aXq:kJ Tryz.prog 30=some 6:=by kernel_rfl
@[go_sem] theorem bYj:gJ Tryz.prog 30=some true:=by kernel_rfl
@[go_sem] theorem aZx:R6 Tryz.prog 30=some 96:=by kernel_rfl
@[go_sem] theorem aXm:zeroOf Tryz.prog 30=some [.i .i64 0,.i .i64 0,.s [],.s [],.e0,.e0]:=by kernel_rfl
@[go_sem] theorem bXg:oY Tryz.prog 30=some (.agg [.i .i64 0,.i .i64 0,.s [],.s [],.e0,.e0]):=by kernel_rfl
@[go_sem] theorem bSm:dQ Tryz.prog 30 0=some (0,some 1):=by kernel_rfl
@[go_sem] theorem bSl:dQ Tryz.prog 30 1=some (1,some 1):=by kernel_rfl
@[go_sem] theorem bSk:dQ Tryz.prog 30 2=some (2,some 1):=by kernel_rfl
@[go_sem] theorem bSj:dQ Tryz.prog 30 3=some (3,some 1):=by kernel_rfl
@[go_sem] theorem bSi:dQ Tryz.prog 30 4=some (4,some 1):=by kernel_rfl
@[go_sem] theorem bSh:dQ Tryz.prog 30 5=some (5,some 1):=by kernel_rfl
@[go_sem] theorem bXu:iH Tryz.prog 30=some [(0,1),(1,1),(2,1),(3,1),(4,1),(5,1)]:=by kernel_rfl
@[go_sem] theorem bRg:Program.underlying Tryz.prog 31=some (.slice 62):=by kernel_rfl
@[go_sem] theorem bXv:eU Tryz.prog 31=some 62:=by kernel_rfl
@[go_sem] theorem bGw:kJ Tryz.prog 32=some 1:=by kernel_rfl
@[go_sem] theorem bYi:gJ Tryz.prog 32=some false:=by kernel_rfl
@[go_sem] theorem bMd:R6 Tryz.prog 32=some 24:=by kernel_rfl
@[go_sem] theorem bFx:zeroOf Tryz.prog 32=some [.e0]:=by kernel_rfl
@[go_sem] theorem bNw:Program.underlying Tryz.prog 32=some (.slice 62):=by kernel_rfl
@[go_sem] theorem bSs:eU Tryz.prog 32=some 62:=by kernel_rfl
@[go_sem] theorem bXm:Program.underlying Tryz.prog 37=some (.slice 32):=by kernel_rfl
@[go_sem] theorem bIx:eU Tryz.prog 37=some 32:=by kernel_rfl
@[go_sem] theorem bUa:kJ Tryz.prog 38=some 1:=by kernel_rfl
@[go_sem] theorem bYh:gJ Tryz.prog 38=some false:=by kernel_rfl
@[go_sem] theorem bXj:zeroOf Tryz.prog 38=some [.i .i64 0]:=by kernel_rfl
@[go_sem] theorem bMz:kJ Tryz.prog 62=some 7:=by kernel_rfl
@[go_sem] theorem bYg:gJ Tryz.prog 62=some true:=by kernel_rfl
@[go_sem] theorem bSv:R6 Tryz.prog 62=some 112:=by kernel_rfl
@[go_sem] theorem bRf:zeroOf Tryz.prog 62=some [.s [],.i .i64 0,.i .i64 0,.s [],.s [],.e0,.e0]:=by kernel_rfl
@[go_sem] theorem bSg:dQ Tryz.prog 62 0=some (0,some 1):=by kernel_rfl
@[go_sem] theorem bSf:dQ Tryz.prog 62 1=some (1,some 6):=by kernel_rfl
@[go_sem] theorem bXt:iH Tryz.prog 62=some [(0,1),(1,6)]:=by kernel_rfl
@[go_sem] theorem bYf:gJ Tryz.prog 75=some false:=by kernel_rfl
@[go_sem] theorem bXi:zeroOf Tryz.prog 89=some [.p (.pointer Option.none),.e0,.b false,.b false]:=by kernel_rfl
@[go_sem] theorem bSe:dQ Tryz.prog 89 0=some (0,some 1):=by kernel_rfl
@[go_sem] theorem bSd:dQ Tryz.prog 89 1=some (1,some 1):=by kernel_rfl
@[go_sem] theorem bSc:dQ Tryz.prog 89 2=some (2,some 1):=by kernel_rfl
@[go_sem] theorem bSb:dQ Tryz.prog 89 3=some (3,some 1):=by kernel_rfl
@[go_sem] theorem bXs:iH Tryz.prog 89=some [(0,1),(1,1),(2,1),(3,1)]:=by kernel_rfl
@[go_sem] theorem bYe:gJ Tryz.prog 97=some false:=by kernel_rfl
@[go_sem] theorem bPw:dQ Tryz.prog 101 0=some (0,some 1):=by kernel_rfl
@[go_sem] theorem bGm:Program.underlying Tryz.prog 104=some (.map 9 30):=by kernel_rfl
@[go_sem] theorem bXd:gJ Tryz.prog 110=some false:=by kernel_rfl
@[go_sem] theorem bTz:Program.underlying Tryz.prog 110=some (.slice 224):=by kernel_rfl
@[go_sem] theorem bXc:gJ Tryz.prog 111=some false:=by kernel_rfl
@[go_sem] theorem bXb:gJ Tryz.prog 112=some false:=by kernel_rfl
@[go_sem] theorem bTy:Program.underlying Tryz.prog 112=some (.slice 3):=by kernel_rfl
@[go_sem] theorem bVv:eU Tryz.prog 112=some 3:=by kernel_rfl
@[go_sem] theorem bUg:kJ Tryz.prog 114=some 7:=by kernel_rfl
@[go_sem] theorem bXa:gJ Tryz.prog 114=some true:=by kernel_rfl
@[go_sem] theorem bWb:R6 Tryz.prog 114=some 120:=by kernel_rfl
@[go_sem] theorem bTk:zeroOf Tryz.prog 114=some [.s [],.e0,.s [],.e0,.i .i64 0,.i .i64 0,.e0]:=by kernel_rfl
@[go_sem] theorem bTc:oY Tryz.prog 114=some (.agg [.s [],.e0,.s [],.e0,.i .i64 0,.i .i64 0,.e0]):=by kernel_rfl
@[go_sem] theorem bPv:dQ Tryz.prog 114 0=some (0,some 1):=by kernel_rfl
@[go_sem] theorem bPu:dQ Tryz.prog 114 1=some (1,some 1):=by kernel_rfl
@[go_sem] theorem bPt:dQ Tryz.prog 114 2=some (2,some 1):=by kernel_rfl
@[go_sem] theorem bPs:dQ Tryz.prog 114 3=some (3,some 1):=by kernel_rfl
@[go_sem] theorem bPr:dQ Tryz.prog 114 4=some (4,some 1):=by kernel_rfl
@[go_sem] theorem bPq:dQ Tryz.prog 114 5=some (5,some 1):=by kernel_rfl
@[go_sem] theorem bPp:dQ Tryz.prog 114 6=some (6,some 1):=by kernel_rfl
@[go_sem] theorem bUv:iH Tryz.prog 114=some [(0,1),(1,1),(2,1),(3,1),(4,1),(5,1),(6,1)]:=by kernel_rfl
@[go_sem] theorem bUf:kJ Tryz.prog 117=some 2:=by kernel_rfl
@[go_sem] theorem bWz:gJ Tryz.prog 117=some true:=by kernel_rfl
@[go_sem] theorem bTj:zeroOf Tryz.prog 117=some [.s [],.s []]:=by kernel_rfl
@[go_sem] theorem bPo:dQ Tryz.prog 117 0=some (0,some 1):=by kernel_rfl
@[go_sem] theorem bPn:dQ Tryz.prog 117 1=some (1,some 1):=by kernel_rfl
@[go_sem] theorem bOt:jN Tryz.prog 117=some [9,9]:=by kernel_rfl
@[go_sem] theorem bWy:gJ Tryz.prog 123=some false:=by kernel_rfl
@[go_sem] theorem bWx:gJ Tryz.prog 125=some false:=by kernel_rfl
@[go_sem] theorem bWw:gJ Tryz.prog 126=some false:=by kernel_rfl
@[go_sem] theorem bTx:Program.underlying Tryz.prog 126=some (.map 9 22):=by kernel_rfl
@[go_sem] theorem bWv:gJ Tryz.prog 127=some false:=by kernel_rfl
@[go_sem] theorem bTw:Program.underlying Tryz.prog 127=some (.map 9 114):=by kernel_rfl
@[go_sem] theorem bTi:zeroOf Tryz.prog 129=some [.e0,.e0,.e0,.e0,.e0,.p (.map Option.none),.p (.map Option.none),.p (.map Option.none)]:=by kernel_rfl
@[go_sem] theorem bPm:dQ Tryz.prog 129 0=some (0,some 5):=by kernel_rfl
@[go_sem] theorem bPl:dQ Tryz.prog 129 1=some (5,some 1):=by kernel_rfl
@[go_sem] theorem bPk:dQ Tryz.prog 129 2=some (6,some 1):=by kernel_rfl
@[go_sem] theorem bPj:dQ Tryz.prog 129 3=some (7,some 1):=by kernel_rfl
@[go_sem] theorem bUu:iH Tryz.prog 129=some [(0,5),(5,1),(6,1),(7,1)]:=by kernel_rfl
@[go_sem] theorem bUe:kJ Tryz.prog 132=some 1:=by kernel_rfl
@[go_sem] theorem bWu:gJ Tryz.prog 132=some false:=by kernel_rfl
@[go_sem] theorem bTh:zeroOf Tryz.prog 132=some [.p (.map Option.none)]:=by kernel_rfl
@[go_sem] theorem bTv:Program.underlying Tryz.prog 132=some (.map 9 9):=by kernel_rfl
@[go_sem] theorem bTg:zeroOf Tryz.prog 138=some []:=by kernel_rfl
@[go_sem] theorem bUt:iH Tryz.prog 138=some []:=by kernel_rfl
@[go_sem] theorem bUd:kJ Tryz.prog 139=some 1:=by kernel_rfl
@[go_sem] theorem bWt:gJ Tryz.prog 139=some true:=by kernel_rfl
@[go_sem] theorem bTf:zeroOf Tryz.prog 139=some [.p (.pointer Option.none)]:=by kernel_rfl
@[go_sem] theorem bPi:dQ Tryz.prog 139 0=some (0,some 1):=by kernel_rfl
@[go_sem] theorem bUs:iH Tryz.prog 139=some [(0,1)]:=by kernel_rfl
@[go_sem] theorem bUc:kJ Tryz.prog 150=some 2:=by kernel_rfl
@[go_sem] theorem bTe:zeroOf Tryz.prog 150=some [.i .i64 0,.b false]:=by kernel_rfl
@[go_sem] theorem bPh:dQ Tryz.prog 150 0=some (0,some 1):=by kernel_rfl
@[go_sem] theorem bPg:dQ Tryz.prog 150 1=some (1,some 1):=by kernel_rfl
@[go_sem] theorem bUr:iH Tryz.prog 150=some [(0,1),(1,1)]:=by kernel_rfl
@[go_sem] theorem bWs:gJ Tryz.prog 160=some false:=by kernel_rfl
@[go_sem] theorem bTu:Program.underlying Tryz.prog 160=some (.slice 4):=by kernel_rfl
@[go_sem] theorem bVu:eU Tryz.prog 160=some 4:=by kernel_rfl
@[go_sem] theorem bTt:Program.underlying Tryz.prog 168=some (.map 117 4):=by kernel_rfl
@[go_sem] theorem bTs:Program.underlying Tryz.prog 169=some (.map 9 4):=by kernel_rfl
@[go_sem] theorem bWr:gJ Tryz.prog 174=some false:=by kernel_rfl
@[go_sem] theorem bTr:Program.underlying Tryz.prog 177=some (.slice 22):=by kernel_rfl
@[go_sem] theorem bVt:eU Tryz.prog 177=some 22:=by kernel_rfl
@[go_sem] theorem bTq:Program.underlying Tryz.prog 197=some (.slice 28):=by kernel_rfl
@[go_sem] theorem bVs:eU Tryz.prog 197=some 28:=by kernel_rfl
@[go_sem] theorem bTo:Program.underlying Tryz.prog 222=some (.map 3 4):=by kernel_rfl
@[go_sem] theorem bUb:kJ Tryz.prog 224=some 2:=by kernel_rfl
@[go_sem] theorem bWq:gJ Tryz.prog 224=some true:=by kernel_rfl
@[go_sem] theorem bTd:zeroOf Tryz.prog 224=some [.s [],.s []]:=by kernel_rfl
@[go_sem] theorem bPf:dQ Tryz.prog 224 0=some (0,some 1):=by kernel_rfl
@[go_sem] theorem bPe:dQ Tryz.prog 224 1=some (1,some 1):=by kernel_rfl
@[go_sem] theorem bTn:Program.underlying Tryz.prog 237=some (.int .u64):=by kernel_rfl
@[go_sem] theorem bTm:Program.underlying Tryz.prog 247=some (.slice 249):=by kernel_rfl
@[go_sem] theorem aVn:eU Tryz.prog 247=some 249:=by kernel_rfl
@[go_sem] theorem aSm:kJ Tryz.prog 249=some 2:=by kernel_rfl
@[go_sem] theorem bWp:gJ Tryz.prog 249=some true:=by kernel_rfl
@[go_sem] theorem aWj:R6 Tryz.prog 249=some 48:=by kernel_rfl
@[go_sem] theorem aSa:zeroOf Tryz.prog 249=some [.e0,.e0]:=by kernel_rfl
@[go_sem] theorem bPd:dQ Tryz.prog 249 0=some (0,some 1):=by kernel_rfl
@[go_sem] theorem bPc:dQ Tryz.prog 249 1=some (1,some 1):=by kernel_rfl
@[go_sem] theorem bUq:iH Tryz.prog 249=some [(0,1),(1,1)]:=by kernel_rfl
end Go.Proofs.YtdjcggcjlphdoaaGreatDoor
namespace Go.Vo
theorem zdA:(∀ l,avs l=.sl (l.map .s) l.length)∧(∀ l,avb l=.sl (l.flatMap eY) l.length)∧(∀ l,avi l=.sl (l.map (.i .i64)) l.length)∧(∀ l,avo l=.sl (l.flatMap eR) l.length)∧(∀ s,dD s=[avs s.sorts,avb s.below,avo s.ops,avo s.funs,avs s.values])∧(∀ o,eR o=[.s o.name,avs o.args,.s o.sort,avb o.pieces,.i .i64 o.prec,.i .i64 o.assoc,avi o.strict])∧(∀ b,eY b=[.s b.1,.s b.2]):=⟨fun _=>rfl,fun _=>rfl,fun _=>rfl,fun _=>rfl,fun _=>rfl,fun _=>rfl,fun _=>rfl⟩
theorem cE {P:Program} {G:Glob} {dr:Option DR} {d:Option Nat} {os:List fE} {K:List AV→List AObj→Prop} {env:List AV} {h:List AObj} {f:FuncId} {A A':List AV} {r:AV} (s:Ctr P G f A' r)
 (k:cX P G dr os K (gN env d (mat r (fP r h A)).1) (mat r (fP r h A)).2) (hA:A.map (gG dep h)=A':=by (simp -implicitDefEqProofs (disch:=omega) only [zdA,go_sem,↓reduceIte,reduceAdd,reduceSub,reduceMul,reduceLeDiff,reduceLT,reduceEqDiff,reduceNeg,Nat.reduceBEq]; done)):xV P G dr f A d os K env h:=bU s hA k
theorem zs1 {K1:Prop} {p q:Prop} (k1:K1) (h:q) (e:K1→Cv q p:=by
   intro k1
   repeat' first | with_reducible apply vT | with_reducible apply vF | with_reducible apply vC | ((first | ((with_reducible apply vE); (focus exact k1); (focus (simp -implicitDefEqProofs (disch:=omega) only [zdA,go_sem,simprocAttr]; done))) | ((with_reducible apply vE); (focus (apply k1 <;> omega)); (focus (simp -implicitDefEqProofs (disch:=omega) only [zdA,go_sem,simprocAttr]; done))) | ((with_reducible apply vR); focus exact k1 ..)); simp -implicitDefEqProofs (disch:=omega) only [go_sem,simprocAttr]) | ((with_reducible apply vA); focus omega) | ((with_reducible apply vI); (focus (intro hr; (try simp only [zdz] at hr); exact hr)); intro hr; have hc:=hr; (try simp only [zdz] at hc); simp -implicitDefEqProofs (disch:=omega) only [hr,go_sem,simprocAttr]; (try clear hr))
   any_goals exact vS):p:=(e k1).1 h
theorem zx1 {K1:Prop} {x:Prop} {p q:Prop} (X:x) (k1:K1) (h:q) (e:x→K1→Cv q p:=by
   intro X k1
   repeat' first | with_reducible apply vT | with_reducible apply vF | with_reducible apply vC | ((first | ((with_reducible apply vE); (focus exact k1); (focus (simp -implicitDefEqProofs (disch:=omega) only [X,zdA,go_sem,simprocAttr]; done))) | ((with_reducible apply vE); (focus (apply k1 <;> omega)); (focus (simp -implicitDefEqProofs (disch:=omega) only [X,zdA,go_sem,simprocAttr]; done))) | ((with_reducible apply vR); focus exact k1 ..)); simp -implicitDefEqProofs (disch:=omega) only [X,go_sem,simprocAttr]) | ((with_reducible apply vA); focus omega) | ((with_reducible apply vI); (focus (intro hr; (try simp only [zdz] at hr); exact hr)); intro hr; have hc:=hr; (try simp only [zdz] at hc); simp -implicitDefEqProofs (disch:=omega) only [hr,X,go_sem,simprocAttr]; (try clear hr))
   any_goals exact vS):p:=(e X k1).1 h
theorem zs2 {K1:Prop} {K2:Prop} {p q:Prop} (k1:K1) (k2:K2) (h:q) (e:K1→K2→Cv q p:=by
   intro k1 k2
   repeat' first | with_reducible apply vT | with_reducible apply vF | with_reducible apply vC | ((first | ((with_reducible apply vE); (focus exact k1); (focus (simp -implicitDefEqProofs (disch:=omega) only [zdA,go_sem,simprocAttr]; done))) | ((with_reducible apply vE); (focus (apply k1 <;> omega)); (focus (simp -implicitDefEqProofs (disch:=omega) only [zdA,go_sem,simprocAttr]; done))) | ((with_reducible apply vR); focus exact k1 ..) | ((with_reducible apply vE); (focus exact k2); (focus (simp -implicitDefEqProofs (disch:=omega) only [zdA,go_sem,simprocAttr]; done))) | ((with_reducible apply vE); (focus (apply k2 <;> omega)); (focus (simp -implicitDefEqProofs (disch:=omega) only [zdA,go_sem,simprocAttr]; done))) | ((with_reducible apply vR); focus exact k2 ..)); simp -implicitDefEqProofs (disch:=omega) only [go_sem,simprocAttr]) | ((with_reducible apply vA); focus omega) | ((with_reducible apply vI); (focus (intro hr; (try simp only [zdz] at hr); exact hr)); intro hr; have hc:=hr; (try simp only [zdz] at hc); simp -implicitDefEqProofs (disch:=omega) only [hr,go_sem,simprocAttr]; (try clear hr))
   any_goals exact vS):p:=(e k1 k2).1 h
theorem zx2 {K1:Prop} {K2:Prop} {x:Prop} {p q:Prop} (X:x) (k1:K1) (k2:K2) (h:q) (e:x→K1→K2→Cv q p:=by
   intro X k1 k2
   repeat' first | with_reducible apply vT | with_reducible apply vF | with_reducible apply vC | ((first | ((with_reducible apply vE); (focus exact k1); (focus (simp -implicitDefEqProofs (disch:=omega) only [X,zdA,go_sem,simprocAttr]; done))) | ((with_reducible apply vE); (focus (apply k1 <;> omega)); (focus (simp -implicitDefEqProofs (disch:=omega) only [X,zdA,go_sem,simprocAttr]; done))) | ((with_reducible apply vR); focus exact k1 ..) | ((with_reducible apply vE); (focus exact k2); (focus (simp -implicitDefEqProofs (disch:=omega) only [X,zdA,go_sem,simprocAttr]; done))) | ((with_reducible apply vE); (focus (apply k2 <;> omega)); (focus (simp -implicitDefEqProofs (disch:=omega) only [X,zdA,go_sem,simprocAttr]; done))) | ((with_reducible apply vR); focus exact k2 ..)); simp -implicitDefEqProofs (disch:=omega) only [X,go_sem,simprocAttr]) | ((with_reducible apply vA); focus omega) | ((with_reducible apply vI); (focus (intro hr; (try simp only [zdz] at hr); exact hr)); intro hr; have hc:=hr; (try simp only [zdz] at hc); simp -implicitDefEqProofs (disch:=omega) only [hr,X,go_sem,simprocAttr]; (try clear hr))
   any_goals exact vS):p:=(e X k1 k2).1 h
theorem zs3 {K1:Prop} {K2:Prop} {K3:Prop} {p q:Prop} (k1:K1) (k2:K2) (k3:K3) (h:q) (e:K1→K2→K3→Cv q p:=by
   intro k1 k2 k3
   repeat' first | with_reducible apply vT | with_reducible apply vF | with_reducible apply vC | ((first | ((with_reducible apply vE); (focus exact k1); (focus (simp -implicitDefEqProofs (disch:=omega) only [zdA,go_sem,simprocAttr]; done))) | ((with_reducible apply vE); (focus (apply k1 <;> omega)); (focus (simp -implicitDefEqProofs (disch:=omega) only [zdA,go_sem,simprocAttr]; done))) | ((with_reducible apply vR); focus exact k1 ..) | ((with_reducible apply vE); (focus exact k2); (focus (simp -implicitDefEqProofs (disch:=omega) only [zdA,go_sem,simprocAttr]; done))) | ((with_reducible apply vE); (focus (apply k2 <;> omega)); (focus (simp -implicitDefEqProofs (disch:=omega) only [zdA,go_sem,simprocAttr]; done))) | ((with_reducible apply vR); focus exact k2 ..) | ((with_reducible apply vE); (focus exact k3); (focus (simp -implicitDefEqProofs (disch:=omega) only [zdA,go_sem,simprocAttr]; done))) | ((with_reducible apply vE); (focus (apply k3 <;> omega)); (focus (simp -implicitDefEqProofs (disch:=omega) only [zdA,go_sem,simprocAttr]; done))) | ((with_reducible apply vR); focus exact k3 ..)); simp -implicitDefEqProofs (disch:=omega) only [go_sem,simprocAttr]) | ((with_reducible apply vA); focus omega) | ((with_reducible apply vI); (focus (intro hr; (try simp only [zdz] at hr); exact hr)); intro hr; have hc:=hr; (try simp only [zdz] at hc); simp -implicitDefEqProofs (disch:=omega) only [hr,go_sem,simprocAttr]; (try clear hr))
   any_goals exact vS):p:=(e k1 k2 k3).1 h
theorem zx3 {K1:Prop} {K2:Prop} {K3:Prop} {x:Prop} {p q:Prop} (X:x) (k1:K1) (k2:K2) (k3:K3) (h:q) (e:x→K1→K2→K3→Cv q p:=by
   intro X k1 k2 k3
   repeat' first | with_reducible apply vT | with_reducible apply vF | with_reducible apply vC | ((first | ((with_reducible apply vE); (focus exact k1); (focus (simp -implicitDefEqProofs (disch:=omega) only [X,zdA,go_sem,simprocAttr]; done))) | ((with_reducible apply vE); (focus (apply k1 <;> omega)); (focus (simp -implicitDefEqProofs (disch:=omega) only [X,zdA,go_sem,simprocAttr]; done))) | ((with_reducible apply vR); focus exact k1 ..) | ((with_reducible apply vE); (focus exact k2); (focus (simp -implicitDefEqProofs (disch:=omega) only [X,zdA,go_sem,simprocAttr]; done))) | ((with_reducible apply vE); (focus (apply k2 <;> omega)); (focus (simp -implicitDefEqProofs (disch:=omega) only [X,zdA,go_sem,simprocAttr]; done))) | ((with_reducible apply vR); focus exact k2 ..) | ((with_reducible apply vE); (focus exact k3); (focus (simp -implicitDefEqProofs (disch:=omega) only [X,zdA,go_sem,simprocAttr]; done))) | ((with_reducible apply vE); (focus (apply k3 <;> omega)); (focus (simp -implicitDefEqProofs (disch:=omega) only [X,zdA,go_sem,simprocAttr]; done))) | ((with_reducible apply vR); focus exact k3 ..)); simp -implicitDefEqProofs (disch:=omega) only [X,go_sem,simprocAttr]) | ((with_reducible apply vA); focus omega) | ((with_reducible apply vI); (focus (intro hr; (try simp only [zdz] at hr); exact hr)); intro hr; have hc:=hr; (try simp only [zdz] at hc); simp -implicitDefEqProofs (disch:=omega) only [hr,X,go_sem,simprocAttr]; (try clear hr))
   any_goals exact vS):p:=(e X k1 k2 k3).1 h
theorem zs4 {K1:Prop} {K2:Prop} {K3:Prop} {K4:Prop} {p q:Prop} (k1:K1) (k2:K2) (k3:K3) (k4:K4) (h:q) (e:K1→K2→K3→K4→Cv q p:=by
   intro k1 k2 k3 k4
   repeat' first | with_reducible apply vT | with_reducible apply vF | with_reducible apply vC | ((first | ((with_reducible apply vE); (focus exact k1); (focus (simp -implicitDefEqProofs (disch:=omega) only [zdA,go_sem,simprocAttr]; done))) | ((with_reducible apply vE); (focus (apply k1 <;> omega)); (focus (simp -implicitDefEqProofs (disch:=omega) only [zdA,go_sem,simprocAttr]; done))) | ((with_reducible apply vR); focus exact k1 ..) | ((with_reducible apply vE); (focus exact k2); (focus (simp -implicitDefEqProofs (disch:=omega) only [zdA,go_sem,simprocAttr]; done))) | ((with_reducible apply vE); (focus (apply k2 <;> omega)); (focus (simp -implicitDefEqProofs (disch:=omega) only [zdA,go_sem,simprocAttr]; done))) | ((with_reducible apply vR); focus exact k2 ..) | ((with_reducible apply vE); (focus exact k3); (focus (simp -implicitDefEqProofs (disch:=omega) only [zdA,go_sem,simprocAttr]; done))) | ((with_reducible apply vE); (focus (apply k3 <;> omega)); (focus (simp -implicitDefEqProofs (disch:=omega) only [zdA,go_sem,simprocAttr]; done))) | ((with_reducible apply vR); focus exact k3 ..) | ((with_reducible apply vE); (focus exact k4); (focus (simp -implicitDefEqProofs (disch:=omega) only [zdA,go_sem,simprocAttr]; done))) | ((with_reducible apply vE); (focus (apply k4 <;> omega)); (focus (simp -implicitDefEqProofs (disch:=omega) only [zdA,go_sem,simprocAttr]; done))) | ((with_reducible apply vR); focus exact k4 ..)); simp -implicitDefEqProofs (disch:=omega) only [go_sem,simprocAttr]) | ((with_reducible apply vA); focus omega) | ((with_reducible apply vI); (focus (intro hr; (try simp only [zdz] at hr); exact hr)); intro hr; have hc:=hr; (try simp only [zdz] at hc); simp -implicitDefEqProofs (disch:=omega) only [hr,go_sem,simprocAttr]; (try clear hr))
   any_goals exact vS):p:=(e k1 k2 k3 k4).1 h
theorem zx4 {K1:Prop} {K2:Prop} {K3:Prop} {K4:Prop} {x:Prop} {p q:Prop} (X:x) (k1:K1) (k2:K2) (k3:K3) (k4:K4) (h:q) (e:x→K1→K2→K3→K4→Cv q p:=by
   intro X k1 k2 k3 k4
   repeat' first | with_reducible apply vT | with_reducible apply vF | with_reducible apply vC | ((first | ((with_reducible apply vE); (focus exact k1); (focus (simp -implicitDefEqProofs (disch:=omega) only [X,zdA,go_sem,simprocAttr]; done))) | ((with_reducible apply vE); (focus (apply k1 <;> omega)); (focus (simp -implicitDefEqProofs (disch:=omega) only [X,zdA,go_sem,simprocAttr]; done))) | ((with_reducible apply vR); focus exact k1 ..) | ((with_reducible apply vE); (focus exact k2); (focus (simp -implicitDefEqProofs (disch:=omega) only [X,zdA,go_sem,simprocAttr]; done))) | ((with_reducible apply vE); (focus (apply k2 <;> omega)); (focus (simp -implicitDefEqProofs (disch:=omega) only [X,zdA,go_sem,simprocAttr]; done))) | ((with_reducible apply vR); focus exact k2 ..) | ((with_reducible apply vE); (focus exact k3); (focus (simp -implicitDefEqProofs (disch:=omega) only [X,zdA,go_sem,simprocAttr]; done))) | ((with_reducible apply vE); (focus (apply k3 <;> omega)); (focus (simp -implicitDefEqProofs (disch:=omega) only [X,zdA,go_sem,simprocAttr]; done))) | ((with_reducible apply vR); focus exact k3 ..) | ((with_reducible apply vE); (focus exact k4); (focus (simp -implicitDefEqProofs (disch:=omega) only [X,zdA,go_sem,simprocAttr]; done))) | ((with_reducible apply vE); (focus (apply k4 <;> omega)); (focus (simp -implicitDefEqProofs (disch:=omega) only [X,zdA,go_sem,simprocAttr]; done))) | ((with_reducible apply vR); focus exact k4 ..)); simp -implicitDefEqProofs (disch:=omega) only [X,go_sem,simprocAttr]) | ((with_reducible apply vA); focus omega) | ((with_reducible apply vI); (focus (intro hr; (try simp only [zdz] at hr); exact hr)); intro hr; have hc:=hr; (try simp only [zdz] at hc); simp -implicitDefEqProofs (disch:=omega) only [hr,X,go_sem,simprocAttr]; (try clear hr))
   any_goals exact vS):p:=(e X k1 k2 k3 k4).1 h
end Go.Vo
namespace Go.Proofs.YtdjcggcjlphdoaaGreatDoor
open Go Go.Vo
open Nat (reduceAdd reduceSub reduceMul reduceLeDiff reduceLT reduceEqDiff)
open Int (reduceNeg)
abbrev CT:=Ctr Tryz.prog G0

def aFb (n:Int):Bool:=decide (97≤n) && decide (n≤122) || decide (65≤n) && decide (n≤90)
def bJc (n:Int):Bool:=decide (48≤n) && decide (n≤57)

theorem bJg (n:Int): CT 126 [.i .u8 n] (.b (aFb n)):=by
 refine bY cU Tryz.func126 g0 ?_
 · skip
   repeat' (first | refine gT ?_ ?_ | refine gF ?_ ?_ | refine gC ?_ ?_ | (intro hc; simp -implicitDefEqProofs only [hc,go_sem]))
   all_goals (refine bR ?_ (by rfl); simp_all [aFb] <;> omega)
def part (n:Int):Bool:=aFb n || bJc n || decide (n=95)
theorem bJf (n:Int): CT 127 [.i .u8 n] (.b (part n)):=by
 refine bY cU Tryz.func127 g0 ?_
 · skip
   repeat' (first | refine gT ?_ ?_ | refine gF ?_ ?_ | refine gC ?_ ?_ | refine aQd (bJg _) ?_; simp -implicitDefEqProofs only [go_sem] | (intro hc; simp -implicitDefEqProofs only [hc,go_sem]))
   all_goals (refine bR ?_ (by rfl); simp_all [part,bJc] <;> omega)

def at_ (s:Str) (k:Nat):Int:=((s.getD k 0).toNat:Int)
def fV (s:Str):Bool := !s.isEmpty && decide (s.length≤40) && aFb (at_ s 0) && s.all fun c=>part c.toNat

theorem bAa {s:Str} {q:Int→Bool} (h:∀ j,j < s.length→q (at_ s j)=true):(s.all fun c=>q c.toNat)=true:=by
 rw [bL]
 intro c hc
 obtain ⟨j,hj,rfl⟩:=dU.1 hc
 have:=h j hj
 simpa [at_,hj] using this
theorem oM {s:Str} {q:Int→Bool} {j:Nat} (hj:j < s.length) (h:q (at_ s j)=false):(s.all fun c=>q c.toNat)=false:=by
 rw [List.all_eq_false]
 exact ⟨s[j],R9 hj,by simpa [at_,hj] using h⟩

theorem G2 (s:Str) (hs:s.length≤140737488355328): CT 66 [.s s] (.b (fV s)):=by
 refine bY cU Tryz.func66 g0 ?_
 · skip
   (refine zs1 bJg ?_; repeat' first | exact trivial | refine zJ ?_ ?_ | refine zH fun hc=>?_)
   any_goals (refine bR ?_ (by rfl); simp_all [fV,at_] <;> omega)
   refine dB (fun (k:Nat)=>(.k::.k::.j::.j::(rp 15 .k (.v (.i .i64 k)::(rp 8 .j []))))) (fun k=>[]) (fun k=>k≤s.length∧∀ j,j < k→part (at_ s j)=true) (fun k=>s.length - k) (0) ⟨bJ _,fun j h=>by omega⟩ rfl (by simp [gX]) ?_
   rintro k j ⟨hk,ha⟩
   refine zg ?_
   (refine zs1 bJf ?_; repeat' first | exact trivial | refine zJ ?_ ?_ | refine zH fun hc=>?_)
   · refine bR ?_ (by rfl)
     simp only [fV,oM (show k < s.length by omega) (by simpa [at_] using hc),aM]
   · exact ⟨k+1,⟨by omega,eC ha (by simpa [at_] using hc)⟩,by omega,by simp⟩
   · refine bR ?_ (by rfl)
     have h1:k=s.length:=by omega
     simp only [fV,bAa (h1 ▸ ha)]
     simp_all [at_] <;> omega

def wE (s:Str):Bool:=decide (2 < s.length) && decide (at_ s (s.length - 2)=39) && decide (49≤at_ s (s.length - 1)) && decide (at_ s (s.length - 1)≤56)
def E8 (s:Str):Str:=if wE s then s.take (s.length - 2) else s
def frame (s:Str):Str:=if wE s then s.drop (s.length - 2) else []
theorem aZu (s:Str) (hs:s.length≤140737488355328): CT 153 [.s s] (.tup [.s (E8 s),.s (frame s)]):=by
 refine bY cU Tryz.func153 g0 ?_
 · skip
   (refine zs0 ?_; repeat' first | exact trivial | refine zJ ?_ ?_ | refine zH fun hc=>?_)
   all_goals (refine bR ?_ (by rfl))
   · have h:wE s=true:=by simp_all [wE,at_] <;> omega
     simp [E8,frame,h]
   all_goals (have h:wE s=false:=by simp_all [wE,at_] <;> omega)
   all_goals simp [E8,frame,h]
theorem aGe (s:Str):(E8 s).length≤s.length:=by unfold E8; split <;> simp <;> omega
theorem aCx {l:List Str} {s:Str} {k:Nat} (hk:k < l.length) (h:l.getD k []=s):l.contains s=true:=by
 have h1:l[k]? = some s:=by simpa [List.getD,hk] using h
 simpa using dG h1
theorem W6 {l:List Str} {s:Str} (h:∀ j,j < l.length→l.getD j [] ≠ s):l.contains s=false:=by
 have:s ∉ l:=by
   intro hm
   obtain ⟨j,hj,he⟩:=dU.1 hm
   exact h j hj (by simp [List.getD,hj,he])
 simpa using this
theorem bQm (l:List Str) (s:Str) (hl:l.length≤140737488355328): CT 80 [avs l,.s s] (.b (l.contains s)):=by
 refine dN cU Tryz.func80 g0 ?_
 · simp -implicitDefEqProofs (disch:=omega) only [Tryz.f80,go_sem,List.replicate,simprocAttr,avs]
   refine dB (fun (k:Nat)=>[.k,.k,.k,.k,.j,.k,.j,.k,.k,.v (.i .i64 k),.j,.j,.j,.j,.j,.j,.j]) (fun k=>[]) (fun k=>k≤l.length∧∀ j,j < k→l.getD j [] ≠ s) (fun k=>l.length - k) (0) ⟨bJ _,fun j h=>by omega⟩ rfl (by simp [gX]) ?_
   rintro k j ⟨hk,ha⟩
   refine zg ?_
   (refine zs0 ?_; repeat' first | exact trivial | refine zJ ?_ ?_ | refine zH fun hc=>?_)
   · refine bR ?_ (by rfl)
     rw [aCx (k:=k) (by omega) (by assumption)]
   · exact ⟨k+1,⟨by omega,eC ha (by assumption)⟩,by omega,by simp⟩
   · refine bR ?_ (by rfl)
     have h1:k=l.length:=by omega
     rw [W6 (h1 ▸ ha)]

def jP:List Str:=[[65,110,121],[73,110,116],[66,111,111,108],[84,101,120,116],[73,100],[76,105,115,116],[77,97,112]]
theorem bKc:CT 85 [] (.own 1 (jP.map .s) jP.length):=by
 refine bY cU Tryz.func85 g0 ?_
 · skip
   exact aOp rfl rfl rfl rfl rfl
def idx {α:Type} (p:α→Bool) (l:List α):Int:=match l.findIdx? p with | some i=>i | none => -1
theorem uR {α:Type} {p:α→Bool} {l:List α} {d:α} {k:Nat} (hk:k < l.length) (h:p (l.getD k d)=true) (hn:∀ j,j < k→p (l.getD j d)=false):idx p l=k:=by
 have:l.findIdx? p=some k:=by
   rw [gR]
   refine ⟨hk,by simpa [List.getD,hk] using h,fun j hj=>?_⟩
   have:=hn j hj
   simpa [List.getD,show j < l.length by omega] using this
 simp [idx,this]
theorem uS {α:Type} {p:α→Bool} {l:List α} {d:α} (hn:∀ j,j < l.length→p (l.getD j d)=false):idx p l = -1:=by
 have:l.findIdx? p=none:=by
   rw [eW]
   intro x hx
   obtain ⟨j,hj,rfl⟩:=dU.1 hx
   have:=hn j hj
   simpa [List.getD,hj] using this
 simp [idx,this]
theorem A7 {α:Type} {p:α→Bool} {l:List α}:decide (0≤idx p l)=l.any p:=by
 unfold idx
 cases h:l.findIdx? p with
 | none=>
   rw [eW] at h
   have:l.any p=false:=by rw [List.any_eq_false]; intro x hx; simp [h x hx]
   rw [this]; rfl
 | some i=>
   rw [gR] at h
   obtain ⟨hi,hp,_⟩:=h
   have:l.any p=true:=List.any_eq_true.2 ⟨_,R9 hi,hp⟩
   rw [this]; simp
theorem bLr (l:List Str) (s:Str) (hl:l.length≤140737488355328): CT 146 [avs l,.s s] (.i .i64 (idx (fun x=>decide (s=x)) l)):=by
 refine dN cU Tryz.func146 g0 ?_
 · simp -implicitDefEqProofs (disch:=omega) only [Tryz.f146,go_sem,List.replicate,simprocAttr,avs]
   refine dB (fun (k:Nat)=>(.k::.k::.k::.k::.j::.j::.k::.k::.v (.i .i64 k)::(rp 10 .j []))) (fun k=>[]) (fun k=>k≤l.length∧∀ j,j < k→decide (s=l.getD j [])=false) (fun k=>l.length - k) (0) ⟨bJ _,fun j h=>by omega⟩ rfl (by simp [gX]) ?_
   rintro k j ⟨hk,ha⟩
   refine zg ?_
   (refine zs0 ?_; repeat' first | exact trivial | refine zJ ?_ ?_ | refine zH fun hc=>?_)
   · refine bR ?_ (by rfl)
     rw [uR (d:=[]) (k:=k) (by omega) (by simpa using hc) ha]
   · exact ⟨k+1,⟨by omega,eC ha (by simpa using hc)⟩,by omega,by simp⟩
   · refine bR ?_ (by rfl)
     have h1:k=l.length:=by omega
     rw [uS (h1 ▸ ha)]
theorem Z0 {s:Str} {l:List Str}:decide (0≤idx (fun x=>decide (s=x)) l)=l.contains s:=by
 rw [A7,List.contains_eq_any_beq]
 congr 1
 funext x
 exact fT.2 (by simp)
theorem G1 (l:List Str) (s:Str) (hl:l.length≤140737488355328): CT 84 [avs l,.s s] (.b (l.contains s)):=by
 refine dN cU Tryz.func84 g0 ?_
 · simp -implicitDefEqProofs (disch:=omega) only [Tryz.f84,go_sem,List.replicate,simprocAttr,avs]
   (refine zs1 (bLr l s hl) ?_; repeat' first | exact trivial | refine zJ ?_ ?_ | refine zH fun hc=>?_)
   refine bR ?_ (by rfl)
   rw [Z0]
theorem aSu {l m:List Str} (hl:l.length=m.length) (h:∀ j,j < l.length→l.getD j []=m.getD j []):l=m:=by
 apply S0 hl
 intro j h1 h2
 have:=h j h1
 simpa [List.getD,h1,h2] using this
theorem bJi (l m:List Str) (hl:l.length≤140737488355328) (hm:m.length≤140737488355328): CT 217 [avs l,avs m] (.b (decide (l=m))):=by
 refine dN cU Tryz.func217 g0 ?_
 · simp -implicitDefEqProofs (disch:=omega) only [Tryz.f217,go_sem,List.replicate,simprocAttr,avs]
   (refine zs0 ?_; repeat' first | exact trivial | refine zJ ?_ ?_ | refine zH fun hc=>?_)
   · refine bR ?_ (by rfl)
     have:l ≠ m:=fun h=>hc (by rw [h])
     rw [zf this]
   refine dB (fun (k:Nat)=>(.k::.k::.k::.k::.j::.j::(rp 7 .k (.v (.i .i64 k)::(rp 12 .j []))))) (fun k=>[]) (fun k=>k≤l.length∧∀ j,j < k→l.getD j []=m.getD j []) (fun k=>l.length - k) (0) ⟨bJ _,fun j h=>by omega⟩ rfl (by simp [gX]) ?_
   rintro k j ⟨hk,ha⟩
   refine zg ?_
   (refine zs0 ?_; repeat' first | exact trivial | refine zJ ?_ ?_ | refine zH fun hc=>?_)
   · refine bR ?_ (by rfl)
     have:l ≠ m:=fun h=>by simp [h] at *
     rw [zf this]
   · exact ⟨k+1,⟨by omega,eC ha (by simpa using hc)⟩,by omega,by simp⟩
   · refine bR ?_ (by rfl)
     have:l=m:=aSu (by omega) (fun j hj=>ha j (by omega))
     rw [zt this]
theorem aTw {l:List Str} {k:Nat} (hn:l.Nodup) (hk:k < l.length):(l.take k).contains (l.getD k [])=false:=by
 have:l.getD k [] ∉ l.take k:=by
   intro hm
   obtain ⟨j,hj,he⟩:=dU.1 hm

   have:=(eV.1 hn) j k (by simp at hj; omega) hk (by simp at hj; omega)
   simp [List.getD,hk] at he
   exact this he
 simpa using this
theorem aTv {l:List Str} (h:∀ j,j < l.length→(l.take j).contains (l.getD j [])=false):l.Nodup:=by
 refine eV.2 (fun i j hi hj hij he=>?_)
 have:=h j hj
 have hm:l.getD j [] ∈ l.take j:=by
   rw [dU]
   exact ⟨i,by simp; omega,by simp [List.getD,hj,he]⟩
 have h2:(l.take j).contains (l.getD j [])=true:=by simpa using hm
 rw [h2] at this; cases this

def pU:List Str:=[[97,100,100],[97,110,100],[99,97,116],[100,101,108],[100,105,118],[101,113],[103,101],[103,101,116],[103,116],[104,97,115],[105,115],[105,115,118,97,108,117,101],[106,111,105,110],[107,101,121,115],[108,101],[108,101,110,103,116,104],[108,116],[109,111,100],[109,117,108],[110,101],[110,101,103],[110,111,116],[111,114],[112,105,99,107],[112,117,116],[115,105,122,101],[115,117,98],[116,101,120,116]]

theorem aTk:∀ {l:List AV},persL l=true→∀ x ∈ l,pers x=true:=by
 intro l h x hx
 obtain ⟨j,hj,rfl⟩:=dU.1 hx
 exact gP h j _ (by simp [hj])
theorem sH {h:List AObj} {l:List AV} (hl:persL l=true):l.map (gG dep h)=l:=by
 have:l.map (gG dep h)=l.map id:=iE (fun x hx=>by rw [fQ,if_pos (aTk hl x hx)]; rfl)
 rw [this,List.map_id]
theorem bLe (l:List Str) (f:FuncId) (a b:List AV) (p:Str→Bool) (hl:l.length≤140737488355328) (ha:persL a=true) (hb:persL b=true) (hw:∀ k,k < l.length→CT f (a++[.s (l.getD k [])]++b) (.b (p (l.getD k [])))): CT 210 [avs l,.fn f a b] (.i .i64 (idx p l)):=by
 refine dN cU Tryz.func210 g0 ?_
 · simp -implicitDefEqProofs (disch:=omega) only [Tryz.f210,go_sem,List.replicate,simprocAttr,avs]
   refine dB (fun (k:Nat)=>(.k::.k::.k::.k::.j::.j::.k::.k::.v (.i .i64 k)::(rp 10 .j []))) (fun k=>[]) (fun k=>k≤l.length∧∀ j,j < k→p (l.getD j [])=false) (fun k=>l.length - k) (0) ⟨bJ _,fun j h=>by omega⟩ rfl (by simp [gX]) ?_
   rintro k j ⟨hk,hn⟩
   refine zg ?_
   (refine zs0 ?_; repeat' first | exact trivial | refine zJ ?_ ?_ | refine zH fun hc=>?_)
   · refine bU (hw k (by omega)) ?_ ?_
     · exact zv (zA2 @cB.{0,0} (zA2 (fun h=>sH (h:=h) ha) (fun h=>sH (h:=h) hb)))
     · refine zg ?_
       (refine zs0 ?_; repeat' first | exact trivial | refine zJ ?_ ?_ | refine zH fun hc=>?_)
       · refine bR ?_ (by rfl)
         rw [uR (d:=[]) (k:=k) (by omega) hc hn]
       · exact ⟨k+1,⟨by omega,eC hn hc⟩,by omega,by simp⟩
   · refine bR ?_ (by rfl)
     have h1:k=l.length:=by omega
     rw [uS (h1 ▸ hn)]
theorem bLq (l:List Str) (f:FuncId) (a b:List AV) (p:Str→Bool) (hl:l.length≤140737488355328) (ha:persL a=true) (hb:persL b=true) (hw:∀ k,k < l.length→CT f (a++[.s (l.getD k [])]++b) (.b (p (l.getD k [])))): CT 147 [avs l,.fn f a b] (.b (l.any p)):=by
 refine dN cU Tryz.func147 g0 ?_
 · simp -implicitDefEqProofs (disch:=omega) only [Tryz.f147,go_sem,List.replicate,simprocAttr,avs]
   refine bU (bLe l f a b p hl ha hb hw) ?_ ?_
   · exact zv (zA2 @avs.eq_1 (zA2 ha hb))
   · refine zg ?_
     refine bR ?_ (by rfl)
     rw [A7]

theorem bLp (x:Str) (f:FuncId) (a b:List AV) (p:Bool) (ha:persL a=true) (hb:persL b=true) (hw:CT f (a++[.s x]++b) (.b p)): CT 148 [.s x,.box [.fn f a b] 0] (.b (!p)):=by
 refine bY cU Tryz.func148 g0 ?_
 · skip
   refine bU hw ?_ ?_
   · exact zv (zA2 @cB.{0,0} (zA2 (fun h=>sH (h:=h) ha) (fun h=>sH (h:=h) hb)))
   · refine zg ?_
     refine bR ?_ (by rfl)
     rfl
theorem aVq (l:List Str) (f:FuncId) (a b:List AV) (p:Str→Bool) (hl:l.length≤140737488355328) (ha:persL a=true) (hb:persL b=true) (hw:∀ k,k < l.length→CT f (a++[.s (l.getD k [])]++b) (.b (p (l.getD k [])))): CT 86 [avs l,.fn f a b] (.b (l.all p)):=by
 refine dN cU Tryz.func86 g0 ?_
 · simp -implicitDefEqProofs (disch:=omega) only [Tryz.f86,go_sem,List.replicate,↓reduceIte,reduceAdd,reduceSub,reduceMul,reduceLeDiff,reduceLT,reduceEqDiff,reduceNeg,Nat.reduceBEq,avs]
   refine bU (bLq l 148 [] [.box [.fn f a b] 0] (fun x => !p x) hl rfl (by simp [persL,pers,ha,hb]) (fun k hk=>bLp _ f a b _ ha hb (hw k hk))) ?_ ?_
   · exact zv (zA2 @avs.eq_1 (zA2 ha hb))
   · refine zh (zA2 ha hb) ?_
     refine bR ?_ (by rfl)
     rw [pZ]

theorem bQk (s:Str) (hs:s.length≤140737488355328): CT 83 [.s s] (.b (fV s && !jP.contains s)):=by
 refine bY cU Tryz.func83 g0 ?_
 · skip
   (refine zs3 (G2 s hs) bKc (G1 jP s (by decide)) ?_; repeat' first | exact trivial | refine zJ ?_ ?_ | refine zH fun hc=>?_)
   all_goals (refine bR ?_ (by rfl))
   all_goals simp_all

theorem K8 {P:Program} {T:TypeId} (hT:P.underlying T=some .string) {x:Str}:∀ (l:List Str),fF P T (.s x) (l.map .s)=some (l.findIdx? fun y=>decide (x=y))
 | []=>rfl
 | y::l=>by
   simp only [aN,fF,aEq,kI,hT,K8 hT l,gS]
   cases h:decide (x=y) <;> simp
theorem rZ {x:Str} {l:List Str} (h:l.contains x=false):(l.findIdx? fun y=>decide (x=y))=none:=by
 rw [eW]
 intro y hy
 have:x ∉ l:=by simpa using h
 simp only [decide_eq_false_iff_not]
 exact fun he=>this (he ▸ hy)
theorem xS (x:Str) (l:List Str):fF Tryz.prog 9 (.s x) (l.map .s)=some (l.findIdx? fun y=>decide (x=y)):=K8 un9 l
theorem aCv {x:Str} {l:List Str} (h:l.contains x=true):∃ i,i < l.length∧(l.findIdx? fun y=>decide (x=y))=some i:=by
 cases hf:l.findIdx? fun y=>decide (x=y) with
 | none=>
   rw [eW] at hf
   have hm:x ∈ l:=by simpa using h
   have:=hf x hm
   simp at this
 | some i=>
   rw [gR] at hf
   exact ⟨i,hf.1,rfl⟩
theorem aKt {l:List Str} {k:Nat} (h:k < l.length):l.take (k+1)=l.take k++[l.getD k []]:=by
 rw [kK h]; simp [List.getD,h]
theorem aBp {n i:Nat} {a:AV} (h:i < n):(List.replicate n a)[i]? = some a:=by simp [h]
theorem bEj (l:List Str) (hl:l.length≤140737488355328): CT 82 [avs l] (.b (decide l.Nodup)):=by
 refine dN cU Tryz.func82 g0 ?_
 · simp -implicitDefEqProofs (disch:=omega) only [Tryz.f82,go_sem,List.replicate,simprocAttr,avs]
   refine dB (fun (k:Nat)=>(.k::.k::.j::.k::.k::.j::.k::.k::.k::.v (.i .i64 k)::(rp 9 .j []))) (fun k=>[.map false ((l.take k).map .s) (List.replicate k (.b true))]) (fun k=>k≤l.length∧∀ j,j < k→(l.take j).contains (l.getD j [])=false) (fun k=>l.length - k) (0) ⟨bJ _,fun j h=>by omega⟩ rfl (by simp [gX]) ?_
   rintro k j ⟨hk,ha⟩
   refine zg ?_
   (refine zs0 ?_; repeat' first | exact trivial | refine zJ ?_ ?_ | refine zH fun hc=>?_)
   · by_cases hx:(l.take k).contains (l.getD k [])=true
     · obtain ⟨i,hi,hf⟩:=aCv hx
       have hi':i < k:=by simp at hi; omega
       simp -implicitDefEqProofs (disch:=omega) only [jI,xS,hf,aBp hi',go_sem,simprocAttr]
       refine bR ?_ (by rfl)
       rw [zf (fun hn=>by rw [aTw hn (by omega)] at hx; cases hx)]
     · have hx:=cT.2 hx
       simp -implicitDefEqProofs (disch:=omega) only [jI,xS,rZ hx,go_sem,simprocAttr]
       refine ⟨k+1,⟨by omega,eC ha hx⟩,by omega,?_,by simp⟩
       rw [aKt (by omega),cB,aJs]; rfl
   · refine bR ?_ (by rfl)
     have h1:k=l.length:=by omega
     rw [zt (aTv (h1 ▸ ha))]

def elB (x:Str × Str):AV:=.agg (eY x)
def elO (x:LOp):AV:=.agg (eR x)
attribute [go_sem] elB elO
theorem bLc (l:List (Str × Str)) (f:FuncId) (a b:List AV) (p:Str × Str→Bool) (hl:l.length≤140737488355328) (ha:persL a=true) (hb:persL b=true) (hw:∀ k,k < l.length→CT f (a++[elB (l.getD k ([],[]))]++b) (.b (p (l.getD k ([],[]))))): CT 211 [avb l,.fn f a b] (.i .i64 (idx p l)):=by
 refine bY cU Tryz.func211 g0 ?_
 · skip
   refine dB (fun (k:Nat)=>(.k::.k::.k::.k::.j::.j::.k::.k::.v (.i .i64 k)::(rp 10 .j []))) (fun k=>[]) (fun k=>k≤l.length∧∀ j,j < k→p (l.getD j ([],[]))=false) (fun k=>l.length - k) (0) ⟨bJ _,fun j h=>by omega⟩ rfl (by simp [gX]) ?_
   rintro k j ⟨hk,hn⟩
   refine zg ?_
   (refine zs0 ?_; repeat' first | exact trivial | refine zJ ?_ ?_ | refine zH fun hc=>?_)
   · refine bU (hw k (by omega)) ?_ ?_
     · exact zv (zA2 @cB.{0,0} (zA2 (fun h=>sH (h:=h) ha) (fun h=>sH (h:=h) hb)))
     · refine zg ?_
       (refine zs0 ?_; repeat' first | exact trivial | refine zJ ?_ ?_ | refine zH fun hc=>?_)
       · refine bR ?_ (by rfl)
         rw [uR (d:=([],[])) (k:=k) (by omega) hc hn]
       · exact ⟨k+1,⟨by omega,eC hn hc⟩,by omega,by simp⟩
   · refine bR ?_ (by rfl)
     have h1:k=l.length:=by omega
     rw [uS (h1 ▸ hn)]
theorem bLb (l:List (LOp)) (f:FuncId) (a b:List AV) (p:LOp→Bool) (hl:l.length≤140737488355328) (ha:persL a=true) (hb:persL b=true) (hw:∀ k,k < l.length→CT f (a++[elO (l.getD k default)]++b) (.b (p (l.getD k default)))): CT 212 [avo l,.fn f a b] (.i .i64 (idx p l)):=by
 refine bY cU Tryz.func212 g0 ?_
 · skip
   refine dB (fun (k:Nat)=>(.k::.k::.k::.k::.j::.j::.k::.k::.v (.i .i64 k)::(rp 10 .j []))) (fun k=>[]) (fun k=>k≤l.length∧∀ j,j < k→p (l.getD j default)=false) (fun k=>l.length - k) (0) ⟨bJ _,fun j h=>by omega⟩ rfl (by simp [gX]) ?_
   rintro k j ⟨hk,hn⟩
   refine zg ?_
   (refine zs0 ?_; repeat' first | exact trivial | refine zJ ?_ ?_ | refine zH fun hc=>?_)
   · refine bU (hw k (by omega)) ?_ ?_
     · exact zv (zA2 @cB.{0,0} (zA2 (fun h=>sH (h:=h) ha) (fun h=>sH (h:=h) hb)))
     · refine zg ?_
       (refine zs0 ?_; repeat' first | exact trivial | refine zJ ?_ ?_ | refine zH fun hc=>?_)
       · refine bR ?_ (by rfl)
         rw [uR (d:=default) (k:=k) (by omega) hc hn]
       · exact ⟨k+1,⟨by omega,eC hn hc⟩,by omega,by simp⟩
   · refine bR ?_ (by rfl)
     have h1:k=l.length:=by omega
     rw [uS (h1 ▸ hn)]
theorem bKx (l:List (Int)) (f:FuncId) (a b:List AV) (p:Int→Bool) (hl:l.length≤140737488355328) (ha:persL a=true) (hb:persL b=true) (hw:∀ k,k < l.length→CT f (a++[.i .i64 (l.getD k 0)]++b) (.b (p (l.getD k 0)))): CT 254 [avi l,.fn f a b] (.i .i64 (idx p l)):=by
 refine bY cU Tryz.func254 g0 ?_
 · skip
   refine dB (fun (k:Nat)=>(.k::.k::.k::.k::.j::.j::.k::.k::.v (.i .i64 k)::(rp 10 .j []))) (fun k=>[]) (fun k=>k≤l.length∧∀ j,j < k→p (l.getD j 0)=false) (fun k=>l.length - k) (0) ⟨bJ _,fun j h=>by omega⟩ rfl (by simp [gX]) ?_
   rintro k j ⟨hk,hn⟩
   refine zg ?_
   (refine zs0 ?_; repeat' first | exact trivial | refine zJ ?_ ?_ | refine zH fun hc=>?_)
   · refine bU (hw k (by omega)) ?_ ?_
     · exact zv (zA2 @cB.{0,0} (zA2 (fun h=>sH (h:=h) ha) (fun h=>sH (h:=h) hb)))
     · refine zg ?_
       (refine zs0 ?_; repeat' first | exact trivial | refine zJ ?_ ?_ | refine zH fun hc=>?_)
       · refine bR ?_ (by rfl)
         rw [uR (d:=0) (k:=k) (by omega) hc hn]
       · exact ⟨k+1,⟨by omega,eC hn hc⟩,by omega,by simp⟩
   · refine bR ?_ (by rfl)
     have h1:k=l.length:=by omega
     rw [uS (h1 ▸ hn)]

theorem bLm (l:List (Str × Str)) (f:FuncId) (a b:List AV) (p:Str × Str→Bool) (hl:l.length≤140737488355328) (ha:persL a=true) (hb:persL b=true) (hw:∀ k,k < l.length→CT f (a++[elB (l.getD k ([],[]))]++b) (.b (p (l.getD k ([],[]))))): CT 149 [avb l,.fn f a b] (.b (l.any p)):=by
 refine bY cU Tryz.func149 g0 ?_
 · skip
   refine bU (bLc l f a b p hl ha hb hw) ?_ ?_
   · exact zv (zA2 ha hb)
   · refine zg ?_
     refine bR ?_ (by rfl)
     rw [A7]
theorem bLk (l:List (LOp)) (f:FuncId) (a b:List AV) (p:LOp→Bool) (hl:l.length≤140737488355328) (ha:persL a=true) (hb:persL b=true) (hw:∀ k,k < l.length→CT f (a++[elO (l.getD k default)]++b) (.b (p (l.getD k default)))): CT 151 [avo l,.fn f a b] (.b (l.any p)):=by
 refine bY cU Tryz.func151 g0 ?_
 · skip
   refine bU (bLb l f a b p hl ha hb hw) ?_ ?_
   · exact zv (zA2 ha hb)
   · refine zg ?_
     refine bR ?_ (by rfl)
     rw [A7]
theorem bLa (l:List (Int)) (f:FuncId) (a b:List AV) (p:Int→Bool) (hl:l.length≤140737488355328) (ha:persL a=true) (hb:persL b=true) (hw:∀ k,k < l.length→CT f (a++[.i .i64 (l.getD k 0)]++b) (.b (p (l.getD k 0)))): CT 214 [avi l,.fn f a b] (.b (l.any p)):=by
 refine bY cU Tryz.func214 g0 ?_
 · skip
   refine bU (bKx l f a b p hl ha hb hw) ?_ ?_
   · exact zv (zA2 ha hb)
   · refine zg ?_
     refine bR ?_ (by rfl)
     rw [A7]

theorem bLl (x:Str × Str) (f:FuncId) (a b:List AV) (p:Bool) (ha:persL a=true) (hb:persL b=true) (hw:CT f (a++[elB x]++b) (.b p)): CT 150 [elB x,.box [.fn f a b] 0] (.b (!p)):=by
 refine bY cU Tryz.func150 g0 ?_
 · skip
   refine bU hw ?_ ?_
   · exact zv (zA2 @cB.{0,0} (zA2 (fun h=>sH (h:=h) ha) (fun h=>sH (h:=h) hb)))
   · refine zg ?_
     refine bR ?_ (by rfl)
     rfl
theorem bLj (x:LOp) (f:FuncId) (a b:List AV) (p:Bool) (ha:persL a=true) (hb:persL b=true) (hw:CT f (a++[elO x]++b) (.b p)): CT 152 [elO x,.box [.fn f a b] 0] (.b (!p)):=by
 refine bY cU Tryz.func152 g0 ?_
 · skip
   refine bU hw ?_ ?_
   · exact zv (zA2 @cB.{0,0} (zA2 (fun h=>sH (h:=h) ha) (fun h=>sH (h:=h) hb)))
   · refine zg ?_
     refine bR ?_ (by rfl)
     rfl
theorem bKz (x:Int) (f:FuncId) (a b:List AV) (p:Bool) (ha:persL a=true) (hb:persL b=true) (hw:CT f (a++[.i .i64 x]++b) (.b p)): CT 215 [.i .i64 x,.box [.fn f a b] 0] (.b (!p)):=by
 refine bY cU Tryz.func215 g0 ?_
 · skip
   refine bU hw ?_ ?_
   · exact zv (zA2 @cB.{0,0} (zA2 (fun h=>sH (h:=h) ha) (fun h=>sH (h:=h) hb)))
   · refine zg ?_
     refine bR ?_ (by rfl)
     rfl

theorem bQj (l:List (Str × Str)) (f:FuncId) (a b:List AV) (p:Str × Str→Bool) (hl:l.length≤140737488355328) (ha:persL a=true) (hb:persL b=true) (hw:∀ k,k < l.length→CT f (a++[elB (l.getD k ([],[]))]++b) (.b (p (l.getD k ([],[]))))): CT 88 [avb l,.fn f a b] (.b (l.all p)):=by
 refine bY cU Tryz.func88 g0 ?_
 · skip
   refine bU (bLm l 150 [] [.box [.fn f a b] 0] (fun x => !p x) hl rfl (by simp [persL,pers,ha,hb]) (fun k hk=>bLl _ f a b _ ha hb (hw k hk))) ?_ ?_
   · exact zv (zA2 ha hb)
   · refine zh (zA2 ha hb) ?_
     refine bR ?_ (by rfl)
     rw [pZ]
theorem bJp (l:List (LOp)) (f:FuncId) (a b:List AV) (p:LOp→Bool) (hl:l.length≤140737488355328) (ha:persL a=true) (hb:persL b=true) (hw:∀ k,k < l.length→CT f (a++[elO (l.getD k default)]++b) (.b (p (l.getD k default)))): CT 91 [avo l,.fn f a b] (.b (l.all p)):=by
 refine bY cU Tryz.func91 g0 ?_
 · skip
   refine bU (bLk l 152 [] [.box [.fn f a b] 0] (fun x => !p x) hl rfl (by simp [persL,pers,ha,hb]) (fun k hk=>bLj _ f a b _ ha hb (hw k hk))) ?_ ?_
   · exact zv (zA2 ha hb)
   · refine zh (zA2 ha hb) ?_
     refine bR ?_ (by rfl)
     rw [pZ]
theorem bLh (l:List (Int)) (f:FuncId) (a b:List AV) (p:Int→Bool) (hl:l.length≤140737488355328) (ha:persL a=true) (hb:persL b=true) (hw:∀ k,k < l.length→CT f (a++[.i .i64 (l.getD k 0)]++b) (.b (p (l.getD k 0)))): CT 156 [avi l,.fn f a b] (.b (l.all p)):=by
 refine bY cU Tryz.func156 g0 ?_
 · skip
   refine bU (bLa l 215 [] [.box [.fn f a b] 0] (fun x => !p x) hl rfl (by simp [persL,pers,ha,hb]) (fun k hk=>bKz _ f a b _ ha hb (hw k hk))) ?_ ?_
   · exact zv (zA2 ha hb)
   · refine zh (zA2 ha hb) ?_
     refine bR ?_ (by rfl)
     rw [pZ]

theorem tK {α:Type} [DecidableEq α] {P:Program} {T:TypeId} {el:α→AV} (hT:∀ x y,aEq P T (el x) (el y)=some (decide (x=y))) {x:α}:∀ (l:List α),fF P T (el x) (l.map el)=some (l.findIdx? fun y=>decide (x=y))
 | []=>rfl
 | y::l=>by
   simp only [aN,fF,hT,tK hT l,gS]
   cases h:decide (x=y) <;> simp
theorem bRy (x:Str × Str) (l:List (Str × Str)):fF Tryz.prog 117 (elB x) (l.map elB)=some (l.findIdx? fun y=>decide (x=y)):=tK (fun x y=>by
 simp only [elB,eY,aEq,bOt,iB,kI,un9,aA]
 rw [fT]; simp [Prod.ext_iff]) l
theorem bRx (x:Int) (l:List Int):fF Tryz.prog 3 (.i .i64 x) (l.map (.i .i64))=some (l.findIdx? fun y=>decide (x=y)):=tK (fun x y=>by
 simp [aEq,kI,un3]) l
theorem nC {α:Type} [BEq α] [LawfulBEq α] [DecidableEq α] {x:α} {l:List α} (h:l.contains x=false):(l.findIdx? fun y=>decide (x=y))=none:=by
 rw [eW]
 intro y hy
 have:x ∉ l:=by simpa using h
 simp only [decide_eq_false_iff_not]
 exact fun he=>this (he ▸ hy)
theorem xI {α:Type} [BEq α] [LawfulBEq α] [DecidableEq α] {x:α} {l:List α} (h:l.contains x=true):∃ i,i < l.length∧(l.findIdx? fun y=>decide (x=y))=some i:=by
 cases hf:l.findIdx? fun y=>decide (x=y) with
 | none=>
   rw [eW] at hf
   have hm:x ∈ l:=by simpa using h
   have:=hf x hm
   simp at this
 | some i=>
   rw [gR] at hf
   exact ⟨i,hf.1,rfl⟩
theorem rA {α:Type} [BEq α] [LawfulBEq α] [DecidableEq α] {l:List α} {k:Nat} {d:α} (hn:l.Nodup) (hk:k < l.length):(l.take k).contains (l.getD k d)=false:=by
 have:l.getD k d ∉ l.take k:=by
   intro hm
   obtain ⟨j,hj,he⟩:=dU.1 hm
   have:=(eV.1 hn) j k (by simp at hj; omega) hk (by simp at hj; omega)
   simp [List.getD,hk] at he
   exact this he
 simpa using this
theorem W8 {α:Type} [BEq α] [LawfulBEq α] [DecidableEq α] {l:List α} {d:α} (h:∀ j,j < l.length→(l.take j).contains (l.getD j d)=false):l.Nodup:=by
 refine eV.2 (fun i j hi hj hij he=>?_)
 have:=h j hj
 have hm:l.getD j d ∈ l.take j:=by
   rw [dU]
   exact ⟨i,by simp; omega,by simp [List.getD,hj,he]⟩
 have h2:(l.take j).contains (l.getD j d)=true:=by simpa using hm
 rw [h2] at this; cases this

theorem bQl (l:List (Str × Str)) (hl:l.length≤140737488355328): CT 81 [avb l] (.b (decide l.Nodup)):=by
 refine bY cU Tryz.func81 g0 ?_
 · skip
   refine lI (fun (k:Nat)=>(.k::.k::.j::.k::.k::.j::.k::.k::.k::.v (.i .i64 k)::(rp 9 .j []))) (fun k=>[.map false ((l.take k).map elB) (List.replicate k (.b true))]) (fun k=>k≤l.length∧∀ j,j < k→(l.take j).contains (l.getD j ([],[]))=false) (fun k=>l.length - k) (0) _ ⟨bJ _,fun j h=>by omega⟩ rfl (by simp [gX]) ?_
   rintro k g j ⟨hk,ha⟩
   refine zg ?_
   (refine zs0 ?_; repeat' first | exact trivial | refine zJ ?_ ?_ | refine zH fun hc=>?_)
   · by_cases hx:(l.take k).contains (l.getD k ([],[]))=true
     · obtain ⟨i,hi,hf⟩:=xI hx
       have hi':i < k:=by simp at hi; omega
       have hk2:=bRy (l.getD k ([],[])) (l.take k)
       simp only [elB,eY] at hk2
       simp -implicitDefEqProofs (disch:=omega) only [jI,hk2,hf,aBp hi',go_sem,simprocAttr]
       refine bR ?_ (by rfl)
       rw [zf (fun hn=>by rw [rA hn (by omega)] at hx; cases hx)]
     · have hx:=cT.2 hx
       have hk2:=bRy (l.getD k ([],[])) (l.take k)
       simp only [elB,eY] at hk2
       refine zh (zA2 @jI.eq_1 (zA2 hk2 (nC hx))) ?_
       refine ⟨k+1,_,⟨by omega,eC ha hx⟩,by omega,congr (congrArg List.cons ?_) rfl,by simp⟩
       rw [eN (d:=([],[])) (by omega),cB,aJs]; rfl
   · refine bR ?_ (by rfl)
     have h1:k=l.length:=by omega
     rw [zt (W8 (h1 ▸ ha))]
theorem bLg (l:List Int) (hl:l.length≤140737488355328): CT 157 [avi l] (.b (decide l.Nodup)):=by
 refine bY cU Tryz.func157 g0 ?_
 · skip
   refine dB (fun (k:Nat)=>(.k::.k::.j::.k::.k::.j::.k::.k::.k::.v (.i .i64 k)::(rp 9 .j []))) (fun k=>[.map false ((l.take k).map (.i .i64)) (List.replicate k (.b true))]) (fun k=>k≤l.length∧∀ j,j < k→(l.take j).contains (l.getD j 0)=false) (fun k=>l.length - k) (0) ⟨bJ _,fun j h=>by omega⟩ rfl (by simp [gX]) ?_
   rintro k j ⟨hk,ha⟩
   refine zg ?_
   (refine zs0 ?_; repeat' first | exact trivial | refine zJ ?_ ?_ | refine zH fun hc=>?_)
   · by_cases hx:(l.take k).contains (l.getD k 0)=true
     · obtain ⟨i,hi,hf⟩:=xI hx
       have hi':i < k:=by simp at hi; omega
       simp -implicitDefEqProofs (disch:=omega) only [jI,bRx,hf,aBp hi',go_sem,simprocAttr]
       refine bR ?_ (by rfl)
       rw [zf (fun hn=>by rw [rA hn (by omega)] at hx; cases hx)]
     · have hx:=cT.2 hx
       simp -implicitDefEqProofs (disch:=omega) only [jI,bRx,nC hx,go_sem,simprocAttr]
       refine ⟨k+1,⟨by omega,eC ha hx⟩,by omega,?_,by simp⟩
       rw [eN (d:=0) (by omega),cB,aJs]; rfl
   · refine bR ?_ (by rfl)
     have h1:k=l.length:=by omega
     rw [zt (W8 (h1 ▸ ha))]

structure OkO (o:LOp):Prop where
 name:o.name.length≤140737488355328
 args:o.args.length≤140737488355328
 argsS:∀ x ∈ o.args,x.length≤140737488355328
 sort:o.sort.length≤140737488355328
 pieces:o.pieces.length≤140737488355328
 piecesS:∀ x ∈ o.pieces,x.1.length≤140737488355328∧x.2.length≤140737488355328
 strict:o.strict.length≤140737488355328
 piecesT:o.pieces.length≤4398046511104
 argsT:o.args.length≤8796093022208
 strictT:o.strict.length≤17592186044416
structure OkS (s:eD):Prop where
 sorts:s.sorts.length≤140737488355328
 sortsS:∀ x ∈ s.sorts,x.length≤140737488355328
 below:s.below.length≤140737488355328
 belowS:∀ x ∈ s.below,x.1.length≤140737488355328∧x.2.length≤140737488355328
 ops:s.ops.length≤140737488355328
 opsO:∀ x ∈ s.ops,OkO x
 funs:s.funs.length≤140737488355328
 funsO:∀ x ∈ s.funs,OkO x
 values:s.values.length≤140737488355328
 opsT:s.ops.length≤1172812402961
 funsT:s.funs.length≤1172812402961
 valuesS:∀ x ∈ s.values,x.length≤140737488355328
theorem cQ {α:Type} {l:List α} {d:α} {k:Nat} (h:k < l.length):l.getD k d ∈ l:=by simp [List.getD,h]

end Go.Proofs.YtdjcggcjlphdoaaGreatDoor

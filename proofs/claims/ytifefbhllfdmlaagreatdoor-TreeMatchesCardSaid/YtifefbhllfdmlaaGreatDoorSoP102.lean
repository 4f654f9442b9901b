/-
  The types of the program, as far as its code asks; no condition.
-/
import Derived.Test.YtifefbhllfdmlaaGreatDoorProg
import Derived.Test.YtifefbhllfdmlaaGreatDoorVoP105
import Derived.Lib.Space
import Derived.Lib.ItoaNum
import Derived.Test.YtifefbhllfdmlaaGreatDoorSoP101
set_option linter.unusedVariables false
set_option maxRecDepth 100000
set_option linter.unusedSimpArgs false
set_option maxHeartbeats 4000000
namespace Go.Proofs.YtifefbhllfdmlaaGreatDoor
open Go Go.Vo
open Nat (reduceAdd reduceSub reduceMul reduceLeDiff reduceLT reduceEqDiff)
open Int (reduceNeg)
theorem mixed:Tryz.prog.follows .mixedOrders=true:=by kernel_rfl
def xF:List AV:=Lib.asciiSpaceTab.map (.i .u8)
def M8:List AV:=Lib.pow10Tab.map (.i .u64)
def G0:Glob:=fun g=>if g=0 then some (.box xF 0) else if g=2 then some (.box M8 0) else none
theorem g0:qY G0:=fun k a h=>by
 unfold G0 at h
 split at h
 · cases h; simp only [pers,xF,iT]
 · split at h
   · cases h; simp only [pers,M8,iT]
   · cases h
@[go_sem] theorem az3:jR Tryz.prog 3=none:=by kernel_rfl
@[go_sem] theorem az4:jR Tryz.prog 4=none:=by kernel_rfl
@[go_sem] theorem az9:jR Tryz.prog 9=none:=by kernel_rfl
@[go_sem] theorem cAz:jR Tryz.prog 26=none:=by kernel_rfl
@[go_sem] theorem cAy:jR Tryz.prog 30=none:=by kernel_rfl
@[go_sem] theorem cAx:jR Tryz.prog 32=none:=by kernel_rfl
@[go_sem] theorem cAw:jR Tryz.prog 35=none:=by kernel_rfl
@[go_sem] theorem cAv:jR Tryz.prog 37=none:=by kernel_rfl
@[go_sem] theorem cAu:jR Tryz.prog 41=none:=by kernel_rfl
@[go_sem] theorem cAt:jR Tryz.prog 87=none:=by kernel_rfl
@[go_sem] theorem bZf:jR Tryz.prog 119=none:=by kernel_rfl
@[go_sem] theorem bZe:jR Tryz.prog 122=none:=by kernel_rfl
@[go_sem] theorem bZd:jR Tryz.prog 124=none:=by kernel_rfl
@[go_sem] theorem bZc:jR Tryz.prog 127=none:=by kernel_rfl
@[go_sem] theorem bZb:jR Tryz.prog 133=none:=by kernel_rfl
@[go_sem] theorem bZa:jR Tryz.prog 135=none:=by kernel_rfl
@[go_sem] theorem bYz:jR Tryz.prog 139=none:=by kernel_rfl
@[go_sem] theorem bYy:jR Tryz.prog 143=none:=by kernel_rfl
@[go_sem] theorem bYx:jR Tryz.prog 164=none:=by kernel_rfl
@[go_sem] theorem bYw:jR Tryz.prog 167=none:=by kernel_rfl
@[go_sem] theorem bYv:jR Tryz.prog 187=none:=by kernel_rfl
@[go_sem] theorem bYu:jR Tryz.prog 203=none:=by kernel_rfl
@[go_sem] theorem bYt:jR Tryz.prog 216=none:=by kernel_rfl
@[go_sem] theorem bYs:jR Tryz.prog 243=none:=by kernel_rfl
@[go_sem] theorem sz3:kF Tryz.prog 3=some 1:=by kernel_rfl
@[go_sem] theorem ag3:fN Tryz.prog 3=some false:=by kernel_rfl
@[go_sem] theorem by3:aAo Tryz.prog 3=some 8:=by kernel_rfl
@[go_sem] theorem zo3:zeroOf Tryz.prog 3=some [.i .i64 0]:=by kernel_rfl
@[go_sem] theorem un3:Program.underlying Tryz.prog 3=some (.int .i64):=by kernel_rfl
@[go_sem] theorem sz4:kF Tryz.prog 4=some 1:=by kernel_rfl
@[go_sem] theorem ag4:fN Tryz.prog 4=some false:=by kernel_rfl
@[go_sem] theorem zo4:zeroOf Tryz.prog 4=some [.b false]:=by kernel_rfl
@[go_sem] theorem zv4:rM Tryz.prog 4=some (.b false):=by kernel_rfl
@[go_sem] theorem un4:Program.underlying Tryz.prog 4=some .bool:=by kernel_rfl
@[go_sem] theorem sz9:kF Tryz.prog 9=some 1:=by kernel_rfl
@[go_sem] theorem ag9:fN Tryz.prog 9=some false:=by kernel_rfl
@[go_sem] theorem by9:aAo Tryz.prog 9=some 16:=by kernel_rfl
@[go_sem] theorem zo9:zeroOf Tryz.prog 9=some [.s []]:=by kernel_rfl
@[go_sem] theorem zv9:rM Tryz.prog 9=some (.s []):=by kernel_rfl
@[go_sem] theorem un9:Program.underlying Tryz.prog 9=some .string:=by kernel_rfl
@[go_sem] theorem cAn:kF Tryz.prog 22=some 1:=by kernel_rfl
@[go_sem] theorem cBn:fN Tryz.prog 22=some false:=by kernel_rfl
@[go_sem] theorem cAd:zeroOf Tryz.prog 22=some [.e0]:=by kernel_rfl
@[go_sem] theorem bZy:rM Tryz.prog 22=some (.e0):=by kernel_rfl
@[go_sem] theorem bWb:Program.underlying Tryz.prog 22=some (.slice 9):=by kernel_rfl
@[go_sem] theorem aSq:eJ Tryz.prog 22=some 9:=by kernel_rfl
@[go_sem] theorem cBm:fN Tryz.prog 23=some false:=by kernel_rfl
@[go_sem] theorem cAh:Program.underlying Tryz.prog 23=some (.slice 122):=by kernel_rfl
@[go_sem] theorem cBl:fN Tryz.prog 24=some false:=by kernel_rfl
@[go_sem] theorem cAg:Program.underlying Tryz.prog 24=some (.slice 119):=by kernel_rfl
@[go_sem] theorem cAs:eJ Tryz.prog 24=some 119:=by kernel_rfl
@[go_sem] theorem cAm:kF Tryz.prog 26=some 5:=by kernel_rfl
@[go_sem] theorem cBk:fN Tryz.prog 26=some true:=by kernel_rfl
@[go_sem] theorem bVb:dA Tryz.prog 26 0=some (0,some 1):=by kernel_rfl
@[go_sem] theorem bVa:dA Tryz.prog 26 1=some (1,some 1):=by kernel_rfl
@[go_sem] theorem bUz:dA Tryz.prog 26 2=some (2,some 1):=by kernel_rfl
@[go_sem] theorem bUy:dA Tryz.prog 26 3=some (3,some 1):=by kernel_rfl
@[go_sem] theorem bUx:dA Tryz.prog 26 4=some (4,some 1):=by kernel_rfl
@[go_sem] theorem cBj:fN Tryz.prog 27=some false:=by kernel_rfl
@[go_sem] theorem cAl:kF Tryz.prog 28=some 1:=by kernel_rfl
@[go_sem] theorem cBi:fN Tryz.prog 28=some false:=by kernel_rfl
@[go_sem] theorem cAc:zeroOf Tryz.prog 28=some [.e0]:=by kernel_rfl
@[go_sem] theorem bVx:Program.underlying Tryz.prog 28=some (.slice 30):=by kernel_rfl
@[go_sem] theorem bVc:eJ Tryz.prog 28=some 30:=by kernel_rfl
@[go_sem] theorem bTy:kF Tryz.prog 30=some 6:=by kernel_rfl
@[go_sem] theorem cBh:fN Tryz.prog 30=some true:=by kernel_rfl
@[go_sem] theorem bVg:aAo Tryz.prog 30=some 96:=by kernel_rfl
@[go_sem] theorem bTw:zeroOf Tryz.prog 30=some [.i .i64 0,.i .i64 0,.s [],.s [],.e0,.e0]:=by kernel_rfl
@[go_sem] theorem bUw:dA Tryz.prog 30 0=some (0,some 1):=by kernel_rfl
@[go_sem] theorem bUv:dA Tryz.prog 30 1=some (1,some 1):=by kernel_rfl
@[go_sem] theorem bUu:dA Tryz.prog 30 2=some (2,some 1):=by kernel_rfl
@[go_sem] theorem bUt:dA Tryz.prog 30 3=some (3,some 1):=by kernel_rfl
@[go_sem] theorem bUs:dA Tryz.prog 30 4=some (4,some 1):=by kernel_rfl
@[go_sem] theorem bUr:dA Tryz.prog 30 5=some (5,some 1):=by kernel_rfl
@[go_sem] theorem cAq:hC Tryz.prog 30=some [(0,1),(1,1),(2,1),(3,1),(4,1),(5,1)]:=by kernel_rfl
@[go_sem] theorem cBg:fN Tryz.prog 32=some false:=by kernel_rfl
@[go_sem] theorem cAf:Program.underlying Tryz.prog 32=some (.slice 3):=by kernel_rfl
@[go_sem] theorem bYg:eJ Tryz.prog 32=some 3:=by kernel_rfl
@[go_sem] theorem cBf:fN Tryz.prog 33=some false:=by kernel_rfl
@[go_sem] theorem cAk:kF Tryz.prog 35=some 9:=by kernel_rfl
@[go_sem] theorem cBe:fN Tryz.prog 35=some true:=by kernel_rfl
@[go_sem] theorem cAb:zeroOf Tryz.prog 35=some [.i .i64 0,.i .i64 0,.i .i64 0,.s [],.s [],.e0,.e0,.s [],.i .i64 0]:=by kernel_rfl
@[go_sem] theorem bUq:dA Tryz.prog 35 0=some (0,some 1):=by kernel_rfl
@[go_sem] theorem bUp:dA Tryz.prog 35 1=some (1,some 6):=by kernel_rfl
@[go_sem] theorem bUo:dA Tryz.prog 35 2=some (7,some 1):=by kernel_rfl
@[go_sem] theorem bUn:dA Tryz.prog 35 3=some (8,some 1):=by kernel_rfl
@[go_sem] theorem cAp:hC Tryz.prog 35=some [(0,1),(1,6),(7,1),(8,1)]:=by kernel_rfl
@[go_sem] theorem bWl:kF Tryz.prog 37=some 10:=by kernel_rfl
@[go_sem] theorem cBd:fN Tryz.prog 37=some true:=by kernel_rfl
@[go_sem] theorem bYp:aAo Tryz.prog 37=some 152:=by kernel_rfl
@[go_sem] theorem bVm:zeroOf Tryz.prog 37=some [.e0,.i .i64 0,.i .i64 0,.i .i64 0,.s [],.s [],.e0,.e0,.s [],.i .i64 0]:=by kernel_rfl
@[go_sem] theorem bUm:dA Tryz.prog 37 0=some (0,some 1):=by kernel_rfl
@[go_sem] theorem bUl:dA Tryz.prog 37 1=some (1,some 9):=by kernel_rfl
@[go_sem] theorem cAo:hC Tryz.prog 37=some [(0,1),(1,9)]:=by kernel_rfl
@[go_sem] theorem cAj:kF Tryz.prog 41=some 1:=by kernel_rfl
@[go_sem] theorem cBc:fN Tryz.prog 41=some false:=by kernel_rfl
@[go_sem] theorem cAa:zeroOf Tryz.prog 41=some [.e0]:=by kernel_rfl
@[go_sem] theorem bVw:Program.underlying Tryz.prog 41=some (.slice 37):=by kernel_rfl
@[go_sem] theorem bYf:eJ Tryz.prog 41=some 37:=by kernel_rfl
@[go_sem] theorem bPh:kF Tryz.prog 69=some 1:=by kernel_rfl
@[go_sem] theorem cBb:fN Tryz.prog 69=some false:=by kernel_rfl
@[go_sem] theorem bPs:aAo Tryz.prog 69=some 24:=by kernel_rfl
@[go_sem] theorem bPf:zeroOf Tryz.prog 69=some [.e0]:=by kernel_rfl
@[go_sem] theorem cAe:Program.underlying Tryz.prog 69=some (.slice 203):=by kernel_rfl
@[go_sem] theorem cAr:eJ Tryz.prog 69=some 203:=by kernel_rfl
@[go_sem] theorem cAi:kF Tryz.prog 87=some 1:=by kernel_rfl
@[go_sem] theorem cBa:fN Tryz.prog 87=some false:=by kernel_rfl
@[go_sem] theorem bZz:zeroOf Tryz.prog 87=some [.p (.pointer Option.none)]:=by kernel_rfl
@[go_sem] theorem bWk:Program.underlying Tryz.prog 112=some (.slice 69):=by kernel_rfl
@[go_sem] theorem aWg:eJ Tryz.prog 112=some 69:=by kernel_rfl
@[go_sem] theorem bZv:fN Tryz.prog 116=some false:=by kernel_rfl
@[go_sem] theorem bWj:Program.underlying Tryz.prog 116=some (.slice 216):=by kernel_rfl
@[go_sem] theorem bZu:fN Tryz.prog 117=some false:=by kernel_rfl
@[go_sem] theorem bWr:kF Tryz.prog 119=some 7:=by kernel_rfl
@[go_sem] theorem bZt:fN Tryz.prog 119=some true:=by kernel_rfl
@[go_sem] theorem bYr:aAo Tryz.prog 119=some 120:=by kernel_rfl
@[go_sem] theorem bVu:zeroOf Tryz.prog 119=some [.s [],.e0,.s [],.e0,.i .i64 0,.i .i64 0,.e0]:=by kernel_rfl
@[go_sem] theorem bVl:rM Tryz.prog 119=some (.agg [.s [],.e0,.s [],.e0,.i .i64 0,.i .i64 0,.e0]):=by kernel_rfl
@[go_sem] theorem bSk:dA Tryz.prog 119 0=some (0,some 1):=by kernel_rfl
@[go_sem] theorem bSj:dA Tryz.prog 119 1=some (1,some 1):=by kernel_rfl
@[go_sem] theorem bSi:dA Tryz.prog 119 2=some (2,some 1):=by kernel_rfl
@[go_sem] theorem bSh:dA Tryz.prog 119 3=some (3,some 1):=by kernel_rfl
@[go_sem] theorem bSg:dA Tryz.prog 119 4=some (4,some 1):=by kernel_rfl
@[go_sem] theorem bSf:dA Tryz.prog 119 5=some (5,some 1):=by kernel_rfl
@[go_sem] theorem bSe:dA Tryz.prog 119 6=some (6,some 1):=by kernel_rfl
@[go_sem] theorem bXd:hC Tryz.prog 119=some [(0,1),(1,1),(2,1),(3,1),(4,1),(5,1),(6,1)]:=by kernel_rfl
@[go_sem] theorem bWq:kF Tryz.prog 122=some 2:=by kernel_rfl
@[go_sem] theorem bZs:fN Tryz.prog 122=some true:=by kernel_rfl
@[go_sem] theorem bVt:zeroOf Tryz.prog 122=some [.s [],.s []]:=by kernel_rfl
@[go_sem] theorem bSd:dA Tryz.prog 122 0=some (0,some 1):=by kernel_rfl
@[go_sem] theorem bSc:dA Tryz.prog 122 1=some (1,some 1):=by kernel_rfl
@[go_sem] theorem bRa:iS Tryz.prog 122=some [9,9]:=by kernel_rfl
@[go_sem] theorem bZr:fN Tryz.prog 124=some false:=by kernel_rfl
@[go_sem] theorem bZq:fN Tryz.prog 127=some false:=by kernel_rfl
@[go_sem] theorem bZp:fN Tryz.prog 133=some false:=by kernel_rfl
@[go_sem] theorem bZo:fN Tryz.prog 135=some false:=by kernel_rfl
@[go_sem] theorem bZn:fN Tryz.prog 136=some false:=by kernel_rfl
@[go_sem] theorem bWi:Program.underlying Tryz.prog 136=some (.map 9 22):=by kernel_rfl
@[go_sem] theorem bZm:fN Tryz.prog 137=some false:=by kernel_rfl
@[go_sem] theorem bWh:Program.underlying Tryz.prog 137=some (.map 9 119):=by kernel_rfl
@[go_sem] theorem bVs:zeroOf Tryz.prog 139=some [.e0,.e0,.e0,.e0,.e0,.p (.map Option.none),.p (.map Option.none),.p (.map Option.none)]:=by kernel_rfl
@[go_sem] theorem bSb:dA Tryz.prog 139 0=some (0,some 5):=by kernel_rfl
@[go_sem] theorem bSa:dA Tryz.prog 139 1=some (5,some 1):=by kernel_rfl
@[go_sem] theorem bRz:dA Tryz.prog 139 2=some (6,some 1):=by kernel_rfl
@[go_sem] theorem bRy:dA Tryz.prog 139 3=some (7,some 1):=by kernel_rfl
@[go_sem] theorem bXc:hC Tryz.prog 139=some [(0,5),(5,1),(6,1),(7,1)]:=by kernel_rfl
@[go_sem] theorem bZl:fN Tryz.prog 143=some false:=by kernel_rfl
@[go_sem] theorem bVr:zeroOf Tryz.prog 164=some [.e0,.e0,.e0,.e0,.e0,.b false]:=by kernel_rfl
@[go_sem] theorem bRx:dA Tryz.prog 164 0=some (0,some 5):=by kernel_rfl
@[go_sem] theorem bRw:dA Tryz.prog 164 1=some (5,some 1):=by kernel_rfl
@[go_sem] theorem bXb:hC Tryz.prog 164=some [(0,5),(5,1)]:=by kernel_rfl
@[go_sem] theorem bWp:kF Tryz.prog 167=some 1:=by kernel_rfl
@[go_sem] theorem bZk:fN Tryz.prog 167=some false:=by kernel_rfl
@[go_sem] theorem bVq:zeroOf Tryz.prog 167=some [.p (.map Option.none)]:=by kernel_rfl
@[go_sem] theorem bWg:Program.underlying Tryz.prog 167=some (.map 9 9):=by kernel_rfl
@[go_sem] theorem bWf:Program.underlying Tryz.prog 175=some (.map 122 4):=by kernel_rfl
@[go_sem] theorem bWe:Program.underlying Tryz.prog 176=some (.map 9 4):=by kernel_rfl
@[go_sem] theorem bWd:Program.underlying Tryz.prog 183=some (.slice 22):=by kernel_rfl
@[go_sem] theorem bYi:eJ Tryz.prog 183=some 22:=by kernel_rfl
@[go_sem] theorem bWo:kF Tryz.prog 187=some 2:=by kernel_rfl
@[go_sem] theorem bVp:zeroOf Tryz.prog 187=some [.i .i64 0,.b false]:=by kernel_rfl
@[go_sem] theorem bRv:dA Tryz.prog 187 0=some (0,some 1):=by kernel_rfl
@[go_sem] theorem bRu:dA Tryz.prog 187 1=some (1,some 1):=by kernel_rfl
@[go_sem] theorem bXa:hC Tryz.prog 187=some [(0,1),(1,1)]:=by kernel_rfl
@[go_sem] theorem bWn:kF Tryz.prog 203=some 7:=by kernel_rfl
@[go_sem] theorem bZj:fN Tryz.prog 203=some true:=by kernel_rfl
@[go_sem] theorem bYq:aAo Tryz.prog 203=some 112:=by kernel_rfl
@[go_sem] theorem bVo:zeroOf Tryz.prog 203=some [.s [],.i .i64 0,.i .i64 0,.s [],.s [],.e0,.e0]:=by kernel_rfl
@[go_sem] theorem bRt:dA Tryz.prog 203 0=some (0,some 1):=by kernel_rfl
@[go_sem] theorem bRs:dA Tryz.prog 203 1=some (1,some 6):=by kernel_rfl
@[go_sem] theorem bWz:hC Tryz.prog 203=some [(0,1),(1,6)]:=by kernel_rfl
@[go_sem] theorem bWc:Program.underlying Tryz.prog 214=some (.map 3 4):=by kernel_rfl
@[go_sem] theorem bWm:kF Tryz.prog 216=some 2:=by kernel_rfl
@[go_sem] theorem bZi:fN Tryz.prog 216=some true:=by kernel_rfl
@[go_sem] theorem bVn:zeroOf Tryz.prog 216=some [.s [],.s []]:=by kernel_rfl
@[go_sem] theorem bRr:dA Tryz.prog 216 0=some (0,some 1):=by kernel_rfl
@[go_sem] theorem bRq:dA Tryz.prog 216 1=some (1,some 1):=by kernel_rfl
@[go_sem] theorem bRp:dA Tryz.prog 235 0=some (0,some 2):=by kernel_rfl
@[go_sem] theorem bWa:Program.underlying Tryz.prog 237=some (.slice 41):=by kernel_rfl
@[go_sem] theorem bVz:Program.underlying Tryz.prog 241=some (.slice 243):=by kernel_rfl
@[go_sem] theorem bKd:eJ Tryz.prog 241=some 243:=by kernel_rfl
@[go_sem] theorem bIf:kF Tryz.prog 243=some 2:=by kernel_rfl
@[go_sem] theorem bZh:fN Tryz.prog 243=some true:=by kernel_rfl
@[go_sem] theorem bOi:aAo Tryz.prog 243=some 48:=by kernel_rfl
@[go_sem] theorem bHi:zeroOf Tryz.prog 243=some [.e0,.e0]:=by kernel_rfl
@[go_sem] theorem bRo:dA Tryz.prog 243 0=some (0,some 1):=by kernel_rfl
@[go_sem] theorem bRn:dA Tryz.prog 243 1=some (1,some 1):=by kernel_rfl
@[go_sem] theorem bWy:hC Tryz.prog 243=some [(0,1),(1,1)]:=by kernel_rfl
@[go_sem] theorem bVy:Program.underlying Tryz.prog 245=some (.slice 28):=by kernel_rfl
@[go_sem] theorem bYh:eJ Tryz.prog 245=some 28:=by kernel_rfl
end Go.Proofs.YtifefbhllfdmlaaGreatDoor
namespace Go.Vo
theorem zdA:(∀ l,avs l=.sl (l.map .s) l.length)∧(∀ l,avb l=.sl (l.flatMap aQ) l.length)∧(∀ l,avi l=.sl (l.map (.i .i64)) l.length)∧(∀ l,avo l=.sl (l.flatMap aI) l.length)∧(∀ s,bB s=[avs s.sorts,avb s.below,avo s.ops,avo s.funs,avs s.values])∧(∀ o,aI o=[.s o.name,avs o.args,.s o.sort,avb o.pieces,.i .i64 o.prec,.i .i64 o.assoc,avi o.strict])∧(∀ b,aQ b=[.s b.1,.s b.2]):=⟨fun _=>rfl,fun _=>rfl,fun _=>rfl,fun _=>rfl,fun _=>rfl,fun _=>rfl,fun _=>rfl⟩
theorem cE {P:Program} {G:Glob} {dr:Option DR} {d:Option Nat} {os:List fR} {K:List AV→List AObj→Prop} {env:List AV} {h:List AObj} {f:FuncId} {A A':List AV} {r:AV} (s:Ctr P G f A' r)
 (k:dI P G dr os K (gN env d (mat r (fZ r h A)).1) (mat r (fZ r h A)).2) (hA:A.map (gB dep h)=A':=by (simp -implicitDefEqProofs (disch:=omega) only [zdA,go_sem,↓reduceIte,reduceAdd,reduceSub,reduceMul,reduceLeDiff,reduceLT,reduceEqDiff,reduceNeg,Nat.reduceBEq]; done)):tW P G dr f A d os K env h:=aY s hA k
theorem zs1 {K1:Prop} {p q:Prop} (k1:K1) (h:q) (e:K1→Cv q p:=by
   intro k1
   repeat' first | with_reducible apply vT | with_reducible apply vF | with_reducible apply vC | ((first | ((with_reducible apply vE); (focus exact k1); (focus (simp -implicitDefEqProofs (disch:=omega) only [zdA,go_sem,simprocAttr]; done))) | ((with_reducible apply vE); (focus (apply k1 <;> omega)); (focus (simp -implicitDefEqProofs (disch:=omega) only [zdA,go_sem,simprocAttr]; done))) | ((with_reducible apply vR); focus exact k1 ..)); simp -implicitDefEqProofs (disch:=omega) only [go_sem,simprocAttr]) | ((with_reducible apply vA); focus omega) | ((with_reducible apply vI); (focus (intro hr; (try simp only [zdz] at hr); exact hr)); intro hr; have hc:=hr; (try simp only [zdz] at hc); simp -implicitDefEqProofs (disch:=omega) only [hr,go_sem,simprocAttr]; (try clear hr))
   any_goals exact vS):p:=(e k1).1 h
theorem zx1 {K1:Prop} {x:Prop} {p q:Prop} (X:x) (k1:K1) (h:q) (e:x→K1→Cv q p:=by
   intro X k1
   repeat' first | with_reducible apply vT | with_reducible apply vF | with_reducible apply vC | ((first | ((with_reducible apply vE); (focus exact k1); (focus (simp -implicitDefEqProofs (disch:=omega) only [X,zdA,go_sem,simprocAttr]; done))) | ((with_reducible apply vE); (focus (apply k1 <;> omega)); (focus (simp -implicitDefEqProofs (disch:=omega) only [X,zdA,go_sem,simprocAttr]; done))) | ((with_reducible apply vR); focus exact k1 ..)); simp -implicitDefEqProofs (disch:=omega) only [X,go_sem,simprocAttr]) | ((with_reducible apply vA); focus omega) | ((with_reducible apply vI); (focus (intro hr; (try simp only [zdz] at hr); exact hr)); intro hr; have hc:=hr; (try simp only [zdz] at hc); simp -implicitDefEqProofs (disch:=omega) only [hr,X,go_sem,simprocAttr]; (try clear hr))
   any_goals exact vS):p:=(e X k1).1 h
theorem zs2 {K1:Prop} {K2:Prop} {p q:Prop} (k1:K1) (k2:K2) (h:q) (e:K1→K2→Cv q p:=by
   intro k1 k2
   repeat' first | with_reducible apply vT | with_reducible apply vF | with_reducible apply vC | ((first | ((with_reducible apply vE); (focus exact k1); (focus (simp -implicitDefEqProofs (disch:=omega) only [zdA,go_sem,simprocAttr]; done))) | ((with_reducible apply vE); (focus (apply k1 <;> omega)); (focus (simp -implicitDefEqProofs (disch:=omega) only [zdA,go_sem,simprocAttr]; done))) | ((with_reducible apply vR); focus exact k1 ..) | ((with_reducible apply vE); (focus exact k2); (focus (simp -implicitDefEqProofs (disch:=omega) only [zdA,go_sem,simprocAttr]; done))) | ((with_reducible apply vE); (focus (apply k2 <;> omega)); (focus (simp -implicitDefEqProofs (disch:=omega) only [zdA,go_sem,simprocAttr]; done))) | ((with_reducible apply vR); focus exact k2 ..)); simp -implicitDefEqProofs (disch:=omega) only [go_sem,simprocAttr]) | ((with_reducible apply vA); focus omega) | ((with_reducible apply vI); (focus (intro hr; (try simp only [zdz] at hr); exact hr)); intro hr; have hc:=hr; (try simp only [zdz] at hc); simp -implicitDefEqProofs (disch:=omega) only [hr,go_sem,simprocAttr]; (try clear hr))
   any_goals exact vS):p:=(e k1 k2).1 h
theorem zx2 {K1:Prop} {K2:Prop} {x:Prop} {p q:Prop} (X:x) (k1:K1) (k2:K2) (h:q) (e:x→K1→K2→Cv q p:=by
   intro X k1 k2
   repeat' first | with_reducible apply vT | with_reducible apply vF | with_reducible apply vC | ((first | ((with_reducible apply vE); (focus exact k1); (focus (simp -implicitDefEqProofs (disch:=omega) only [X,zdA,go_sem,simprocAttr]; done))) | ((with_reducible apply vE); (focus (apply k1 <;> omega)); (focus (simp -implicitDefEqProofs (disch:=omega) only [X,zdA,go_sem,simprocAttr]; done))) | ((with_reducible apply vR); focus exact k1 ..) | ((with_reducible apply vE); (focus exact k2); (focus (simp -implicitDefEqProofs (disch:=omega) only [X,zdA,go_sem,simprocAttr]; done))) | ((with_reducible apply vE); (focus (apply k2 <;> omega)); (focus (simp -implicitDefEqProofs (disch:=omega) only [X,zdA,go_sem,simprocAttr]; done))) | ((with_reducible apply vR); focus exact k2 ..)); simp -implicitDefEqProofs (disch:=omega) only [X,go_sem,simprocAttr]) | ((with_reducible apply vA); focus omega) | ((with_reducible apply vI); (focus (intro hr; (try simp only [zdz] at hr); exact hr)); intro hr; have hc:=hr; (try simp only [zdz] at hc); simp -implicitDefEqProofs (disch:=omega) only [hr,X,go_sem,simprocAttr]; (try clear hr))
   any_goals exact vS):p:=(e X k1 k2).1 h
theorem zs3 {K1:Prop} {K2:Prop} {K3:Prop} {p q:Prop} (k1:K1) (k2:K2) (k3:K3) (h:q) (e:K1→K2→K3→Cv q p:=by
   intro k1 k2 k3
   repeat' first | with_reducible apply vT | with_reducible apply vF | with_reducible apply vC | ((first | ((with_reducible apply vE); (focus exact k1); (focus (simp -implicitDefEqProofs (disch:=omega) only [zdA,go_sem,simprocAttr]; done))) | ((with_reducible apply vE); (focus (apply k1 <;> omega)); (focus (simp -implicitDefEqProofs (disch:=omega) only [zdA,go_sem,simprocAttr]; done))) | ((with_reducible apply vR); focus exact k1 ..) | ((with_reducible apply vE); (focus exact k2); (focus (simp -implicitDefEqProofs (disch:=omega) only [zdA,go_sem,simprocAttr]; done))) | ((with_reducible apply vE); (focus (apply k2 <;> omega)); (focus (simp -implicitDefEqProofs (disch:=omega) only [zdA,go_sem,simprocAttr]; done))) | ((with_reducible apply vR); focus exact k2 ..) | ((with_reducible apply vE); (focus exact k3); (focus (simp -implicitDefEqProofs (disch:=omega) only [zdA,go_sem,simprocAttr]; done))) | ((with_reducible apply vE); (focus (apply k3 <;> omega)); (focus (simp -implicitDefEqProofs (disch:=omega) only [zdA,go_sem,simprocAttr]; done))) | ((with_reducible apply vR); focus exact k3 ..)); simp -implicitDefEqProofs (disch:=omega) only [go_sem,simprocAttr]) | ((with_reducible apply vA); focus omega) | ((with_reducible apply vI); (focus (intro hr; (try simp only [zdz] at hr); exact hr)); intro hr; have hc:=hr; (try simp only [zdz] at hc); simp -implicitDefEqProofs (disch:=omega) only [hr,go_sem,simprocAttr]; (try clear hr))
   any_goals exact vS):p:=(e k1 k2 k3).1 h
theorem zx3 {K1:Prop} {K2:Prop} {K3:Prop} {x:Prop} {p q:Prop} (X:x) (k1:K1) (k2:K2) (k3:K3) (h:q) (e:x→K1→K2→K3→Cv q p:=by
   intro X k1 k2 k3
   repeat' first | with_reducible apply vT | with_reducible apply vF | with_reducible apply vC | ((first | ((with_reducible apply vE); (focus exact k1); (focus (simp -implicitDefEqProofs (disch:=omega) only [X,zdA,go_sem,simprocAttr]; done))) | ((with_reducible apply vE); (focus (apply k1 <;> omega)); (focus (simp -implicitDefEqProofs (disch:=omega) only [X,zdA,go_sem,simprocAttr]; done))) | ((with_reducible apply vR); focus exact k1 ..) | ((with_reducible apply vE); (focus exact k2); (focus (simp -implicitDefEqProofs (disch:=omega) only [X,zdA,go_sem,simprocAttr]; done))) | ((with_reducible apply vE); (focus (apply k2 <;> omega)); (focus (simp -implicitDefEqProofs (disch:=omega) only [X,zdA,go_sem,simprocAttr]; done))) | ((with_reducible apply vR); focus exact k2 ..) | ((with_reducible apply vE); (focus exact k3); (focus (simp -implicitDefEqProofs (disch:=omega) only [X,zdA,go_sem,simprocAttr]; done))) | ((with_reducible apply vE); (focus (apply k3 <;> omega)); (focus (simp -implicitDefEqProofs (disch:=omega) only [X,zdA,go_sem,simprocAttr]; done))) | ((with_reducible apply vR); focus exact k3 ..)); simp -implicitDefEqProofs (disch:=omega) only [X,go_sem,simprocAttr]) | ((with_reducible apply vA); focus omega) | ((with_reducible apply vI); (focus (intro hr; (try simp only [zdz] at hr); exact hr)); intro hr; have hc:=hr; (try simp only [zdz] at hc); simp -implicitDefEqProofs (disch:=omega) only [hr,X,go_sem,simprocAttr]; (try clear hr))
   any_goals exact vS):p:=(e X k1 k2 k3).1 h
theorem zs4 {K1:Prop} {K2:Prop} {K3:Prop} {K4:Prop} {p q:Prop} (k1:K1) (k2:K2) (k3:K3) (k4:K4) (h:q) (e:K1→K2→K3→K4→Cv q p:=by
   intro k1 k2 k3 k4
   repeat' first | with_reducible apply vT | with_reducible apply vF | with_reducible apply vC | ((first | ((with_reducible apply vE); (focus exact k1); (focus (simp -implicitDefEqProofs (disch:=omega) only [zdA,go_sem,simprocAttr]; done))) | ((with_reducible apply vE); (focus (apply k1 <;> omega)); (focus (simp -implicitDefEqProofs (disch:=omega) only [zdA,go_sem,simprocAttr]; done))) | ((with_reducible apply vR); focus exact k1 ..) | ((with_reducible apply vE); (focus exact k2); (focus (simp -implicitDefEqProofs (disch:=omega) only [zdA,go_sem,simprocAttr]; done))) | ((with_reducible apply vE); (focus (apply k2 <;> omega)); (focus (simp -implicitDefEqProofs (disch:=omega) only [zdA,go_sem,simprocAttr]; done))) | ((with_reducible apply vR); focus exact k2 ..) | ((with_reducible apply vE); (focus exact k3); (focus (simp -implicitDefEqProofs (disch:=omega) only [zdA,go_sem,simprocAttr]; done))) | ((with_reducible apply vE); (focus (apply k3 <;> omega)); (focus (simp -implicitDefEqProofs (disch:=omega) only [zdA,go_sem,simprocAttr]; done))) | ((with_reducible apply vR); focus exact k3 ..) | ((with_reducible apply vE); (focus exact k4); (focus (simp -implicitDefEqProofs (disch:=omega) only [zdA,go_sem,simprocAttr]; done))) | ((with_reducible apply vE); (focus (apply k4 <;> omega)); (focus (simp -implicitDefEqProofs (disch:=omega) only [zdA,go_sem,simprocAttr]; done))) | ((with_reducible apply vR); focus exact k4 ..)); simp -implicitDefEqProofs (disch:=omega) only [go_sem,simprocAttr]) | ((with_reducible apply vA); focus omega) | ((with_reducible apply vI); (focus (intro hr; (try simp only [zdz] at hr); exact hr)); intro hr; have hc:=hr; (try simp only [zdz] at hc); simp -implicitDefEqProofs (disch:=omega) only [hr,go_sem,simprocAttr]; (try clear hr))
   any_goals exact vS):p:=(e k1 k2 k3 k4).1 h
theorem zx4 {K1:Prop} {K2:Prop} {K3:Prop} {K4:Prop} {x:Prop} {p q:Prop} (X:x) (k1:K1) (k2:K2) (k3:K3) (k4:K4) (h:q) (e:x→K1→K2→K3→K4→Cv q p:=by
   intro X k1 k2 k3 k4
   repeat' first | with_reducible apply vT | with_reducible apply vF | with_reducible apply vC | ((first | ((with_reducible apply vE); (focus exact k1); (focus (simp -implicitDefEqProofs (disch:=omega) only [X,zdA,go_sem,simprocAttr]; done))) | ((with_reducible apply vE); (focus (apply k1 <;> omega)); (focus (simp -implicitDefEqProofs (disch:=omega) only [X,zdA,go_sem,simprocAttr]; done))) | ((with_reducible apply vR); focus exact k1 ..) | ((with_reducible apply vE); (focus exact k2); (focus (simp -implicitDefEqProofs (disch:=omega) only [X,zdA,go_sem,simprocAttr]; done))) | ((with_reducible apply vE); (focus (apply k2 <;> omega)); (focus (simp -implicitDefEqProofs (disch:=omega) only [X,zdA,go_sem,simprocAttr]; done))) | ((with_reducible apply vR); focus exact k2 ..) | ((with_reducible apply vE); (focus exact k3); (focus (simp -implicitDefEqProofs (disch:=omega) only [X,zdA,go_sem,simprocAttr]; done))) | ((with_reducible apply vE); (focus (apply k3 <;> omega)); (focus (simp -implicitDefEqProofs (disch:=omega) only [X,zdA,go_sem,simprocAttr]; done))) | ((with_reducible apply vR); focus exact k3 ..) | ((with_reducible apply vE); (focus exact k4); (focus (simp -implicitDefEqProofs (disch:=omega) only [X,zdA,go_sem,simprocAttr]; done))) | ((with_reducible apply vE); (focus (apply k4 <;> omega)); (focus (simp -implicitDefEqProofs (disch:=omega) only [X,zdA,go_sem,simprocAttr]; done))) | ((with_reducible apply vR); focus exact k4 ..)); simp -implicitDefEqProofs (disch:=omega) only [X,go_sem,simprocAttr]) | ((with_reducible apply vA); focus omega) | ((with_reducible apply vI); (focus (intro hr; (try simp only [zdz] at hr); exact hr)); intro hr; have hc:=hr; (try simp only [zdz] at hc); simp -implicitDefEqProofs (disch:=omega) only [hr,X,go_sem,simprocAttr]; (try clear hr))
   any_goals exact vS):p:=(e X k1 k2 k3 k4).1 h
end Go.Vo
namespace Go.Proofs.YtifefbhllfdmlaaGreatDoor
open Go Go.Vo
open Nat (reduceAdd reduceSub reduceMul reduceLeDiff reduceLT reduceEqDiff)
open Int (reduceNeg)
abbrev CT:=Ctr Tryz.prog G0

def vK (n:Int):Bool:=decide (97≤n) && decide (n≤122) || decide (65≤n) && decide (n≤90)
def aQf (n:Int):Bool:=decide (48≤n) && decide (n≤57)

theorem bKm (n:Int): CT 137 [.i .u8 n] (.b (vK n)):=by
 refine aE mixed Tryz.func137 g0 ?_
 · skip
   repeat' (first | refine gT ?_ ?_ | refine gF ?_ ?_ | refine gC ?_ ?_ | (intro hc; simp -implicitDefEqProofs only [hc,go_sem]))
   all_goals (refine aG ?_ (by rfl); simp_all [vK] <;> omega)
theorem bKk (n:Int): CT 207 [.i .u8 n] (.b (vK n)):=by
 refine aE mixed Tryz.func207 g0 ?_
 · skip
   repeat' (first | refine gT ?_ ?_ | refine gF ?_ ?_ | refine gC ?_ ?_ | (intro hc; simp -implicitDefEqProofs only [hc,go_sem]))
   all_goals (refine aG ?_ (by rfl); simp_all [vK] <;> omega)
theorem bKj (n:Int): CT 208 [.i .u8 n] (.b (aQf n)):=by
 refine aE mixed Tryz.func208 g0 ?_
 · skip
   repeat' (first | refine gT ?_ ?_ | refine gF ?_ ?_ | refine gC ?_ ?_ | (intro hc; simp -implicitDefEqProofs only [hc,go_sem]))
   all_goals (refine aG ?_ (by rfl); simp_all [aQf] <;> omega)
def part (n:Int):Bool:=vK n || aQf n || decide (n=95)
theorem bKl (n:Int): CT 138 [.i .u8 n] (.b (part n)):=by
 refine aE mixed Tryz.func138 g0 ?_
 · skip
   repeat' (first | refine gT ?_ ?_ | refine gF ?_ ?_ | refine gC ?_ ?_ | refine aJw (bKm _) ?_; simp -implicitDefEqProofs only [go_sem] | (intro hc; simp -implicitDefEqProofs only [hc,go_sem]))
   all_goals (refine aG ?_ (by rfl); simp_all [part,aQf] <;> omega)

def at_ (s:Str) (k:Nat):Int:=((s.getD k 0).toNat:Int)
def dP (s:Str):Bool := !s.isEmpty && decide (s.length≤40) && vK (at_ s 0) && s.all fun c=>part c.toNat

theorem aHm {s:Str} {q:Int→Bool} (h:∀ j,j < s.length→q (at_ s j)=true):(s.all fun c=>q c.toNat)=true:=by
 rw [aR]
 intro c hc
 obtain ⟨j,hj,rfl⟩:=bV.1 hc
 have:=h j hj
 simpa [at_,hj] using this
theorem kY {s:Str} {q:Int→Bool} {j:Nat} (hj:j < s.length) (h:q (at_ s j)=false):(s.all fun c=>q c.toNat)=false:=by
 rw [H6]
 exact ⟨s[j],uC hj,by simpa [at_,hj] using h⟩

theorem P0 (s:Str) (hs:s.length≤140737488355328): CT 83 [.s s] (.b (dP s)):=by
 refine aE mixed Tryz.func83 g0 ?_
 · skip
   (refine zs1 bKm ?_; repeat' first | exact trivial | refine zJ ?_ ?_ | refine zH fun hc=>?_)
   any_goals (refine aG ?_ (by rfl); simp_all [dP,at_] <;> omega)
   refine bQ (fun (k:Nat)=>[.k,.k,.j,.j,.k,.k,.k,.k,.k,.k,.k,.k,.k,.k,.k,.k,.k,.k,.k,.v (.i .i64 k),.j,.j,.j,.j,.j,.j,.j,.j]) (fun k=>[]) (fun k=>k≤s.length∧∀ j,j < k→part (at_ s j)=true) (fun k=>s.length - k) (0) ⟨aF _,fun j h=>by omega⟩ rfl (by simp [fD]) ?_
   rintro k j ⟨hk,ha⟩
   refine zg ?_
   (refine zs1 bKl ?_; repeat' first | exact trivial | refine zJ ?_ ?_ | refine zH fun hc=>?_)
   · refine aG ?_ (by rfl)
     simp only [dP,kY (show k < s.length by omega) (by simpa [at_] using hc),Bool.and_false]
   · exact ⟨k+1,⟨by omega,bK ha (by simpa [at_] using hc)⟩,by omega,by simp⟩
   · refine aG ?_ (by rfl)
     have h1:k=s.length:=by omega
     simp only [dP,aHm (h1 ▸ ha)]
     simp_all [at_] <;> omega

def aUs (s:Str) (j:Nat):Bool:=vK (at_ s j) || (decide (j ≠ 0) && part (at_ s j))
theorem aOy {s:Str} (h:∀ j,j < s.length→aUs s j=true) (h1:1≤s.length) (h2:s.length≤40):dP s=true:=by
 have h0:=h 0 (by omega)
 have hp:(s.all fun c=>part c.toNat)=true:=aHm (fun j hj=>by
   have:=h j hj
   unfold aUs at this
   simp only [bH,aC] at this
   rcases this with h | h
   · simp [part,h]
   · exact h.2)
 have hl:vK (at_ s 0)=true:=by simpa [aUs] using h0
 have hne:s ≠ []:=by intro h; simp [h] at h1
 simp [dP,hp,hl,h2,hne]
theorem Y3 {s:Str} {j:Nat} (hj:j < s.length) (h:aUs s j=false):dP s=false:=by
 unfold aUs at h
 simp only [jX,mC] at h
 rcases h with ⟨h1,h2 | h2⟩
 · have:j=0:=by simpa using h2
   subst this
   simp [dP,h1]
 · simp [dP,kY hj h2]

theorem O9 (s:Str) (hs:s.length≤140737488355328): CT 161 [.s s] (.b (dP s)):=by
 refine aE mixed Tryz.func161 g0 ?_
 · skip
   refine bQ (fun (k:Nat)=>[.k,.k,.j,.j,.k,.k,.v (.i .i64 k),.j,.j,.j,.j,.j,.j,.j,.j,.j,.j,.j,.j,.j,.j,.j,.j,.j,.j,.j,.j,.j,.j,.j,.j,.j,.k,.k,.k,.k,.k,.k,.k,.k]) (fun k=>[]) (fun k=>k≤s.length∧∀ j,j < k→aUs s j=true) (fun k=>s.length - k) (0) ⟨aF _,fun j h=>by omega⟩ rfl (by simp [fD]) ?_
   rintro k j ⟨hk,ha⟩
   refine zg ?_
   (refine zs2 bKk bKj ?_; repeat' first | exact trivial | refine zJ ?_ ?_ | refine zH fun hc=>?_)
   all_goals first | refine Exists.intro (k+1) ⟨⟨by omega,bK ha (by simp_all [aUs,at_,part] <;> omega)⟩,by omega,by simp⟩ | refine aG ?_ (by rfl)
   · rw [Y3 (j:=k) (by omega) (by simp_all [aUs,at_,part] <;> omega)]
   · rw [Y3 (j:=k) (by omega) (by simp_all [aUs,at_,part] <;> omega)]
   · have h1:k=s.length:=by omega
     by_cases h2:s.length≤40
     · rw [aOy (h1 ▸ ha) (by omega) h2]; simp; omega
     · have e1:dP s=false:=by simp [dP,h2]
       rw [e1]; congr 1; symm; simp; omega
   · have:s=[]:=List.eq_nil_of_length_eq_zero (by omega)
     simp [this,dP]
def oO (s:Str):Bool:=decide (2 < s.length) && decide (at_ s (s.length - 2)=39) && decide (49≤at_ s (s.length - 1)) && decide (at_ s (s.length - 1)≤56)
def tZ (s:Str):Str:=if oO s then s.take (s.length - 2) else s
def frame (s:Str):Str:=if oO s then s.drop (s.length - 2) else []
theorem bAw (s:Str) (hs:s.length≤140737488355328): CT 146 [.s s] (.tup [.s (tZ s),.s (frame s)]):=by
 refine aE mixed Tryz.func146 g0 ?_
 · skip
   (refine zs0 ?_; repeat' first | exact trivial | refine zJ ?_ ?_ | refine zH fun hc=>?_)
   all_goals (refine aG ?_ (by rfl))
   · have h:oO s=true:=by simp_all [oO,at_] <;> omega
     simp [tZ,frame,h]
   all_goals (have h:oO s=false:=by simp_all [oO,at_] <;> omega)
   all_goals simp [tZ,frame,h]
theorem bMy (s:Str) (hs:s.length≤140737488355328): CT 209 [.s s] (.tup [.s (tZ s),.s (frame s)]):=by
 refine aE mixed Tryz.func209 g0 ?_
 · skip
   (refine zs0 ?_; repeat' first | exact trivial | refine zJ ?_ ?_ | refine zH fun hc=>?_)
   all_goals (refine aG ?_ (by rfl))
   · have h:oO s=true:=by simp_all [oO,at_] <;> omega
     simp [tZ,frame,h]
   all_goals (have h:oO s=false:=by simp_all [oO,at_] <;> omega)
   all_goals simp [tZ,frame,h]
theorem P5 (s:Str):(tZ s).length≤s.length:=by unfold tZ; split <;> simp <;> omega
theorem bAu (s:Str) (hs:s.length≤140737488355328): CT 165 [.s s] (.b (dP (tZ s))):=by
 refine aE mixed Tryz.func165 g0 ?_
 · skip
   (repeat' (first | refine gT ?_ ?_ | refine gF ?_ ?_ | refine gC ?_ ?_ | (refine cE (bMy s hs) ?_; simp -implicitDefEqProofs (disch:=omega) only [go_sem,simprocAttr]) | (refine aJw (O9 _ (eK (P5 s) hs)) ?_; simp -implicitDefEqProofs (disch:=omega) only [go_sem,simprocAttr]) | refine aK (by omega) ?_ | (intro hr; have hc:=hr; (try simp only [zdz] at hc); simp -implicitDefEqProofs (disch:=omega) only [hr,go_sem,simprocAttr]; (try clear hr))))
   refine aG ?_ (by rfl); rfl
theorem aCz {l:List Str} {s:Str} {k:Nat} (hk:k < l.length) (h:l.getD k []=s):l.contains s=true:=by
 have h1:l[k]? = some s:=by simpa [List.getD,hk] using h
 simpa using cL h1
theorem W7 {l:List Str} {s:Str} (h:∀ j,j < l.length→l.getD j [] ≠ s):l.contains s=false:=by
 have:s ∉ l:=by
   intro hm
   obtain ⟨j,hj,he⟩:=bV.1 hm
   exact h j hj (by simp [List.getD,hj,he])
 simpa using this
theorem yK (l:List Str) (s:Str) (hl:l.length≤140737488355328): CT 162 [avs l,.s s] (.b (l.contains s)):=by
 refine cQ mixed Tryz.func162 g0 ?_
 · simp -implicitDefEqProofs (disch:=omega) only [Tryz.f162,go_sem,List.replicate,simprocAttr,avs]
   refine bQ (fun (k:Nat)=>[.k,.k,.k,.k,.j,.k,.j,.k,.k,.v (.i .i64 k),.j,.j,.j,.j,.j,.j,.j]) (fun k=>[]) (fun k=>k≤l.length∧∀ j,j < k→l.getD j [] ≠ s) (fun k=>l.length - k) (0) ⟨aF _,fun j h=>by omega⟩ rfl (by simp [fD]) ?_
   rintro k j ⟨hk,ha⟩
   refine zg ?_
   (refine zs0 ?_; repeat' first | exact trivial | refine zJ ?_ ?_ | refine zH fun hc=>?_)
   · refine aG ?_ (by rfl)
     rw [aCz (k:=k) (by omega) (by assumption)]
   · exact ⟨k+1,⟨by omega,bK ha (by assumption)⟩,by omega,by simp⟩
   · refine aG ?_ (by rfl)
     have h1:k=l.length:=by omega
     rw [W7 (h1 ▸ ha)]

def gA:List Str:=[[65,110,121],[73,110,116],[66,111,111,108],[84,101,120,116],[73,100],[76,105,115,116],[77,97,112]]
theorem bKx:CT 85 [] (.own 1 (gA.map .s) gA.length):=by
 refine aE mixed Tryz.func85 g0 ?_
 · skip
   exact O3 rfl rfl rfl rfl rfl
def oT:List Str:=[[65,110,121],[66,111,111,108],[73,100],[73,110,116],[76,105,115,116],[77,97,112],[84,101,120,116]]
theorem bFm:CT 163 [] (.own 1 (oT.map .s) oT.length):=by
 refine aE mixed Tryz.func163 g0 ?_
 · skip
   exact O3 rfl rfl rfl rfl rfl

def idx {α:Type} (p:α→Bool) (l:List α):Int:=match l.findIdx? p with | some i=>i | none => -1
theorem oD {α:Type} {p:α→Bool} {l:List α} {d:α} {k:Nat} (hk:k < l.length) (h:p (l.getD k d)=true) (hn:∀ j,j < k→p (l.getD j d)=false):idx p l=k:=by
 have:l.findIdx? p=some k:=by
   rw [gH]
   refine ⟨hk,by simpa [List.getD,hk] using h,fun j hj=>?_⟩
   have:=hn j hj
   simpa [List.getD,show j < l.length by omega] using this
 simp [idx,this]
theorem oE {α:Type} {p:α→Bool} {l:List α} {d:α} (hn:∀ j,j < l.length→p (l.getD j d)=false):idx p l = -1:=by
 have:l.findIdx? p=none:=by
   rw [eV]
   intro x hx
   obtain ⟨j,hj,rfl⟩:=bV.1 hx
   have:=hn j hj
   simpa [List.getD,hj] using this
 simp [idx,this]
theorem rV {α:Type} {p:α→Bool} {l:List α}:decide (0≤idx p l)=l.any p:=by
 unfold idx
 cases h:l.findIdx? p with
 | none=>
   rw [eV] at h
   have:l.any p=false:=by rw [mP]; intro x hx; simp [h x hx]
   rw [this]; rfl
 | some i=>
   rw [gH] at h
   obtain ⟨hi,hp,_⟩:=h
   have:l.any p=true:=uD.2 ⟨_,uC hi,hp⟩
   rw [this]; simp
theorem bNu (l:List Str) (s:Str) (hl:l.length≤140737488355328): CT 139 [avs l,.s s] (.i .i64 (idx (fun x=>decide (s=x)) l)):=by
 refine cQ mixed Tryz.func139 g0 ?_
 · simp -implicitDefEqProofs (disch:=omega) only [Tryz.f139,go_sem,List.replicate,simprocAttr,avs]
   refine bQ (fun (k:Nat)=>[.k,.k,.k,.k,.j,.j,.k,.k,.v (.i .i64 k),.j,.j,.j,.j,.j,.j,.j,.j,.j,.j]) (fun k=>[]) (fun k=>k≤l.length∧∀ j,j < k→decide (s=l.getD j [])=false) (fun k=>l.length - k) (0) ⟨aF _,fun j h=>by omega⟩ rfl (by simp [fD]) ?_
   rintro k j ⟨hk,ha⟩
   refine zg ?_
   (refine zs0 ?_; repeat' first | exact trivial | refine zJ ?_ ?_ | refine zH fun hc=>?_)
   · refine aG ?_ (by rfl)
     rw [oD (d:=[]) (k:=k) (by omega) (by simpa using hc) ha]
   · exact ⟨k+1,⟨by omega,bK ha (by simpa using hc)⟩,by omega,by simp⟩
   · refine aG ?_ (by rfl)
     have h1:k=l.length:=by omega
     rw [oE (h1 ▸ ha)]
theorem Y5 {s:Str} {l:List Str}:decide (0≤idx (fun x=>decide (s=x)) l)=l.contains s:=by
 rw [rV,List.contains_eq_any_beq]
 congr 1
 funext x
 exact cT.2 (by simp)
theorem G9 (l:List Str) (s:Str) (hl:l.length≤140737488355328): CT 84 [avs l,.s s] (.b (l.contains s)):=by
 refine cQ mixed Tryz.func84 g0 ?_
 · simp -implicitDefEqProofs (disch:=omega) only [Tryz.f84,go_sem,List.replicate,simprocAttr,avs]
   (refine zs1 (bNu l s hl) ?_; repeat' first | exact trivial | refine zJ ?_ ?_ | refine zH fun hc=>?_)
   refine aG ?_ (by rfl)
   rw [Y5]
theorem aEi {l m:List Str} (hl:l.length=m.length) (h:∀ j,j < l.length→l.getD j []=m.getD j []):l=m:=by
 apply List.ext_getElem hl
 intro j h1 h2
 have:=h j h1
 simpa [List.getD,h1,h2] using this
theorem bKp (l m:List Str) (hl:l.length≤140737488355328) (hm:m.length≤140737488355328): CT 212 [avs l,avs m] (.b (decide (l=m))):=by
 refine cQ mixed Tryz.func212 g0 ?_
 · simp -implicitDefEqProofs (disch:=omega) only [Tryz.f212,go_sem,List.replicate,simprocAttr,avs]
   (refine zs0 ?_; repeat' first | exact trivial | refine zJ ?_ ?_ | refine zH fun hc=>?_)
   · refine aG ?_ (by rfl)
     have:l ≠ m:=fun h=>hc (by rw [h])
     rw [zf this]
   refine bQ (fun (k:Nat)=>[.k,.k,.k,.k,.j,.j,.k,.k,.k,.k,.k,.k,.k,.v (.i .i64 k),.j,.j,.j,.j,.j,.j,.j,.j,.j,.j,.j,.j]) (fun k=>[]) (fun k=>k≤l.length∧∀ j,j < k→l.getD j []=m.getD j []) (fun k=>l.length - k) (0) ⟨aF _,fun j h=>by omega⟩ rfl (by simp [fD]) ?_
   rintro k j ⟨hk,ha⟩
   refine zg ?_
   (refine zs0 ?_; repeat' first | exact trivial | refine zJ ?_ ?_ | refine zH fun hc=>?_)
   · refine aG ?_ (by rfl)
     have:l ≠ m:=fun h=>by simp [h] at *
     rw [zf this]
   · exact ⟨k+1,⟨by omega,bK ha (by simpa using hc)⟩,by omega,by simp⟩
   · refine aG ?_ (by rfl)
     have:l=m:=aEi (by omega) (fun j hj=>ha j (by omega))
     rw [zt this]
theorem bKo (l m:List Str) (hl:l.length≤140737488355328) (hm:m.length≤140737488355328): CT 199 [avs l,avs m] (.b (decide (l=m))):=by
 refine cQ mixed Tryz.func199 g0 ?_
 · simp -implicitDefEqProofs (disch:=omega) only [Tryz.f199,go_sem,List.replicate,simprocAttr,avs]
   (refine zs0 ?_; repeat' first | exact trivial | refine zJ ?_ ?_ | refine zH fun hc=>?_)
   · refine aG ?_ (by rfl)
     have:l ≠ m:=fun h=>hc (by rw [h])
     rw [zf this]
   refine bQ (fun (k:Nat)=>[.k,.k,.k,.k,.j,.j,.k,.k,.k,.k,.k,.k,.k,.v (.i .i64 k),.j,.j,.j,.j,.j,.j,.j,.j,.j,.j,.j,.j]) (fun k=>[]) (fun k=>k≤l.length∧∀ j,j < k→l.getD j []=m.getD j []) (fun k=>l.length - k) (0) ⟨aF _,fun j h=>by omega⟩ rfl (by simp [fD]) ?_
   rintro k j ⟨hk,ha⟩
   refine zg ?_
   (refine zs0 ?_; repeat' first | exact trivial | refine zJ ?_ ?_ | refine zH fun hc=>?_)
   · refine aG ?_ (by rfl)
     have:l ≠ m:=fun h=>by simp [h] at *
     rw [zf this]
   · exact ⟨k+1,⟨by omega,bK ha (by simpa using hc)⟩,by omega,by simp⟩
   · refine aG ?_ (by rfl)
     have:l=m:=aEi (by omega) (fun j hj=>ha j (by omega))
     rw [zt this]
theorem aFf {l:List Str} {k:Nat} (hn:l.Nodup) (hk:k < l.length):(l.take k).contains (l.getD k [])=false:=by
 have:l.getD k [] ∉ l.take k:=by
   intro hm
   obtain ⟨j,hj,he⟩:=bV.1 hm

   have:=(eC.1 hn) j k (by simp at hj; omega) hk (by simp at hj; omega)
   simp [List.getD,hk] at he
   exact this he
 simpa using this
theorem aFe {l:List Str} (h:∀ j,j < l.length→(l.take j).contains (l.getD j [])=false):l.Nodup:=by
 refine eC.2 (fun i j hi hj hij he=>?_)
 have:=h j hj
 have hm:l.getD j [] ∈ l.take j:=by
   rw [bV]
   exact ⟨i,by simp; omega,by simp [List.getD,hj,he]⟩
 have h2:(l.take j).contains (l.getD j [])=true:=by simpa using hm
 rw [h2] at this; cases this
theorem aWk (l:List Str) (hl:l.length≤140737488355328): CT 106 [avs l] (.b (decide l.Nodup)):=by
 refine cQ mixed Tryz.func106 g0 ?_
 · simp -implicitDefEqProofs (disch:=omega) only [Tryz.f106,go_sem,List.replicate,simprocAttr,avs]
   refine bQ (fun (k:Nat)=>[.k,.k,.j,.j,.k,.k,.v (.i .i64 k),.j,.j,.j,.j,.j,.j,.j,.j,.j,.j,.j]) (fun k=>[]) (fun k=>k≤l.length∧∀ j,j < k→(l.take j).contains (l.getD j [])=false) (fun k=>l.length - k) (0) ⟨aF _,fun j h=>by omega⟩ rfl (by simp [fD]) ?_
   rintro k j ⟨hk,ha⟩
   refine zg ?_
   (refine zs1 (yK (l.take k) (l.getD k []) (by simp; omega)) ?_; repeat' first | exact trivial | refine zJ ?_ ?_ | refine zH fun hc=>?_)
   · refine aG ?_ (by rfl)
     rw [zf (fun hn=>by rw [aFf hn (by omega)] at hc; cases hc)]
   · exact ⟨k+1,⟨by omega,bK ha hc⟩,by omega,by simp⟩
   · refine aG ?_ (by rfl)
     have h1:k=l.length:=by omega
     rw [zt (aFe (h1 ▸ ha))]

def iF:List Str:=[[97,100,100],[97,110,100],[99,97,116],[100,101,108],[100,105,118],[101,113],[103,101],[103,101,116],[103,116],[104,97,115],[105,115],[105,115,118,97,108,117,101],[106,111,105,110],[107,101,121,115],[108,101],[108,101,110,103,116,104],[108,116],[109,111,100],[109,117,108],[110,101],[110,101,103],[110,111,116],[111,114],[112,105,99,107],[112,117,116],[115,105,122,101],[115,117,98],[116,101,120,116]]
theorem bSq:CT 210 [] (.own 1 (iF.map .s) iF.length):=by
 refine aE mixed Tryz.func210 g0 ?_
 · skip
   exact O3 rfl rfl rfl rfl rfl
theorem bFr (s:Str): CT 166 [.s s] (.b (iF.contains s)):=by
 refine aE mixed Tryz.func166 g0 ?_
 · skip
   (refine zs2 bSq (yK iF s (by decide)) ?_; repeat' first | exact trivial | refine zJ ?_ ?_ | refine zH fun hc=>?_)
   refine aG ?_ (by rfl)
   rfl
def iN (s:cI) (a:Str):Bool:=oT.contains a || s.sorts.contains a
theorem aWl (s:cI) (a:Str) (hs:s.sorts.length≤140737488355328): CT 105 [.agg (bB s),.s a] (.b (iN s a)):=by
 refine cQ mixed Tryz.func105 g0 ?_
 · simp -implicitDefEqProofs (disch:=omega) only [Tryz.f105,go_sem,List.replicate,simprocAttr,bB,avs]
   (refine zs3 bFm (yK oT a (by decide)) (yK s.sorts a hs) ?_; repeat' first | exact trivial | refine zJ ?_ ?_ | refine zH fun hc=>?_)
   all_goals (refine aG ?_ (by rfl))
   all_goals simp_all [iN]

theorem aUk:∀ {l:List AV},persL l=true→∀ x ∈ l,pers x=true:=by
 intro l h x hx
 obtain ⟨j,hj,rfl⟩:=bV.1 hx
 exact hJ h j _ (by simp [hj])
theorem pB {h:List AObj} {l:List AV} (hl:persL l=true):l.map (gB dep h)=l:=by
 have:l.map (gB dep h)=l.map id:=kN (fun x hx=>by rw [gO,if_pos (aUk hl x hx)]; rfl)
 rw [this,List.map_id]
theorem bNf (l:List Str) (f:FuncId) (a b:List AV) (p:Str→Bool) (hl:l.length≤140737488355328) (ha:persL a=true) (hb:persL b=true) (hw:∀ k,k < l.length→CT f (a++[.s (l.getD k [])]++b) (.b (p (l.getD k [])))): CT 193 [avs l,.fn f a b] (.i .i64 (idx p l)):=by
 refine cQ mixed Tryz.func193 g0 ?_
 · simp -implicitDefEqProofs (disch:=omega) only [Tryz.f193,go_sem,List.replicate,simprocAttr,avs]
   refine bQ (fun (k:Nat)=>[.k,.k,.k,.k,.j,.j,.k,.k,.v (.i .i64 k),.j,.j,.j,.j,.j,.j,.j,.j,.j,.j]) (fun k=>[]) (fun k=>k≤l.length∧∀ j,j < k→p (l.getD j [])=false) (fun k=>l.length - k) (0) ⟨aF _,fun j h=>by omega⟩ rfl (by simp [fD]) ?_
   rintro k j ⟨hk,hn⟩
   refine zg ?_
   (refine zs0 ?_; repeat' first | exact trivial | refine zJ ?_ ?_ | refine zH fun hc=>?_)
   · refine aY (hw k (by omega)) ?_ ?_
     · exact zv (zA2 @aV.{0,0} (zA2 (fun h=>pB (h:=h) ha) (fun h=>pB (h:=h) hb)))
     · refine zg ?_
       (refine zs0 ?_; repeat' first | exact trivial | refine zJ ?_ ?_ | refine zH fun hc=>?_)
       · refine aG ?_ (by rfl)
         rw [oD (d:=[]) (k:=k) (by omega) hc hn]
       · exact ⟨k+1,⟨by omega,bK hn hc⟩,by omega,by simp⟩
   · refine aG ?_ (by rfl)
     have h1:k=l.length:=by omega
     rw [oE (h1 ▸ hn)]
theorem bNt (l:List Str) (f:FuncId) (a b:List AV) (p:Str→Bool) (hl:l.length≤140737488355328) (ha:persL a=true) (hb:persL b=true) (hw:∀ k,k < l.length→CT f (a++[.s (l.getD k [])]++b) (.b (p (l.getD k [])))): CT 140 [avs l,.fn f a b] (.b (l.any p)):=by
 refine cQ mixed Tryz.func140 g0 ?_
 · simp -implicitDefEqProofs (disch:=omega) only [Tryz.f140,go_sem,List.replicate,simprocAttr,avs]
   refine aY (bNf l f a b p hl ha hb hw) ?_ ?_
   · exact zv (zA2 @avs.eq_1 (zA2 ha hb))
   · refine zg ?_
     refine aG ?_ (by rfl)
     rw [rV]

theorem bNs (x:Str) (f:FuncId) (a b:List AV) (p:Bool) (ha:persL a=true) (hb:persL b=true) (hw:CT f (a++[.s x]++b) (.b p)): CT 141 [.s x,.box [.fn f a b] 0] (.b (!p)):=by
 refine aE mixed Tryz.func141 g0 ?_
 · skip
   refine aY hw ?_ ?_
   · exact zv (zA2 @aV.{0,0} (zA2 (fun h=>pB (h:=h) ha) (fun h=>pB (h:=h) hb)))
   · refine zg ?_
     refine aG ?_ (by rfl)
     rfl
theorem aWm (l:List Str) (f:FuncId) (a b:List AV) (p:Str→Bool) (hl:l.length≤140737488355328) (ha:persL a=true) (hb:persL b=true) (hw:∀ k,k < l.length→CT f (a++[.s (l.getD k [])]++b) (.b (p (l.getD k [])))): CT 86 [avs l,.fn f a b] (.b (l.all p)):=by
 refine cQ mixed Tryz.func86 g0 ?_
 · simp -implicitDefEqProofs (disch:=omega) only [Tryz.f86,go_sem,List.replicate,↓reduceIte,reduceAdd,reduceSub,reduceMul,reduceLeDiff,reduceLT,reduceEqDiff,reduceNeg,Nat.reduceBEq,avs]
   refine aY (bNt l 141 [] [.box [.fn f a b] 0] (fun x => !p x) hl rfl (by simp [persL,pers,ha,hb]) (fun k hk=>bNs _ f a b _ ha hb (hw k hk))) ?_ ?_
   · exact zv (zA2 @avs.eq_1 (zA2 ha hb))
   · refine zh (zA2 ha hb) ?_
     refine aG ?_ (by rfl)
     rw [qX]

theorem bTc (s:Str) (hs:s.length≤140737488355328): CT 82 [.s s] (.b (dP s && !gA.contains s)):=by
 refine aE mixed Tryz.func82 g0 ?_
 · skip
   (refine zs3 (P0 s hs) bKx (G9 gA s (by decide)) ?_; repeat' first | exact trivial | refine zJ ?_ ?_ | refine zH fun hc=>?_)
   all_goals (refine aG ?_ (by rfl))
   all_goals simp_all

theorem L9 {P:Program} {T:TypeId} (hT:P.underlying T=some .string) {x:Str}:∀ (l:List Str),eE P T (.s x) (l.map .s)=some (l.findIdx? fun y=>decide (x=y))
 | []=>rfl
 | y::l=>by
   simp only [aZ,eE,aEq,jO,hT,L9 hT l,jK]
   cases h:decide (x=y) <;> simp
theorem sP {x:Str} {l:List Str} (h:l.contains x=false):(l.findIdx? fun y=>decide (x=y))=none:=by
 rw [eV]
 intro y hy
 have:x ∉ l:=by simpa using h
 simp only [decide_eq_false_iff_not]
 exact fun he=>this (he ▸ hy)
theorem aSn (x:Str) (l:List Str):eE Tryz.prog 9 (.s x) (l.map .s)=some (l.findIdx? fun y=>decide (x=y)):=L9 un9 l
theorem aCv {x:Str} {l:List Str} (h:l.contains x=true):∃ i,i < l.length∧(l.findIdx? fun y=>decide (x=y))=some i:=by
 cases hf:l.findIdx? fun y=>decide (x=y) with
 | none=>
   rw [eV] at hf
   have hm:x ∈ l:=by simpa using h
   have:=hf x hm
   simp at this
 | some i=>
   rw [gH] at hf
   exact ⟨i,hf.1,rfl⟩
theorem aLk {l:List Str} {k:Nat} (h:k < l.length):l.take (k+1)=l.take k++[l.getD k []]:=by
 rw [rH h]; simp [List.getD,h]
theorem aBp {n i:Nat} {a:AV} (h:i < n):(List.replicate n a)[i]? = some a:=by simp [h]
theorem bFp (l:List Str) (hl:l.length≤140737488355328): CT 81 [avs l] (.b (decide l.Nodup)):=by
 refine cQ mixed Tryz.func81 g0 ?_
 · simp -implicitDefEqProofs (disch:=omega) only [Tryz.f81,go_sem,List.replicate,simprocAttr,avs]
   refine bQ (fun (k:Nat)=>[.k,.k,.j,.k,.k,.j,.k,.k,.k,.v (.i .i64 k),.j,.j,.j,.j,.j,.j,.j,.j,.j]) (fun k=>[.map false ((l.take k).map .s) (List.replicate k (.b true))]) (fun k=>k≤l.length∧∀ j,j < k→(l.take j).contains (l.getD j [])=false) (fun k=>l.length - k) (0) ⟨aF _,fun j h=>by omega⟩ rfl (by simp [fD]) ?_
   rintro k j ⟨hk,ha⟩
   refine zg ?_
   (refine zs0 ?_; repeat' first | exact trivial | refine zJ ?_ ?_ | refine zH fun hc=>?_)
   · by_cases hx:(l.take k).contains (l.getD k [])=true
     · obtain ⟨i,hi,hf⟩:=aCv hx
       have hi':i < k:=by simp at hi; omega
       simp -implicitDefEqProofs (disch:=omega) only [nD,aSn,hf,aBp hi',go_sem,simprocAttr]
       refine aG ?_ (by rfl)
       rw [zf (fun hn=>by rw [aFf hn (by omega)] at hx; cases hx)]
     · have hx:=dV.2 hx
       simp -implicitDefEqProofs (disch:=omega) only [nD,aSn,sP hx,go_sem,simprocAttr]
       refine ⟨k+1,⟨by omega,bK ha hx⟩,by omega,?_,by simp⟩
       rw [aLk (by omega),aV,aKo]; rfl
   · refine aG ?_ (by rfl)
     have h1:k=l.length:=by omega
     rw [zt (aFe (h1 ▸ ha))]

def elB (x:Str × Str):AV:=.agg (aQ x)
def elO (x:LOp):AV:=.agg (aI x)
attribute [go_sem] elB elO
theorem bNd (l:List (Str × Str)) (f:FuncId) (a b:List AV) (p:Str × Str→Bool) (hl:l.length≤140737488355328) (ha:persL a=true) (hb:persL b=true) (hw:∀ k,k < l.length→CT f (a++[elB (l.getD k ([],[]))]++b) (.b (p (l.getD k ([],[]))))): CT 194 [avb l,.fn f a b] (.i .i64 (idx p l)):=by
 refine aE mixed Tryz.func194 g0 ?_
 · skip
   refine bQ (fun (k:Nat)=>[.k,.k,.k,.k,.j,.j,.k,.k,.v (.i .i64 k),.j,.j,.j,.j,.j,.j,.j,.j,.j,.j]) (fun k=>[]) (fun k=>k≤l.length∧∀ j,j < k→p (l.getD j ([],[]))=false) (fun k=>l.length - k) (0) ⟨aF _,fun j h=>by omega⟩ rfl (by simp [fD]) ?_
   rintro k j ⟨hk,hn⟩
   refine zg ?_
   (refine zs0 ?_; repeat' first | exact trivial | refine zJ ?_ ?_ | refine zH fun hc=>?_)
   · refine aY (hw k (by omega)) ?_ ?_
     · exact zv (zA2 @aV.{0,0} (zA2 (fun h=>pB (h:=h) ha) (fun h=>pB (h:=h) hb)))
     · refine zg ?_
       (refine zs0 ?_; repeat' first | exact trivial | refine zJ ?_ ?_ | refine zH fun hc=>?_)
       · refine aG ?_ (by rfl)
         rw [oD (d:=([],[])) (k:=k) (by omega) hc hn]
       · exact ⟨k+1,⟨by omega,bK hn hc⟩,by omega,by simp⟩
   · refine aG ?_ (by rfl)
     have h1:k=l.length:=by omega
     rw [oE (h1 ▸ hn)]
theorem bNc (l:List (LOp)) (f:FuncId) (a b:List AV) (p:LOp→Bool) (hl:l.length≤140737488355328) (ha:persL a=true) (hb:persL b=true) (hw:∀ k,k < l.length→CT f (a++[elO (l.getD k default)]++b) (.b (p (l.getD k default)))): CT 195 [avo l,.fn f a b] (.i .i64 (idx p l)):=by
 refine aE mixed Tryz.func195 g0 ?_
 · skip
   refine bQ (fun (k:Nat)=>[.k,.k,.k,.k,.j,.j,.k,.k,.v (.i .i64 k),.j,.j,.j,.j,.j,.j,.j,.j,.j,.j]) (fun k=>[]) (fun k=>k≤l.length∧∀ j,j < k→p (l.getD j default)=false) (fun k=>l.length - k) (0) ⟨aF _,fun j h=>by omega⟩ rfl (by simp [fD]) ?_
   rintro k j ⟨hk,hn⟩
   refine zg ?_
   (refine zs0 ?_; repeat' first | exact trivial | refine zJ ?_ ?_ | refine zH fun hc=>?_)
   · refine aY (hw k (by omega)) ?_ ?_
     · exact zv (zA2 @aV.{0,0} (zA2 (fun h=>pB (h:=h) ha) (fun h=>pB (h:=h) hb)))
     · refine zg ?_
       (refine zs0 ?_; repeat' first | exact trivial | refine zJ ?_ ?_ | refine zH fun hc=>?_)
       · refine aG ?_ (by rfl)
         rw [oD (d:=default) (k:=k) (by omega) hc hn]
       · exact ⟨k+1,⟨by omega,bK hn hc⟩,by omega,by simp⟩
   · refine aG ?_ (by rfl)
     have h1:k=l.length:=by omega
     rw [oE (h1 ▸ hn)]
theorem bMw (l:List (Int)) (f:FuncId) (a b:List AV) (p:Int→Bool) (hl:l.length≤140737488355328) (ha:persL a=true) (hb:persL b=true) (hw:∀ k,k < l.length→CT f (a++[.i .i64 (l.getD k 0)]++b) (.b (p (l.getD k 0)))): CT 153 [avi l,.fn f a b] (.i .i64 (idx p l)):=by
 refine aE mixed Tryz.func153 g0 ?_
 · skip
   refine bQ (fun (k:Nat)=>[.k,.k,.k,.k,.j,.j,.k,.k,.v (.i .i64 k),.j,.j,.j,.j,.j,.j,.j,.j,.j,.j]) (fun k=>[]) (fun k=>k≤l.length∧∀ j,j < k→p (l.getD j 0)=false) (fun k=>l.length - k) (0) ⟨aF _,fun j h=>by omega⟩ rfl (by simp [fD]) ?_
   rintro k j ⟨hk,hn⟩
   refine zg ?_
   (refine zs0 ?_; repeat' first | exact trivial | refine zJ ?_ ?_ | refine zH fun hc=>?_)
   · refine aY (hw k (by omega)) ?_ ?_
     · exact zv (zA2 @aV.{0,0} (zA2 (fun h=>pB (h:=h) ha) (fun h=>pB (h:=h) hb)))
     · refine zg ?_
       (refine zs0 ?_; repeat' first | exact trivial | refine zJ ?_ ?_ | refine zH fun hc=>?_)
       · refine aG ?_ (by rfl)
         rw [oD (d:=0) (k:=k) (by omega) hc hn]
       · exact ⟨k+1,⟨by omega,bK hn hc⟩,by omega,by simp⟩
   · refine aG ?_ (by rfl)
     have h1:k=l.length:=by omega
     rw [oE (h1 ▸ hn)]

theorem bNp (l:List (Str × Str)) (f:FuncId) (a b:List AV) (p:Str × Str→Bool) (hl:l.length≤140737488355328) (ha:persL a=true) (hb:persL b=true) (hw:∀ k,k < l.length→CT f (a++[elB (l.getD k ([],[]))]++b) (.b (p (l.getD k ([],[]))))): CT 142 [avb l,.fn f a b] (.b (l.any p)):=by
 refine aE mixed Tryz.func142 g0 ?_
 · skip
   refine aY (bNd l f a b p hl ha hb hw) ?_ ?_
   · exact zv (zA2 ha hb)
   · refine zg ?_
     refine aG ?_ (by rfl)
     rw [rV]
theorem bNn (l:List (LOp)) (f:FuncId) (a b:List AV) (p:LOp→Bool) (hl:l.length≤140737488355328) (ha:persL a=true) (hb:persL b=true) (hw:∀ k,k < l.length→CT f (a++[elO (l.getD k default)]++b) (.b (p (l.getD k default)))): CT 144 [avo l,.fn f a b] (.b (l.any p)):=by
 refine aE mixed Tryz.func144 g0 ?_
 · skip
   refine aY (bNc l f a b p hl ha hb hw) ?_ ?_
   · exact zv (zA2 ha hb)
   · refine zg ?_
     refine aG ?_ (by rfl)
     rw [rV]
theorem bNb (l:List (Int)) (f:FuncId) (a b:List AV) (p:Int→Bool) (hl:l.length≤140737488355328) (ha:persL a=true) (hb:persL b=true) (hw:∀ k,k < l.length→CT f (a++[.i .i64 (l.getD k 0)]++b) (.b (p (l.getD k 0)))): CT 96 [avi l,.fn f a b] (.b (l.any p)):=by
 refine aE mixed Tryz.func96 g0 ?_
 · skip
   refine aY (bMw l f a b p hl ha hb hw) ?_ ?_
   · exact zv (zA2 ha hb)
   · refine zg ?_
     refine aG ?_ (by rfl)
     rw [rV]

theorem bNo (x:Str × Str) (f:FuncId) (a b:List AV) (p:Bool) (ha:persL a=true) (hb:persL b=true) (hw:CT f (a++[elB x]++b) (.b p)): CT 143 [elB x,.box [.fn f a b] 0] (.b (!p)):=by
 refine aE mixed Tryz.func143 g0 ?_
 · skip
   refine aY hw ?_ ?_
   · exact zv (zA2 @aV.{0,0} (zA2 (fun h=>pB (h:=h) ha) (fun h=>pB (h:=h) hb)))
   · refine zg ?_
     refine aG ?_ (by rfl)
     rfl
theorem bNm (x:LOp) (f:FuncId) (a b:List AV) (p:Bool) (ha:persL a=true) (hb:persL b=true) (hw:CT f (a++[elO x]++b) (.b p)): CT 145 [elO x,.box [.fn f a b] 0] (.b (!p)):=by
 refine aE mixed Tryz.func145 g0 ?_
 · skip
   refine aY hw ?_ ?_
   · exact zv (zA2 @aV.{0,0} (zA2 (fun h=>pB (h:=h) ha) (fun h=>pB (h:=h) hb)))
   · refine zg ?_
     refine aG ?_ (by rfl)
     rfl
theorem bNa (x:Int) (f:FuncId) (a b:List AV) (p:Bool) (ha:persL a=true) (hb:persL b=true) (hw:CT f (a++[.i .i64 x]++b) (.b p)): CT 197 [.i .i64 x,.box [.fn f a b] 0] (.b (!p)):=by
 refine aE mixed Tryz.func197 g0 ?_
 · skip
   refine aY hw ?_ ?_
   · exact zv (zA2 @aV.{0,0} (zA2 (fun h=>pB (h:=h) ha) (fun h=>pB (h:=h) hb)))
   · refine zg ?_
     refine aG ?_ (by rfl)
     rfl

theorem bTb (l:List (Str × Str)) (f:FuncId) (a b:List AV) (p:Str × Str→Bool) (hl:l.length≤140737488355328) (ha:persL a=true) (hb:persL b=true) (hw:∀ k,k < l.length→CT f (a++[elB (l.getD k ([],[]))]++b) (.b (p (l.getD k ([],[]))))): CT 88 [avb l,.fn f a b] (.b (l.all p)):=by
 refine aE mixed Tryz.func88 g0 ?_
 · skip
   refine aY (bNp l 143 [] [.box [.fn f a b] 0] (fun x => !p x) hl rfl (by simp [persL,pers,ha,hb]) (fun k hk=>bNo _ f a b _ ha hb (hw k hk))) ?_ ?_
   · exact zv (zA2 ha hb)
   · refine zh (zA2 ha hb) ?_
     refine aG ?_ (by rfl)
     rw [qX]
theorem bKr (l:List (LOp)) (f:FuncId) (a b:List AV) (p:LOp→Bool) (hl:l.length≤140737488355328) (ha:persL a=true) (hb:persL b=true) (hw:∀ k,k < l.length→CT f (a++[elO (l.getD k default)]++b) (.b (p (l.getD k default)))): CT 91 [avo l,.fn f a b] (.b (l.all p)):=by
 refine aE mixed Tryz.func91 g0 ?_
 · skip
   refine aY (bNn l 145 [] [.box [.fn f a b] 0] (fun x => !p x) hl rfl (by simp [persL,pers,ha,hb]) (fun k hk=>bNm _ f a b _ ha hb (hw k hk))) ?_ ?_
   · exact zv (zA2 ha hb)
   · refine zh (zA2 ha hb) ?_
     refine aG ?_ (by rfl)
     rw [qX]
theorem bNk (l:List (Int)) (f:FuncId) (a b:List AV) (p:Int→Bool) (hl:l.length≤140737488355328) (ha:persL a=true) (hb:persL b=true) (hw:∀ k,k < l.length→CT f (a++[.i .i64 (l.getD k 0)]++b) (.b (p (l.getD k 0)))): CT 149 [avi l,.fn f a b] (.b (l.all p)):=by
 refine aE mixed Tryz.func149 g0 ?_
 · skip
   refine aY (bNb l 197 [] [.box [.fn f a b] 0] (fun x => !p x) hl rfl (by simp [persL,pers,ha,hb]) (fun k hk=>bNa _ f a b _ ha hb (hw k hk))) ?_ ?_
   · exact zv (zA2 ha hb)
   · refine zh (zA2 ha hb) ?_
     refine aG ?_ (by rfl)
     rw [qX]

theorem uA {α:Type} [DecidableEq α] {P:Program} {T:TypeId} {el:α→AV} (hT:∀ x y,aEq P T (el x) (el y)=some (decide (x=y))) {x:α}:∀ (l:List α),eE P T (el x) (l.map el)=some (l.findIdx? fun y=>decide (x=y))
 | []=>rfl
 | y::l=>by
   simp only [aZ,eE,hT,uA hT l,jK]
   cases h:decide (x=y) <;> simp
theorem bUi (x:Str × Str) (l:List (Str × Str)):eE Tryz.prog 122 (elB x) (l.map elB)=some (l.findIdx? fun y=>decide (x=y)):=uA (fun x y=>by
 simp only [elB,aQ,aEq,bRa,gP,jO,un9,aB]
 rw [cT]; simp [Prod.ext_iff]) l
theorem bUh (x:Int) (l:List Int):eE Tryz.prog 3 (.i .i64 x) (l.map (.i .i64))=some (l.findIdx? fun y=>decide (x=y)):=uA (fun x y=>by
 simp [aEq,jO,un3]) l
theorem nF {α:Type} [BEq α] [LawfulBEq α] [DecidableEq α] {x:α} {l:List α} (h:l.contains x=false):(l.findIdx? fun y=>decide (x=y))=none:=by
 rw [eV]
 intro y hy
 have:x ∉ l:=by simpa using h
 simp only [decide_eq_false_iff_not]
 exact fun he=>this (he ▸ hy)
theorem xY {α:Type} [BEq α] [LawfulBEq α] [DecidableEq α] {x:α} {l:List α} (h:l.contains x=true):∃ i,i < l.length∧(l.findIdx? fun y=>decide (x=y))=some i:=by
 cases hf:l.findIdx? fun y=>decide (x=y) with
 | none=>
   rw [eV] at hf
   have hm:x ∈ l:=by simpa using h
   have:=hf x hm
   simp at this
 | some i=>
   rw [gH] at hf
   exact ⟨i,hf.1,rfl⟩
theorem mZ {α:Type} [BEq α] [LawfulBEq α] [DecidableEq α] {l:List α} {k:Nat} {d:α} (hn:l.Nodup) (hk:k < l.length):(l.take k).contains (l.getD k d)=false:=by
 have:l.getD k d ∉ l.take k:=by
   intro hm
   obtain ⟨j,hj,he⟩:=bV.1 hm
   have:=(eC.1 hn) j k (by simp at hj; omega) hk (by simp at hj; omega)
   simp [List.getD,hk] at he
   exact this he
 simpa using this
theorem vG {α:Type} [BEq α] [LawfulBEq α] [DecidableEq α] {l:List α} {d:α} (h:∀ j,j < l.length→(l.take j).contains (l.getD j d)=false):l.Nodup:=by
 refine eC.2 (fun i j hi hj hij he=>?_)
 have:=h j hj
 have hm:l.getD j d ∈ l.take j:=by
   rw [bV]
   exact ⟨i,by simp; omega,by simp [List.getD,hj,he]⟩
 have h2:(l.take j).contains (l.getD j d)=true:=by simpa using hm
 rw [h2] at this; cases this

theorem bTd (l:List (Str × Str)) (hl:l.length≤140737488355328): CT 80 [avb l] (.b (decide l.Nodup)):=by
 refine aE mixed Tryz.func80 g0 ?_
 · skip
   refine fJ (fun (k:Nat)=>[.k,.k,.j,.k,.k,.j,.k,.k,.k,.v (.i .i64 k),.j,.j,.j,.j,.j,.j,.j,.j,.j]) (fun k=>[.map false ((l.take k).map elB) (List.replicate k (.b true))]) (fun k=>k≤l.length∧∀ j,j < k→(l.take j).contains (l.getD j ([],[]))=false) (fun k=>l.length - k) (0) _ ⟨aF _,fun j h=>by omega⟩ rfl (by simp [fD]) ?_
   rintro k g j ⟨hk,ha⟩
   refine zg ?_
   (refine zs0 ?_; repeat' first | exact trivial | refine zJ ?_ ?_ | refine zH fun hc=>?_)
   · by_cases hx:(l.take k).contains (l.getD k ([],[]))=true
     · obtain ⟨i,hi,hf⟩:=xY hx
       have hi':i < k:=by simp at hi; omega
       have hk2:=bUi (l.getD k ([],[])) (l.take k)
       simp only [elB,aQ] at hk2
       simp -implicitDefEqProofs (disch:=omega) only [nD,hk2,hf,aBp hi',go_sem,simprocAttr]
       refine aG ?_ (by rfl)
       rw [zf (fun hn=>by rw [mZ hn (by omega)] at hx; cases hx)]
     · have hx:=dV.2 hx
       have hk2:=bUi (l.getD k ([],[])) (l.take k)
       simp only [elB,aQ] at hk2
       refine zh (zA2 @nD.eq_1 (zA2 hk2 (nF hx))) ?_
       refine ⟨k+1,_,⟨by omega,bK ha hx⟩,by omega,congr (congrArg List.cons ?_) rfl,by simp⟩
       rw [eH (d:=([],[])) (by omega),aV,aKo]; rfl
   · refine aG ?_ (by rfl)
     have h1:k=l.length:=by omega
     rw [zt (vG (h1 ▸ ha))]
theorem bNj (l:List Int) (hl:l.length≤140737488355328): CT 150 [avi l] (.b (decide l.Nodup)):=by
 refine aE mixed Tryz.func150 g0 ?_
 · skip
   refine bQ (fun (k:Nat)=>[.k,.k,.j,.k,.k,.j,.k,.k,.k,.v (.i .i64 k),.j,.j,.j,.j,.j,.j,.j,.j,.j]) (fun k=>[.map false ((l.take k).map (.i .i64)) (List.replicate k (.b true))]) (fun k=>k≤l.length∧∀ j,j < k→(l.take j).contains (l.getD j 0)=false) (fun k=>l.length - k) (0) ⟨aF _,fun j h=>by omega⟩ rfl (by simp [fD]) ?_
   rintro k j ⟨hk,ha⟩
   refine zg ?_
   (refine zs0 ?_; repeat' first | exact trivial | refine zJ ?_ ?_ | refine zH fun hc=>?_)
   · by_cases hx:(l.take k).contains (l.getD k 0)=true
     · obtain ⟨i,hi,hf⟩:=xY hx
       have hi':i < k:=by simp at hi; omega
       simp -implicitDefEqProofs (disch:=omega) only [nD,bUh,hf,aBp hi',go_sem,simprocAttr]
       refine aG ?_ (by rfl)
       rw [zf (fun hn=>by rw [mZ hn (by omega)] at hx; cases hx)]
     · have hx:=dV.2 hx
       simp -implicitDefEqProofs (disch:=omega) only [nD,bUh,nF hx,go_sem,simprocAttr]
       refine ⟨k+1,⟨by omega,bK ha hx⟩,by omega,?_,by simp⟩
       rw [eH (d:=0) (by omega),aV,aKo]; rfl
   · refine aG ?_ (by rfl)
     have h1:k=l.length:=by omega
     rw [zt (vG (h1 ▸ ha))]

structure OkO (o:LOp):Prop where
 name:o.name.length≤140737488355328
 args:o.args.length≤140737488355328
 argsS:∀ x ∈ o.args,x.length≤140737488355328
 sort:o.sort.length≤140737488355328
 pieces:o.pieces.length≤140737488355328
 piecesS:∀ x ∈ o.pieces,x.1.length≤140737488355328∧x.2.length≤140737488355328
 strict:o.strict.length≤140737488355328
 piecesT:o.pieces.length≤4398046511104
 argsT:o.args.length≤8796093022208
 strictT:o.strict.length≤17592186044416
structure OkS (s:cI):Prop where
 sorts:s.sorts.length≤140737488355328
 sortsS:∀ x ∈ s.sorts,x.length≤140737488355328
 below:s.below.length≤140737488355328
 belowS:∀ x ∈ s.below,x.1.length≤140737488355328∧x.2.length≤140737488355328
 ops:s.ops.length≤140737488355328
 opsO:∀ x ∈ s.ops,OkO x
 funs:s.funs.length≤140737488355328
 funsO:∀ x ∈ s.funs,OkO x
 values:s.values.length≤140737488355328
 opsT:s.ops.length≤1172812402961
 funsT:s.funs.length≤1172812402961
 valuesS:∀ x ∈ s.values,x.length≤140737488355328
theorem bE {α:Type} {l:List α} {d:α} {k:Nat} (h:k < l.length):l.getD k d ∈ l:=by simp [List.getD,h]

end Go.Proofs.YtifefbhllfdmlaaGreatDoor

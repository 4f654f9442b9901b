/-
  What functions of the chapter return, as plain functions of what they are given; no condition beyond those that each theorem names.
-/
import Derived.Test.YtifefbhllfdmlaaGreatDoorVbP124
import Derived.Test.YtifefbhllfdmlaaGreatDoorVoP131
import Derived.Test.YtifefbhllfdmlaaGreatDoorVaP124
import Derived.Test.YtifefbhllfdmlaaGreatDoorTeP123
import Derived.Lib.ItoaLen
set_option maxRecDepth 100000
set_option linter.unusedSimpArgs false
set_option linter.unusedVariables false
set_option maxHeartbeats 4000000
namespace Go.Proofs.YtifefbhllfdmlaaGreatDoor
open Go Go.Vo
open Nat (reduceAdd reduceSub reduceMul reduceLeDiff reduceLT reduceEqDiff)
open Int (reduceNeg)

def E6 (m:List (Str × Int)) (k:Str):Int:=match (m.map (·.1)).findIdx? (fun y=>decide (k=y)) with
 | some j=>(m.getD j ([],0)).2
 | none=>0
def aGw (m:List (Str × Int)) (k:Str):List (Str × Int):=match (m.map (·.1)).findIdx? (fun y=>decide (k=y)) with
 | some j=>m.set j (k,(m.getD j ([],0)).2+1)
 | none=>m++[(k,1)]
theorem pW {p:Str × Int} {m:List (Str × Int)} {k:Str}:E6 (p::m) k=if k=p.1 then p.2 else E6 m k:=by
 unfold E6
 rw [aO,eS]
 by_cases h:k=p.1
 · rw [zt h]; simp [h]
 · rw [zf h]
   cases hf:(m.map (·.1)).findIdx? (fun y=>decide (k=y)) <;> simp [h]
theorem aOm {p:Str × Int} {m:List (Str × Int)} {k:Str}:aGw (p::m) k=if k=p.1 then (k,p.2+1)::m else p::aGw m k:=by
 unfold aGw
 rw [aO,eS]
 by_cases h:k=p.1
 · rw [zt h]; simp [h]
 · rw [zf h]
   cases hf:(m.map (·.1)).findIdx? (fun y=>decide (k=y)) <;> simp [h]
theorem aLi:∀ {m:List (Str × Int)} {k x:Str},E6 (aGw m k) x=E6 m x+(if x=k then 1 else 0)
 | [],k,x=>by
   show E6 [(k,1)] x=E6 [] x+_
   rw [pW]
   show (if x=k then 1 else (0:Int))=0+_
   split <;> simp
 | p :: m,k,x=>by
   rw [aOm]
   split
   · rename_i h
     rw [pW,pW,← h]
     split <;> simp
   · rename_i h
     rw [pW,pW,aLi]
     by_cases h2:x=p.1
     · rw [if_pos h2,if_pos h2,if_neg (fun e=>h (e.symm.trans h2))]; simp
     · rw [if_neg h2,if_neg h2]
theorem bBs {m:List (Str × Int)} {k:Str}:(aGw m k).length≤m.length+1:=by
 unfold aGw; split <;> simp
abbrev aZn (m:List (Str × Int)):AObj:=.map false ((m.map (·.1)).map .s) ((m.map (·.2)).map (.i .i64))
theorem tQ {k:Str}:∀ {l m:List LAsk},lK k (l++m)=lK k l+lK k m
 | [],m=>by simp [lK]
 | a::l,m=>by rw [aU,lK,lK,tQ]; omega
theorem tP {k:Str}:∀ {l m:List hZ},jJ k (l++m)=jJ k l+jJ k m
 | [],m=>by simp [jJ]
 | a::l,m=>by rw [aU,jJ,jJ,tP]; omega
theorem aAn {k:Str} {l:List LAsk} {i:Nat} (h:i < l.length):lK k (l.take (i+1))=lK k (l.take i)+(if k=keyS (l.getD i default) then 1 else 0):=by
 rw [jT h,tQ]
 simp only [lK,oU,decide_eq_true_eq]
 by_cases q:k=keyS (l.getD i default)
 · rw [if_pos q,if_pos q.symm]
 · rw [if_neg q,if_neg (fun e=>q e.symm)]
theorem aAm {k:Str} {l:List hZ} {i:Nat} (h:i < l.length):jJ k (l.take (i+1))=jJ k (l.take i)+lK k (l.getD i default).left:=by
 rw [jT h,tP]; simp [jJ]
theorem yY {k:Str}:∀ {l:List LAsk},lK k l≤l.length
 | []=>aX _
 | a::l=>by rw [lK,aD]; have:=yY (k:=k) (l:=l); split <;> omega
theorem yX {k:Str}:∀ {l:List hZ},jJ k l≤mD l
 | []=>aX _
 | r::l=>by rw [jJ,mD]; have:=yX (k:=k) (l:=l); have:=yY (k:=k) (l:=r.left); omega
theorem uR {m:List (Str × Int)} {k:Str} {j:Nat} (h:(m.map (·.1)).findIdx? (fun y=>decide (k=y))=some j):j < m.length∧((m.map (·.2)).map (AV.i .i64))[j]? = some (.i .i64 (E6 m k)):=by
 have hj:j < (m.map (·.1)).length:=(eR.1 h).1
 rw [fM] at hj
 refine ⟨hj,?_⟩
 unfold E6
 rw [h]
 simp [hj,List.getD]
theorem aUe {m:List (Str × Int)} {k:Str} {j:Nat} (h:(m.map (·.1)).findIdx? (fun y=>decide (k=y))=some j):aZn (aGw m k)=.map false (((m.map (·.1)).map .s).set j (.s k)) (((m.map (·.2)).map (AV.i .i64)).set j (.i .i64 (E6 m k+1))):=by
 unfold aZn aGw E6
 rw [h]
 simp only [List.map_set]
theorem L0 {m:List (Str × Int)} {k:Str} (h:(m.map (·.1)).findIdx? (fun y=>decide (k=y))=none):E6 m k=0∧aZn (aGw m k)=.map false ((m.map (·.1)).map .s++[.s k]) ((m.map (·.2)).map (AV.i .i64)++[.i .i64 1]):=by
 unfold aZn aGw E6
 rw [h]
 simp

theorem vW {rows:List hZ}:∀ {l m:List hZ} {p:LAsk × Nat},rA rows (l++m) p=rA rows m (rA rows l p)
 | [],m,p=>rfl
 | r::l,m,p=>by rw [aU,rA,rA,vW]
theorem aGp {rows l:List hZ} {p:LAsk × Nat} {i:Nat} (h:i < l.length):rA rows (l.take (i+1)) p=(if 0 < (l.getD i default).left.length∧(rA rows (l.take i) p).2 < jJ (keyS ((l.getD i default).left.getD 0 default)) rows then ((l.getD i default).left.getD 0 default,jJ (keyS ((l.getD i default).left.getD 0 default)) rows) else rA rows (l.take i) p):=by
 rw [jT h,vW,rA,rA]
abbrev ZA:List AV:=[.e0,.i .i64 0,.i .i64 0,.i .i64 0,.s [],.s [],.e0,.e0,.s [],.i .i64 0]
abbrev ZX:List AV:=.e0::(ZA++[.e0,.e0])
def bMz (p:LAsk × Nat) (bc:List AV):Prop:=(p.2=0∧bc=ZA)∨(0 < p.2∧bc=aL p.1)
theorem nA.wT {l:List hZ} {k:Str} (h:nA l):nA (wT l k):=by
 have m:∀ r ∈ Go.Proofs.YtifefbhllfdmlaaGreatDoor.wT l k,∃ q ∈ l,r=⟨q.index,q.left.filter fun a => !oU k a⟩:=fun r hr=>by
   obtain ⟨q,hq,e⟩:=kF.1 hr
   exact ⟨q,hq,e.symm⟩
 refine ⟨by rw [Go.Proofs.YtifefbhllfdmlaaGreatDoor.wT,fM]; exact h.len,fun r hr=>?_,fun r hr=>?_,fun r hr a ha=>?_⟩
 · obtain ⟨q,hq,rfl⟩:=m r hr; exact dN (fQ _ _) (h.left q hq)
 · obtain ⟨q,hq,rfl⟩:=m r hr; exact (h.nod q hq).filter _
 · obtain ⟨q,hq,rfl⟩:=m r hr; exact h.key q hq a (gD.1 ha).1
theorem nA.wF {l:List hZ} {k:Str} (h:nA l):nA (wF l k):=by
 have m:∀ r ∈ Go.Proofs.YtifefbhllfdmlaaGreatDoor.wF l k,r ∈ l:=fun r hr=>(gD.1 hr).1
 exact ⟨dN (fQ _ _) h.len,fun r hr=>h.left r (m r hr),fun r hr=>h.nod r (m r hr),fun r hr=>h.key r (m r hr)⟩
theorem aPi {l:List hZ} {i:Nat} (h:i < l.length):mD (l.take (i+1))=mD (l.take i)+(l.getD i default).left.length:=by
 have a:∀ {l m:List hZ},mD (l++m)=mD l+mD m:=by
   intro l
   induction l with
   | nil=>intro m; simp [mD]
   | cons r l ih=>intro m; rw [aU,mD,mD,ih]; omega
 rw [jT h,a]; simp [mD]
theorem W8 {l:List hZ} {i:Nat}:mD (l.take i)≤mD l:=by
 induction l generalizing i with
 | nil=>simp
 | cons r l ih=>
   cases i with
   | zero=>simp [mD]
   | succ i=>rw [gU,mD,mD]; have:=ih (i:=i); omega
def bBy (x:cM × Int) (r:AV) (h':List AObj):Prop:=fU dep h' r=elX x.1∧∃ z,Vo.freeze (dJ dep h' r) h'=[AObj.box false [.i .i64 x.2]]++z
theorem tB {f:Nat} {b:Int} {l:List hZ} (h:f=0∨(gQ l).2=0∨b < 2∨l.length < 2):gA f b l=(.mk l zA [] [],b):=by
 cases f with
 | zero=>rw [gA]
 | succ f=>rw [pT,if_pos (by simpa using h)]
theorem rR:∀ {f:Nat} {b:Int} {l:List hZ},0≤b→0≤(gA f b l).2∧(gA f b l).2≤b
 | 0,b,l,h0=>by rw [gA]; exact ⟨h0,uY _⟩
 | f + 1,b,l,h0=>by
   rw [pT]
   split
   · exact ⟨h0,uY _⟩
   · rename_i hc
     have y:=rR (f:=f) (b:=b - 2) (l:=wT l (keyS (gQ l).1)) (by omega)
     have n:=rR (f:=f) (b:=(gA f (b - 2) (wT l (keyS (gQ l).1))).2) (l:=wF l (keyS (gQ l).1)) y.1
     exact ⟨n.1,by dsimp only; omega⟩
theorem aRk {b:Int} {l:List hZ} {hh:List AObj}:bBy (.mk l zA [] [],b) (.agg (avr l::(ZA++[.e0,.e0]))) (.box false [.i .i64 b]::hh):=by
 have e:∀ H:List AObj,dJ dep H (.agg (avr l::(ZA++[.e0,.e0])))=[]:=fun H=>by
   rw [xT,bIo,if_pos]
   simp [aAj,pers,avr,jD]
 refine ⟨?_,hh,by rw [e]; rfl⟩
 rw [fS]
 simp [pers,persL,avr,jD,qX,elX,dU,avt,avx,cM.rows,cM.ask,cM.yes,cM.no,fS]
 exact ⟨by rw [fU,if_pos (show pers (AV.sl _ _)=true from jD)],rfl,rfl,rfl,rfl,rfl,rfl,rfl,rfl,rfl,rfl,rfl⟩
theorem bKi {b:Int} {a:LAsk} {y n:cM} {hh:List AObj}:bBy (.mk [] a [y] [n],b) (.agg (.e0::(aL a++[.sl (dG y) 1,.sl (dG n) 1]))) (.box false [.i .i64 b]::hh):=by
 have e:∀ H:List AObj,dJ dep H (.agg (.e0::(aL a++[.sl (dG y) 1,.sl (dG n) 1])))=[]:=fun H=>by
   rw [xT,bIo,if_pos]
   simp [aAj,pers,aL,avt,iF,fX,xZ]
 refine ⟨?_,hh,by rw [e]; rfl⟩
 have e2:elX (.mk [] a [y] [n])=.agg (avr []::(aL a++[.sl (dG y) 1,.sl (dG n) 1])):=by
   rw [elX,dG,treesCells,treesCells,treesCells,treesCells,List.append_nil,List.append_nil]; rfl
 have q:∀ {c:List AV} {k:Nat} {H:List AObj},persL c=true→fU 8 H (.sl c k)=.sl c k:=fun h=>by rw [fU,if_pos (show pers (AV.sl _ _)=true from h)]
 rw [e2,fS]
 simp [pers,persL,qX,aL,avr,avt]
 exact ⟨rfl,q fX,rfl,rfl,rfl,rfl,rfl,q iF,q iF,rfl,rfl,q (xZ y),q (xZ n)⟩
theorem mk1 (f:Nat) (b d:Int) (l:List hZ) (hl:nA l) (hsum:mD l≤1000000) (hb0:0≤b) (hb4:b≤4999) (hd:d+f=500) (hd1:1≤d) (ih:∀ f',f=f'+1→∀ (b:Int) (l:List hZ),nA l→mD l≤1000000→0≤b→b≤4999→ACalls Tryz.prog G0 69 [.ptr 0 0,avr l,.i .i64 (d+1)] [.box false [.i .i64 b]] (fun r h'=>r=elX (gA f' b l).1∧h'=[.box false [.i .i64 (gA f' b l).2]])): ACalls Tryz.prog G0 69 [.ptr 0 0,avr l,.i .i64 d] [.box false [.i .i64 b]] (bBy (gA f b l)):=by
 refine fO (rx:=true) (th:=fun i=>if i=25 then some ⟨none,[0,1],true,false,true,[],[101,109],0⟩ else none) mixed Tryz.func69 rfl (by kernel_rfl) (by kernel_rfl) (ac:=?_) ?_ ?_
 rotate_left
 · simp only [strip,kC,A7,RX.off,ckF,ckX,zOf,exd,vOf,bL,bB,bU,bR,bC,bS,aW,bC,dO,dK,gL,lI,bV,dQ,bJ,aU,fN,anyPre,Region.binds,bX,bY,aH,if_true,if_false,cS,cR,aM,aS,bE,aO,bL,bB,List.append_nil,aOv,xY,vO,rU,dH,bP,cA,bC,bU,bR,dM,beq_self_eq_true,iK,Nat.reduceBEq,tI,rJ,tE,jY,aLf,hX,iN,dO,dV,Z4,Z3,↓reduceIte,Nat.reduceEqDiff,Nat.reduceBEq,jX,kS,lG,splitK,yK,S2,bB,hX,iN,bX,bY,bS,aM,aW,bU,bR]
   rfl
 · simp -implicitDefEqProofs (disch:=omega) only [Tryz.f69,go_sem,List.replicate,↓reduceIte,reduceAdd,reduceSub,reduceMul,reduceLeDiff,reduceLT,reduceEqDiff,reduceNeg,Nat.reduceBEq,avr]
   have hl1:=hl.len
   (refine zs0 ?_; repeat' first | exact trivial | refine zJ ?_ ?_ | refine zH fun hc=>?_)
   refine dD (fun (q:Nat × List (Str × Int) × List AObj)=>[.k,.k,.k,.k,.k,.k,.k,.k,.k,.j,.k,.j,.k,.k,.k,.k,.k,.k,.k,.k,.k,.v (.i .i64 (q.1:Nat)),.j,.j,.j,.j,.j,.j,.j,.j,.j,.j,.j,.j,.j,.j,.j,.j,.j,.k,.k,.k,.k,.k,.k,.k,.k,.k,.k,.k,.k,.k,.k,.k,.k,.k,.k,.k,.k,.k,.k,.k,.k,.k,.k,.k,.k,.k,.k,.k,.k,.k,.k,.k,.k,.k,.k,.k,.k,.k,.k,.k,.k,.k,.k,.k,.k,.k,.k,.k,.k,.k,.k,.k,.k,.k,.k,.k,.k,.k,.k,.k,.k,.k,.k,.k,.k,.k,.k,.k,.k,.k]) (fun q=>(.box false [.i .i64 b]::.box false ZX::aZn q.2.1::q.2.2)) (fun q=>q.1≤l.length∧(∀ k,E6 q.2.1 k=(jJ k (l.take q.1):Int))∧q.2.1.length≤mD (l.take q.1)) (fun q=>l.length - q.1) ((0,[],[])) ⟨aT _,fun k=>rfl,aT _⟩ rfl (by simp [iL]) ?_
   rintro ⟨i,m,z⟩ j ⟨hi,hm,hml⟩
   dsimp only at hi hm hml
   by_cases hlt:i < l.length
   · have hki:(i:Int) < ((l.length:Nat):Int):=by omega
     have hmm:=cC (d:=default) hlt
     have q1:=hl.left _ hmm
     have hct:=fun k=>aAm (k:=k) hlt
     have hst:=aPi hlt
     have hsl:=W8 (l:=l) (i:=i+1)
     refine zh (zA2 (zt hki) @cN.eq_1) ?_
     (refine zx0 (zA2 (zt hki) @cN.eq_1) ?_; repeat' first | exact trivial | refine zJ ?_ ?_ | refine zH fun hc=>?_)
     refine dD (fun (q:Nat × List (Str × Int) × List AObj)=>[.k,.k,.k,.k,.k,.k,.k,.k,.k,.k,.k,.j,.k,.k,.k,.k,.k,.k,.k,.k,.k,.k,.k,.k,.k,.k,.k,.k,.v (.i .i64 (q.1:Nat)),.j,.j,.j,.j,.j,.j,.j,.j,.j,.k,.k,.k,.k,.k,.k,.k,.k,.k,.k,.k,.k,.k,.k,.k,.k,.k,.k,.k,.k,.k,.k,.k,.k,.k,.k,.k,.k,.k,.k,.k,.k,.k,.k,.k,.k,.k,.k,.k,.k,.k,.k,.k,.k,.k,.k,.k,.k,.k,.k,.k,.k,.k,.k,.k,.k,.k,.k,.k,.k,.k,.k,.k,.k,.k,.k,.k,.k,.k,.k,.k,.k,.k,.k]) (fun q=>(.box false [.i .i64 b]::.box false ZX::aZn q.2.1::q.2.2)) (fun q=>q.1≤(l.getD i default).left.length∧(∀ k,E6 q.2.1 k=(jJ k (l.take i):Int)+(lK k ((l.getD i default).left.take q.1):Int))∧q.2.1.length≤mD (l.take i)+q.1) (fun q=>(l.getD i default).left.length - q.1) ((0,m,_)) ⟨aT _,fun k=>by simp [hm k,lK],hml⟩ rfl (by simp [iL]) ?_
     rintro ⟨e,m2,z2⟩ j2 ⟨he,hm2,hml2⟩
     dsimp only at he hm2 hml2
     by_cases het:e < (l.getD i default).left.length
     · have hei:(e:Int) < (((l.getD i default).left.length:Nat):Int):=by omega
       have hme:=cC (d:=default) het
       have c1:=aDg _ (hl.key _ hmm _ hme)
       have hca:=fun k=>aAn (k:=k) het
       have hkb:=yX (k:=keyS ((l.getD i default).left.getD e default)) (l:=l.take i)
       have hab:=yY (k:=keyS ((l.getD i default).left.getD e default)) (l:=(l.getD i default).left.take e)
       have hmk:=hm2 (keyS ((l.getD i default).left.getD e default))
       have hga:=fun x=>aLi (m:=m2) (k:=keyS ((l.getD i default).left.getD e default)) (x:=x)
       have hal:=bBs (m:=m2) (k:=keyS ((l.getD i default).left.getD e default))
       simp only [aL,avt] at c1
       rw [eZ] at hab
       have hinv:∀ x,E6 (aGw m2 (keyS ((l.getD i default).left.getD e default))) x=(jJ x (l.take i):Int)+(lK x ((l.getD i default).left.take (e+1)):Int):=fun x=>by
         rw [hga,hm2,hca]
         by_cases q:x=keyS ((l.getD i default).left.getD e default)
         · rw [if_pos q,if_pos q]; omega
         · rw [if_neg q,if_neg q]; omega
       generalize hK:keyS ((l.getD i default).left.getD e default)=K at *
       cases hf:(m2.map (·.1)).findIdx? (fun y=>decide (K=y)) with
       | none=>
         obtain ⟨g0',ha⟩:=L0 hf
         refine zh (zA2 (zt hei) (zA2 @aL.eq_1 @avt.eq_1)) ?_
         (repeat' (first | refine gT ?_ ?_ | refine gF ?_ ?_ | refine gC ?_ ?_ | ((refine bI (c1) ?_ ?_; (focus (simp -implicitDefEqProofs (disch:=omega) only [zt hei,kE,R9,hf,aL,avt,zdB,go_sem,↓reduceIte,reduceAdd,reduceSub,reduceMul,reduceLeDiff,reduceLT,reduceEqDiff,reduceNeg,Nat.reduceBEq]; done))); simp -implicitDefEqProofs (disch:=omega) only [zt hei,kE,R9,hf,aL,avt,go_sem,↓reduceIte,reduceAdd,reduceSub,reduceMul,reduceLeDiff,reduceLT,reduceEqDiff,reduceNeg,Nat.reduceBEq]) | refine bM (by omega) ?_ | (intro hr; have hc:=hr; (try simp only [zdz] at hc); simp -implicitDefEqProofs (disch:=omega) only [hr,zt hei,kE,R9,hf,aL,avt,go_sem,↓reduceIte,reduceAdd,reduceSub,reduceMul,reduceLeDiff,reduceLT,reduceEqDiff,reduceNeg,Nat.reduceBEq]; (try clear hr))))
         exact ⟨(e+1,aGw m2 K,_),⟨by dsimp only; omega,hinv,by dsimp only; omega⟩,by dsimp only; omega,by rw [ha]; rfl,by simp⟩
       | some jj=>
         obtain ⟨g1,g2⟩:=uR hf
         have ha:=aUe hf
         have hw:IntKind.i64.wrap (E6 m2 K+1)=E6 m2 K+1:=wrap64 (by omega) (by omega)
         refine zh (zA2 (zt hei) (zA2 @aL.eq_1 @avt.eq_1)) ?_
         (refine zy1 (zA2 (zt hei) (zA2 @kE.eq_1 (zA2 @R9 (zA2 hf (zA2 g2 (zA2 hw (zA2 @aL.eq_1 @avt.eq_1))))))) c1 ?_; repeat' first | exact trivial | refine zJ ?_ ?_ | refine zH fun hc=>?_)
         exact ⟨(e+1,aGw m2 K,_),⟨by dsimp only; omega,hinv,by dsimp only; omega⟩,by dsimp only; omega,by rw [ha],by simp⟩
     · have hei:¬ (e:Int) < (((l.getD i default).left.length:Nat):Int):=by omega
       have hkt:(l.getD i default).left.take e=(l.getD i default).left:=aJ (by omega)
       rw [hkt] at hm2
       refine zh (zf hei) ?_
       exact ⟨(i+1,m2,z2),⟨by dsimp only; omega,fun k=>by rw [hm2,hct]; try omega,by dsimp only; omega⟩,by dsimp only; omega,rfl,by simp⟩
   · have hki:¬ (i:Int) < ((l.length:Nat):Int):=by omega
     have hkt:l.take i=l:=aJ (by omega)
     rw [hkt] at hm hml
     refine zh (zf hki) ?_
     refine dD (fun (q:Nat × (LAsk × Nat) × List AV × List AObj)=>[.k,.k,.k,.k,.k,.k,.k,.k,.k,.k,.k,.k,.k,.v (.i .i64 (q.2.1.2:Nat)),.k,.j,.j,.k,.k,.k,.k,.k,.k,.k,.k,.k,.k,.k,.k,.k,.k,.k,.k,.k,.k,.k,.k,.k,.k,.k,.k,.v (.i .i64 (q.1:Nat)),.j,.j,.j,.j,.j,.j,.j,.j,.j,.j,.j,.j,.j,.j,.j,.j,.j,.j,.j,.j,.j,.j,.j,.k,.k,.k,.k,.k,.k,.k,.k,.k,.k,.k,.k,.k,.k,.k,.k,.k,.k,.k,.k,.k,.k,.k,.k,.k,.k,.k,.k,.k,.k,.k,.k,.k,.k,.k,.k,.k,.k,.k,.k,.k,.k,.k,.k,.k,.k,.k]) (fun q=>(.box false [.i .i64 b]::.box false ZX::aZn m::(z++(.box false q.2.2.1::q.2.2.2)))) (fun q=>q.1≤l.length∧q.2.1=rA l (l.take q.1) (zA,0)∧bMz q.2.1 q.2.2.1) (fun q=>l.length - q.1) ((0,(zA,0),ZA,[])) ⟨aT _,rfl,.inl ⟨rfl,rfl⟩⟩ rfl (by simp [iL]) ?_
     rintro ⟨i3,p,bc,z3⟩ j3 ⟨hi3,hp,hbc⟩
     dsimp only at hi3 hp hbc
     by_cases hlt3:i3 < l.length
     · have hki3:(i3:Int) < ((l.length:Nat):Int):=by omega
       have hmm:=cC (d:=default) hlt3
       have q1:=hl.left _ hmm
       have hbt:=aGp (rows:=l) (l:=l) (p:=(zA,0)) hlt3
       rw [← hp] at hbt
       by_cases h0:(l.getD i3 default).left.length=0
       · have h00:¬ (0:Int) < (((l.getD i3 default).left.length:Nat):Int):=by omega
         rw [if_neg (by omega)] at hbt
         refine zh (zA2 (zt hki3) (zA2 @cN.eq_1 (zf h00))) ?_
         (refine zx0 (zA2 (zt hki3) (zA2 @cN.eq_1 (zf h00))) ?_; repeat' first | exact trivial | refine zJ ?_ ?_ | refine zH fun hc=>?_)
         all_goals exact ⟨(i3+1,p,bc,z3++[_]),⟨by dsimp only; omega,hbt.symm,hbc⟩,by dsimp only; omega,rfl,by simp⟩
       · have h00:(0:Int) < (((l.getD i3 default).left.length:Nat):Int):=by omega
         have hme:=cC (d:=default) (l:=(l.getD i3 default).left) (k:=0) (by omega)
         have c1:=aDg _ (hl.key _ hmm _ hme)
         have hmk:=hm (keyS ((l.getD i3 default).left.getD 0 default))
         have hkb:=yX (k:=keyS ((l.getD i3 default).left.getD 0 default)) (l:=l)
         simp only [aL,avt] at c1
         have hw0:List.take 10 ((l.getD i3 default).left.flatMap aL)=aL ((l.getD i3 default).left.getD 0 default):=by
           have:=aNv (l:=(l.getD i3 default).left) (k:=0) (by omega)
           simpa using this
         generalize hK:keyS ((l.getD i3 default).left.getD 0 default)=K at *
         have hlk:∀ {Q:Prop},(∀ j,(m.map (·.1)).findIdx? (fun y=>decide (K=y))=some j→Q)→((m.map (·.1)).findIdx? (fun y=>decide (K=y))=none→Q)→Q:=fun a b=>by
           cases hf:(m.map (·.1)).findIdx? (fun y=>decide (K=y)) with
           | none=>exact b hf
           | some j=>exact a j hf
         by_cases hgt:p.2 < jJ K l
         · rw [if_pos ⟨by omega,hgt⟩] at hbt
           have hgt':(p.2:Int) < E6 m K:=by omega
           refine hlk (fun jj hf=>?_) (fun hf=>absurd (L0 hf).1 (by omega))
           obtain ⟨g1,g2⟩:=uR hf
           refine zh (zA2 (zt hki3) (zA2 @cN.eq_1 (zA2 (zt h00) (zA2 hw0 (zA2 @aL.eq_1 @avt.eq_1))))) ?_
           (refine zy1 (zA2 (zt hki3) (zA2 @cN.eq_1 (zA2 (zt h00) (zA2 hw0 (zA2 @kE.eq_1 (zA2 @R9 (zA2 hf (zA2 g2 (zA2 @aL.eq_1 (zA2 @avt.eq_1 (zt hgt'))))))))))) c1 ?_; repeat' first | exact trivial | refine zJ ?_ ?_ | refine zH fun hc=>?_)
           refine ⟨by rcases hbc with ⟨_,rfl⟩ | ⟨_,rfl⟩ <;> simp [aL],?_⟩
           have hd10:List.drop 10 bc=[]:=by rcases hbc with ⟨_,rfl⟩ | ⟨_,rfl⟩ <;> rfl
           rw [hd10]
           exact ⟨(i3+1,((l.getD i3 default).left.getD 0 default,jJ K l),aL ((l.getD i3 default).left.getD 0 default),z3++[_]),⟨by dsimp only; omega,hbt.symm,.inr ⟨by dsimp only; omega,rfl⟩⟩,by dsimp only; omega,rfl,by simp [hm],by simp⟩
         · rw [if_neg (fun h=>hgt h.2)] at hbt
           have hgt':¬ (p.2:Int) < E6 m K:=by omega
           refine hlk (fun jj hf=>?_) (fun hf=>?_)
           · obtain ⟨g1,g2⟩:=uR hf
             refine zh (zA2 (zt hki3) (zA2 @cN.eq_1 (zA2 (zt h00) (zA2 hw0 (zA2 @aL.eq_1 @avt.eq_1))))) ?_
             (refine zy1 (zA2 (zt hki3) (zA2 @cN.eq_1 (zA2 (zt h00) (zA2 hw0 (zA2 @kE.eq_1 (zA2 @R9 (zA2 hf (zA2 g2 (zA2 @aL.eq_1 (zA2 @avt.eq_1 (zf hgt'))))))))))) c1 ?_; repeat' first | exact trivial | refine zJ ?_ ?_ | refine zH fun hc=>?_)
             exact ⟨(i3+1,p,bc,z3++[_]),⟨by dsimp only; omega,hbt.symm,hbc⟩,by dsimp only; omega,rfl,rfl,by simp⟩
           · have g2:=(L0 hf).1
             have hgz:¬ (p.2:Int) < 0:=by omega
             refine zh (zA2 (zt hki3) (zA2 @cN.eq_1 (zA2 (zt h00) (zA2 hw0 (zA2 @aL.eq_1 @avt.eq_1))))) ?_
             (refine zy1 (zA2 (zt hki3) (zA2 @cN.eq_1 (zA2 (zt h00) (zA2 hw0 (zA2 @kE.eq_1 (zA2 @R9 (zA2 hf (zA2 @aL.eq_1 (zA2 @avt.eq_1 (zf hgz)))))))))) c1 ?_; repeat' first | exact trivial | refine zJ ?_ ?_ | refine zH fun hc=>?_)
             exact ⟨(i3+1,p,bc,z3++[_]),⟨by dsimp only; omega,hbt.symm,hbc⟩,by dsimp only; omega,rfl,rfl,by simp⟩
     · have hki3:¬ (i3:Int) < ((l.length:Nat):Int):=by omega
       have hkt3:l.take i3=l:=aJ (by omega)
       rw [hkt3] at hp
       change p=gQ l at hp
       by_cases hA:p.2=0
       · rw [tB (.inr (.inl (by rw [← hp]; exact hA)))]
         have e1:((p.2:Nat):Int)=0:=by omega
         refine zh (zA2 (zf hki3) (zt e1)) ?_
         (refine zx0 (zA2 (zf hki3) (zt e1)) ?_; repeat' first | exact trivial | refine zJ ?_ ?_ | refine zH fun hc=>?_)
         all_goals exact aRk
       have e1:¬ ((p.2:Nat):Int)=0:=by omega
       by_cases hB:b < 2
       · rw [tB (.inr (.inr (.inl hB)))]
         refine zh (zA2 (zf hki3) (zA2 (zf e1) (zt hB))) ?_
         (refine zx0 (zA2 (zf hki3) (zA2 (zf e1) (zt hB))) ?_; repeat' first | exact trivial | refine zJ ?_ ?_ | refine zH fun hc=>?_)
         all_goals exact aRk
       by_cases hD:500≤d
       · rw [tB (.inl (by omega))]
         refine zh (zA2 (zf hki3) (zA2 (zf e1) (zA2 (zf hB) (zt hD)))) ?_
         (refine zx0 (zA2 (zf hki3) (zA2 (zf e1) (zA2 (zf hB) (zt hD)))) ?_; repeat' first | exact trivial | refine zJ ?_ ?_ | refine zH fun hc=>?_)
         all_goals exact aRk
       by_cases hC:((l.length:Nat):Int) < 2
       · rw [tB (.inr (.inr (.inr (by omega))))]
         refine zh (zA2 (zf hki3) (zA2 (zf e1) (zA2 (zf hB) (zA2 (zf hD) (zt hC))))) ?_
         (refine zx0 (zA2 (zf hki3) (zA2 (zf e1) (zA2 (zf hB) (zA2 (zf hD) (zt hC))))) ?_; repeat' first | exact trivial | refine zJ ?_ ?_ | refine zH fun hc=>?_)
         all_goals exact aRk
       obtain ⟨f',rfl⟩:∃ f',f=f'+1:=⟨f - 1,by omega⟩
       have hm0:(gQ l).2 ≠ 0:=by rw [← hp]; exact hA
       obtain ⟨r0,hr0,hbr⟩:=tW hm0
       have me:=pT f' b l
       rw [if_neg (by omega)] at me
       rcases hbc with ⟨h,_⟩ | ⟨_,rfl⟩
       · exact absurd h hA
       subst hp
       have c1:=aDg _ (hl.key r0 hr0 _ hbr)
       have c2:=aWa l (keyS (gQ l).1) true hl
       have c3:=aWa l (keyS (gQ l).1) false hl
       have hwT:W1 l (keyS (gQ l).1) true=wT l (keyS (gQ l).1):=rfl
       have hwF:W1 l (keyS (gQ l).1) false=wF l (keyS (gQ l).1):=rfl
       rw [hwT] at c2
       rw [hwF] at c3
       have sT:=aIe (k:=keyS (gQ l).1) (l:=l)
       have sF:=aIf (k:=keyS (gQ l).1) (l:=l)
       have ny:=rR (f:=f') (b:=b - 2) (l:=wT l (keyS (gQ l).1)) (by omega)
       have iy:=ih f' rfl (b - 2) _ (hl.wT (k:=keyS (gQ l).1)) (by omega) (by omega) (by omega)
       have ine:=ih f' rfl (gA f' (b - 2) (wT l (keyS (gQ l).1))).2 _ (hl.wF (k:=keyS (gQ l).1)) (by omega) (by omega) (by omega)
       rw [me]
       generalize gA f' (b - 2) (wT l (keyS (gQ l).1))=Y at *
       generalize gA f' Y.2 (wF l (keyS (gQ l).1))=N at *
       simp only [aL,avt] at c1
       simp only [avr] at c2 c3
       have hw2:IntKind.i64.wrap (b - 2)=b - 2:=wrap64 (by omega) (by omega)
       have hwd:IntKind.i64.wrap (d+1)=d+1:=wrap64 (by omega) (by omega)
       generalize hBV:gQ l=BV at *
       refine zh (zA2 (zf hki3) (zA2 (zf e1) (zA2 (zf hB) (zA2 (zf hD) (zA2 (zf hC) (zA2 hw2 (zA2 hwd (zA2 @aL.eq_1 @avt.eq_1)))))))) ?_
       (refine zy3 (zA2 (zf hki3) (zA2 (zf e1) (zA2 (zf hB) (zA2 (zf hD) (zA2 (zf hC) (zA2 hw2 (zA2 hwd (zA2 @aL.eq_1 @avt.eq_1)))))))) c1 c2 c3 ?_; repeat' first | exact trivial | refine zJ ?_ ?_ | refine zH fun hc=>?_)
       refine aTj (zL 0 g0 iy rfl rfl (xZ Y.1) rfl (by simp only [renL,ren,avr,renL_pers _ _ jD,aMd])) rfl (wU (by simp [DR.old])) ?_
       refine zh (zA2 @gI (zA2 @aZ.{0} (zA2 @bH.{0} (zA2 @List.append_nil.{0} hwd)))) ?_
       (refine zy1 (zA2 @gI (zA2 @aZ.{0} (zA2 @bH.{0} (zA2 @List.append_nil.{0} hwd)))) c3 ?_; repeat' first | exact trivial | refine zJ ?_ ?_ | refine zH fun hc=>?_)
       refine aTj (zL 0 g0 ine rfl rfl (xZ N.1) rfl (by simp only [renL,ren,avr,renL_pers _ _ jD,aMd])) rfl (wU (by simp [DR.old])) ?_
       refine zh (zA2 @gI (zA2 @aZ.{0} (zA2 @bH.{0} @List.append_nil.{0}))) ?_
       have fin:=fun hh=>bKi (b:=N.2) (a:=BV.1) (y:=Y.1) (n:=N.1) (hh:=hh)
       simp only [aL,avt,aU,bJ,dU,avr,avx] at fin
       exact fin _
theorem mk:∀ (f:Nat) (d b:Int) (l:List hZ),nA l→mD l≤1000000→0≤b→b≤4999→d+f=500→1≤d→ACalls Tryz.prog G0 69 [.ptr 0 0,avr l,.i .i64 d] [.box false [.i .i64 b]] (fun r h'=>r=elX (gA f b l).1∧h'=[.box false [.i .i64 (gA f b l).2]]):=by
 intro f
 induction f with
 | zero=>
   intro d b l h1 h2 h3 h4 h5 h6
   exact zY g0 (mk1 0 b d l h1 h2 h3 h4 h5 h6 (fun f' e=>by omega)) (xZ _) rfl (aX _)
 | succ f ih=>
   intro d b l h1 h2 h3 h4 h5 h6
   refine zY g0 (mk1 (f+1) b d l h1 h2 h3 h4 h5 h6 (fun f' e b l k1 k2 k3 k4=>?_)) (xZ _) rfl (aX _)
   obtain rfl:f=f':=by omega
   exact ih (d+1) b l k1 k2 k3 k4 (by omega) (by omega)
end Go.Proofs.YtifefbhllfdmlaaGreatDoor
namespace Go.Vo
theorem aLm {ids:List Nat} {pre g:List AObj} (h:∀ i ∈ ids,pre.length≤i):Vo.freeze ids (pre++g)=pre++Vo.freeze (ids.map (· - pre.length)) g:=by
 apply qH
 intro j
 rw [iP]
 by_cases hj:j < pre.length
 · rw [aC hj,aC hj]
   have:j ∉ ids:=fun q=>by have:=h j q; omega
   cases pre[j]? <;> simp [this]
 · rw [aF (by omega),aF (by omega),iP]
   have:j - pre.length ∈ ids.map (· - pre.length)↔j ∈ ids:=by
     rw [kF]
     constructor
     · rintro ⟨k,hk,e⟩
       have:=h k hk
       obtain rfl:k=j:=by omega
       exact hk
     · intro q; exact ⟨j,q,rfl⟩
   simp only [this]
theorem fD.stay {sz N:Nat} {g g':List AObj} {out:AV} {cells:List AV} {n:Nat} (h:fD sz N g out cells n) {s2:Nat} (hs:sz ≠ s2) (k:∀ (i:Nat) (o:AObj),g[i]? = some o→(∀ c:List AV,o ≠ .arr false s2 c)→g'[i]? = some o):fD sz N g' out cells n:=by
 rcases h with h | ⟨i,h1,h2,h3⟩
 · exact .inl h
 · exact .inr ⟨i,h1,k i _ h2 (fun c e=>hs (by cases e; rfl)),h3⟩
section
variable {P:Program} {G:Glob} {dr:Option DR} {d:Option Nat} {os:List fI} {K:List AV→List AObj→Prop} {env:List AV}
theorem V0 {h:List AObj} {T:TypeId} {out x:AV} (hp:jL h x=false) (hq:jL (Vo.freeze (dJ dep h x) h) (fU dep h x)=true)
   (k:kV P G dr (sB P (Vo.freeze (dJ dep h x) h) T out (fU dep h x)) d os K env):kV P G dr (sB P h T out x) d os K env:=by
 have e:sB P h T out x=sB P (Vo.freeze (dJ dep h x) h) T out (fU dep h x):=by
   unfold sB
   rw [if_neg (by rw [hp]; simp),if_pos hq]
 rw [e]; exact k
end
end Go.Vo
namespace Go.Proofs.YtifefbhllfdmlaaGreatDoor
open Go Go.Vo
open Nat (reduceAdd reduceSub reduceMul reduceLeDiff reduceLT reduceEqDiff)
open Int (reduceNeg)

theorem aPm {h:List AObj} {id i n:Nat} {f1:Bool} {idx:Int} {cells:List AV} (h1:h[id]? = some (.arr f1 2 [.i .i64 idx,.hs i 0 n false])) (h2:h[i]? = some (.arr false 10 cells)) (hp:persL cells=true) (hl:cells.length=n * 10) :
   fU dep h (.hs id 0 1 false)=.sl [.i .i64 idx,.sl cells n] 1∧dJ dep h (.hs id 0 1 false)=[id,i]:=by
 have ht:List.take (n * 10) cells=cells:=aJ (by omega)
 constructor
 · rw [fS]
   simp [pers,qX,h1,persL]
   exact ⟨rfl,by rw [aUy]; simp [pers,aXp,h2,hp,hl,ht]⟩
 · have ra:dJ 8 h (.i .i64 idx)=[]:=by rw [X9]; rfl
   have rb:dJ 8 h (.hs i 0 n false)=[i]:=by
     rw [X9,if_neg (by simp [pers]),xV]
     simp [h2,hp,ht]
   rw [sU]
   simp [pers,xV,h1,persL,ra,rb]
theorem bEm {pre g:List AObj} {i N:Nat} {o:AObj} (hN:pre.length=N):Vo.freeze [g.length+N,i+N] (pre++(g++[o]))=pre++(Vo.freeze [g.length,i] (g++[o])):=by
 subst hN
 rw [aLm (by intro k hk; simp at hk; omega)]
 simp
section
variable {dr:Option DR} {d:Option Nat} {os:List fI} {K:List AV→List AObj→Prop} {env:List AV}
theorem aTy {H pre g:List AObj} {out:AV} {idx:Int} {i n m N:Nat} {cells0 cells:List AV} (hN:pre.length=N) (hi:g[i]? = some (.arr false 10 cells)) (hp:persL cells=true) (hil:cells.length=n * 10) (ho:fD 2 N g out cells0 m) (hb:m≤1000000)
   (hH:H=pre++(g++[.arr false 2 [.i .i64 idx,.hs (i+N) 0 n false]]))
   (k:∀ out' g',fD 2 N g' out' (cells0++[.i .i64 idx,.sl cells n]) (m+1)→dB Tryz.prog G0 dr os K (gJ env d out') (pre++g')) :
   kV Tryz.prog G0 dr (sB Tryz.prog H 53 out (.hs (g.length+N) 0 1 false)) d os K env:=by
 subst hH
 have h1:(pre++(g++[AObj.arr false 2 [.i .i64 idx,.hs (i+N) 0 n false]]))[g.length+N]? = some (.arr false 2 [.i .i64 idx,.hs (i+N) 0 n false]):=by
   rw [aF (by omega)]; simp [← hN]
 have h2:(pre++(g++[AObj.arr false 2 [.i .i64 idx,.hs (i+N) 0 n false]]))[i+N]? = some (.arr false 10 cells):=by
   have:=aK hi
   rw [aF (by omega),← hN,Nat.add_sub_cancel,aC this]; exact hi
 obtain ⟨e1,e2⟩:=aPm h1 h2 hp hil
 refine V0 (by simp [jL,h1,persL,pers]) (by rw [e1]; simp [jL,pers,persL,hp]) ?_
 rw [e1,e2,bEm hN]
 have hlt:=aK hi
 have ho2:fD 2 N (Vo.freeze [g.length,i] (g++[AObj.arr false 2 [.i .i64 idx,.hs (i+N) 0 n false]])) out cells0 m:=by
   rcases ho with h | ⟨io,a,b,c⟩
   · exact .inl h
   · refine .inr ⟨io,a,?_,c⟩
     have hlo:=aK b
     have hne:io ≠ i:=fun e=>by rw [e,hi] at b; cases b
     rw [iP,aC hlo,b,cG,if_neg (by simp; omega)]
 refine fE (pre:=pre) (more:=[]) (news:=[.i .i64 idx,.sl cells n]) (m:=1) ho2 hN (by simp) bEs aHe aId aNf rfl (by decide) (by simp [jL,pers,persL,hp]) (by simp [C2]) ⟨by omega,by omega⟩ ?_
 intro out' g' ho' _
 exact k out' g' ho'
theorem aTz {H pre g:List AObj} {out:AV} {idx:Int} {m N:Nat} {cells0:List AV} (hN:pre.length=N) (ho:fD 2 N g out cells0 m) (hb:m≤1000000)
   (hH:H=pre++(g++[.arr false 2 [.i .i64 idx,.e0]]))
   (k:∀ out' g',fD 2 N g' out' (cells0++[.i .i64 idx,.sl [] 0]) (m+1)→dB Tryz.prog G0 dr os K (gJ env d out') (pre++g')) :
   kV Tryz.prog G0 dr (sB Tryz.prog H 53 out (.hs (g.length+N) 0 1 false)) d os K env:=by
 subst hH
 have h1:(pre++(g++[AObj.arr false 2 [.i .i64 idx,.e0]]))[g.length+N]? = some (.arr false 2 [.i .i64 idx,.e0]):=by
   rw [aF (by omega)]; simp [← hN]
 have e1:fU dep (pre++(g++[AObj.arr false 2 [.i .i64 idx,.e0]])) (.hs (g.length+N) 0 1 false)=.sl [.i .i64 idx,.sl [] 0] 1:=by
   rw [fS]
   simp [pers,qX,h1,persL]
   exact ⟨rfl,rfl⟩
 have e2:dJ dep (pre++(g++[AObj.arr false 2 [.i .i64 idx,.e0]])) (.hs (g.length+N) 0 1 false)=[g.length+N]:=by
   rw [wK,h1]; simp [hsQ,aAj,pers]
 refine V0 (by simp [jL,h1,persL,pers]) (by rw [e1]; simp [jL,pers,persL]) ?_
 have e3:Vo.freeze [g.length+N] (pre++(g++[AObj.arr false 2 [.i .i64 idx,.e0]]))=pre++(Vo.freeze [g.length] (g++[AObj.arr false 2 [.i .i64 idx,.e0]])):=by
   subst hN
   rw [aLm (by intro k hk; simp at hk; omega)]
   simp
 rw [e1,e2,e3]
 have ho2:fD 2 N (Vo.freeze [g.length] (g++[AObj.arr false 2 [.i .i64 idx,.e0]])) out cells0 m:=by
   rcases ho with h | ⟨io,a,b,c⟩
   · exact .inl h
   · refine .inr ⟨io,a,?_,c⟩
     have hlo:=aK b
     rw [iP,aC hlo,b,cG,if_neg (by simp; omega)]
 refine fE (pre:=pre) (more:=[]) (news:=[.i .i64 idx,.sl [] 0]) (m:=1) ho2 hN (by simp) bEs aHe aId aNf rfl (by decide) (by simp [jL,pers,persL]) (by simp [C2]) ⟨by omega,by omega⟩ ?_
 intro out' g' ho' _
 exact k out' g' ho'
end
theorem aWb (a:LAsk) (ha:OkK a): CT 118 [.agg (aL a)] (.agg (aL a)):=by
 refine cX mixed Tryz.func118 g0 ?_
 · simp -implicitDefEqProofs (disch:=omega) only [Tryz.f118,go_sem,List.replicate,↓reduceIte,reduceAdd,reduceSub,reduceMul,reduceLeDiff,reduceLT,reduceEqDiff,reduceNeg,Nat.reduceBEq,aL,avt]
   have c:=aWl a.test.term ha.test.term
   have hp:=ha.path
   simp only [elT,bT,avt] at c
   (refine zy2 (zA2 @aL.eq_1 @avt.eq_1) (aMy a.path ha.path) c ?_; repeat' first | exact trivial | refine zJ ?_ ?_ | refine zH fun hc=>?_)
   all_goals exact aP rfl (by simp [pers,persL,iF,fX])
theorem aSh {pre g:List AObj} {sz n:Nat} {out:AV} {cells:List AV} (ho:fD sz pre.length g out cells n) (hp:persL cells=true):kQ (pre++g) out (.sl cells n)∧cD out (.sl cells n)=[]:=by
 rcases ho with ⟨rfl,rfl,rfl⟩ | ⟨i,rfl,hi,hl⟩
 · exact ⟨rfl,rfl⟩
 · refine ⟨?_,rfl⟩
   show AV.sl cells n=fU dep (pre++g) (.hs (i+pre.length) 0 n false)
   have hg:(pre++g)[i+pre.length]? = some (.arr false sz cells):=by
     rw [aF (by omega)]; simpa using hi
   have hd:(cells.drop 0).take (n * sz)=cells:=by rw [dX,aJ (by omega)]
   simp only [fS,pers,qX,hg,hd,hp,if_true,aH,if_false]
   rw [if_pos (by omega)]
theorem aSg {h:List AObj} {x:AV} (hp:pers x=true) (hn:∀ l,x ≠ .agg l) (hn2:∀ l,x ≠ .tup l):kQ h x x:=by
 have e:fU dep h x=x:=by rw [fS,if_pos hp]
 cases x <;> first | exact e.symm | exact absurd rfl (hn _) | exact absurd rfl (hn2 _)
theorem aNs {l:List cM} (h:l.length=1):avx l=.sl (dG (l.getD 0 default)) 1:=by
 match l,h with
 | [y],_=>simp [avx]
theorem aCu {pre g:List AObj} {out:AV} {x:cM} {a b:AV} (ho:fD 2 pre.length g out (x.rows.flatMap cN) x.rows.length) (ha:a=avx x.yes∨(a=.e0∧x.yes=[])) (hb:b=avx x.no∨(b=.e0∧x.no=[])) :
   Fin (pre++g) (.agg (out::(aL x.ask++[a,b]))) (elX x):=by
 obtain ⟨o1,o2⟩:=aSh ho jD
 have q:∀ {c:List AV} {k:Nat},persL c=true→kQ (pre++g) (.sl c k) (.sl c k):=fun h=>aSg h (fun _ e=>by cases e) (fun _ e=>by cases e)
 have fa:kQ (pre++g) a (avx x.yes)∧cD a (avx x.yes)=[]:=by
   rcases ha with rfl | ⟨rfl,e⟩
   · exact ⟨q Q5,rfl⟩
   · rw [e]; exact ⟨rfl,rfl⟩
 have fb:kQ (pre++g) b (avx x.no)∧cD b (avx x.no)=[]:=by
   rcases hb with rfl | ⟨rfl,e⟩
   · exact ⟨q Q5,rfl⟩
   · rw [e]; exact ⟨rfl,rfl⟩
 have e0:cD (.agg (out::(aL x.ask++[a,b]))) (elX x)=[]:=by
   rw [elX,dU]
   simp only [aL,aU,bJ,cD,finIdsL]
   rw [show cD out (avr x.rows)=[] from o2,fa.2,fb.2]; rfl
 refine .inr ⟨?_,by rw [e0]; exact fL,by rw [e0]; simp⟩
 rw [elX,dU]
 exact ⟨o1,q fX,rfl,rfl,rfl,rfl,rfl,q iF,q iF,rfl,rfl,fa.1,fb.1,trivial⟩
theorem aDh (x:cM) (hx:OkV x) (hno:x.yes.length ≠ 0→x.yes.length=1∧x.no.length=1) (hno0:x.yes.length=0→x.no.length=0) (hr:x.yes.length ≠ 0→x.rows.length=0) (ihy:∀ y ∈ x.yes,CT 68 [elX y] (elX y)) (ihn:∀ y ∈ x.no,CT 68 [elX y] (elX y)): CT 68 [elX x] (elX x):=by
 refine eD (rx:=true) (th:=fun i=>if i=15 then some ⟨some 2,[],true,false,false,[],[],0⟩ else none) mixed Tryz.func68 g0 ?_
 · simp -implicitDefEqProofs (disch:=omega) only [Tryz.f68,go_sem,List.replicate,↓reduceIte,reduceAdd,reduceSub,reduceMul,reduceLeDiff,reduceLT,reduceEqDiff,reduceNeg,Nat.reduceBEq]
   obtain ⟨x1,x2,x3⟩:OkK x.ask∧x.rows.length≤1000000∧(∀ r ∈ x.rows,r.left.length≤1000000∧∀ a ∈ r.left,OkK a):=by cases hx; exact ⟨by assumption,by assumption,by assumption⟩
   have c1:=aWb x.ask x1
   simp only [aL,avt] at c1
   (refine zt1 c1 ?_; repeat' first | exact trivial | refine zJ ?_ ?_ | refine zH fun hc=>?_)
   refine dD (fun (q:Nat × AV × List AObj)=>[.k,.k,.k,.k,.k,.k,.j,.j,.k,.j,.k,.k,.k,.k,.k,.k,.k,.k,.v (.i .i64 (q.1:Nat)),.j,.j,.j,.j,.j,.j,.j,.j,.j,.j,.j,.j,.j,.j,.j,.j,.j,.j,.j,.j,.j,.j,.j,.j,.j,.j,.j,.k,.k,.k,.k,.k,.k,.k,.k,.k,.k,.k,.k,.k,.k,.k,.k,.k,.k,.k]) (fun q=>(.box false [.sl ((x).rows.flatMap cN) (x).rows.length,.sl ((x).ask.path.map (.i .i64)) (x).ask.path.length,.i .i64 (x).ask.test.op,.i .i64 (x).ask.test.term.kind,.i .i64 (x).ask.test.term.n,.s (x).ask.test.term.text,.s (x).ask.test.term.sort,.sl ((x).ask.test.term.kids.flatMap aE) (x).ask.test.term.kids.length,.sl ((x).ask.test.term.rest.flatMap aE) (x).ask.test.term.rest.length,.s (x).ask.test.text,.i .i64 (x).ask.test.n,.sl ((x).yes.flatMap dG) (x).yes.length,.sl ((x).no.flatMap dG) (x).no.length]::.box false ZX::.box false [q.2.1,.sl (x.ask.path.map (.i .i64)) x.ask.path.length,.i .i64 x.ask.test.op,.i .i64 x.ask.test.term.kind,.i .i64 x.ask.test.term.n,.s x.ask.test.term.text,.s x.ask.test.term.sort,.sl (x.ask.test.term.kids.flatMap aE) x.ask.test.term.kids.length,.sl (x.ask.test.term.rest.flatMap aE) x.ask.test.term.rest.length,.s x.ask.test.text,.i .i64 x.ask.test.n,.e0,.e0]::q.2.2)) (fun q=>q.1≤x.rows.length∧fD 2 3 q.2.2 q.2.1 ((x.rows.take q.1).flatMap cN) q.1) (fun q=>x.rows.length - q.1) ((0,.e0,[])) ⟨aT _,kK⟩ rfl (by simp [iL]) ?_
   rintro ⟨k,out,g⟩ j ⟨hk,ho⟩
   dsimp only at hk ho
   by_cases hlt:k < x.rows.length
   · have hki:(k:Int) < ((x.rows.length:Nat):Int):=by omega
     have hm:=cC (d:=default) hlt
     obtain ⟨q1,q2⟩:=x3 _ hm
     refine zh (zA2 (zt hki) @cN.eq_1) ?_
     (refine zx0 (zA2 (zt hki) @cN.eq_1) ?_; repeat' first | exact trivial | refine zJ ?_ ?_ | refine zH fun hc=>?_)
     refine dD (fun (q:Nat × AV × List AObj)=>[.k,.k,.k,.k,.k,.k,.k,.v (q.2.1),.k,.j,.k,.k,.k,.k,.k,.k,.k,.k,.k,.k,.k,.k,.k,.k,.k,.v (.i .i64 (q.1:Nat)),.j,.j,.j,.j,.j,.j,.j,.j,.j,.j,.k,.k,.k,.k,.k,.k,.k,.k,.k,.k,.k,.k,.k,.k,.k,.k,.k,.k,.k,.k,.k,.k,.k,.k,.k,.k,.k,.k,.k]) (fun q=>(.box false [.sl ((x).rows.flatMap cN) (x).rows.length,.sl ((x).ask.path.map (.i .i64)) (x).ask.path.length,.i .i64 (x).ask.test.op,.i .i64 (x).ask.test.term.kind,.i .i64 (x).ask.test.term.n,.s (x).ask.test.term.text,.s (x).ask.test.term.sort,.sl ((x).ask.test.term.kids.flatMap aE) (x).ask.test.term.kids.length,.sl ((x).ask.test.term.rest.flatMap aE) (x).ask.test.term.rest.length,.s (x).ask.test.text,.i .i64 (x).ask.test.n,.sl ((x).yes.flatMap dG) (x).yes.length,.sl ((x).no.flatMap dG) (x).no.length]::.box false ZX::.box false [out,.sl (x.ask.path.map (.i .i64)) x.ask.path.length,.i .i64 x.ask.test.op,.i .i64 x.ask.test.term.kind,.i .i64 x.ask.test.term.n,.s x.ask.test.term.text,.s x.ask.test.term.sort,.sl (x.ask.test.term.kids.flatMap aE) x.ask.test.term.kids.length,.sl (x.ask.test.term.rest.flatMap aE) x.ask.test.term.rest.length,.s x.ask.test.text,.i .i64 x.ask.test.n,.e0,.e0]::q.2.2)) (fun q=>q.1≤(x.rows.getD k default).left.length∧fD 2 3 q.2.2 out ((x.rows.take k).flatMap cN) k∧fD 10 3 q.2.2 q.2.1 (((x.rows.getD k default).left.take q.1).flatMap aL) q.1∧q.2.2[g.length]? = some (.box false [.i .i64 (x.rows.getD k default).index,.sl ((x.rows.getD k default).left.flatMap aL) (x.rows.getD k default).left.length])) (fun q=>(x.rows.getD k default).left.length - q.1) ((0,.e0,g++[.box false [.i .i64 (x.rows.getD k default).index,.sl ((x.rows.getD k default).left.flatMap aL) (x.rows.getD k default).left.length]])) ⟨aT _,ho.more _,kK,by simp⟩ rfl (by simp [iL]) ?_
     rintro ⟨e,o2,g2⟩ j2 ⟨he,ho1,ho2,hrow⟩
     dsimp only at he ho1 ho2 hrow
     by_cases het:e < (x.rows.getD k default).left.length
     · have hei:(e:Int) < (((x.rows.getD k default).left.length:Nat):Int):=by omega
       have c2:=aWb _ (q2 _ (cC (d:=default) het))
       simp only [aL,avt] at c2
       refine zh (zA2 (zt hei) (zA2 @aL.eq_1 @avt.eq_1)) ?_
       (refine zy1 (zA2 (zt hei) (zA2 @aL.eq_1 (zA2 @avt.eq_1 (zA2 @gI (zA2 @aZ.{0} (zA2 @bH.{0} @List.append_nil.{0})))))) c2 ?_; repeat' first | exact trivial | refine zJ ?_ ?_ | refine zH fun hc=>?_)
       refine fE (pre:=[_,_,_]) (news:=[.sl (((x.rows.getD k default).left.getD e default).path.map (.i .i64)) ((x.rows.getD k default).left.getD e default).path.length,.i .i64 ((x.rows.getD k default).left.getD e default).test.op,.i .i64 ((x.rows.getD k default).left.getD e default).test.term.kind,.i .i64 ((x.rows.getD k default).left.getD e default).test.term.n,.s ((x.rows.getD k default).left.getD e default).test.term.text,.s ((x.rows.getD k default).left.getD e default).test.term.sort,.sl (((x.rows.getD k default).left.getD e default).test.term.kids.flatMap aE) ((x.rows.getD k default).left.getD e default).test.term.kids.length,.sl (((x.rows.getD k default).left.getD e default).test.term.rest.flatMap aE) ((x.rows.getD k default).left.getD e default).test.term.rest.length,.s ((x.rows.getD k default).left.getD e default).test.text,.i .i64 ((x.rows.getD k default).left.getD e default).test.n]) (m:=1) ho2 rfl rfl bOl bNb bNd bOp rfl (by decide) (by simp -implicitDefEqProofs (disch:=omega) only [go_sem,↓reduceIte,reduceAdd,reduceSub,reduceMul,reduceLeDiff,reduceLT,reduceEqDiff,reduceNeg,Nat.reduceBEq]) (by simp -implicitDefEqProofs (disch:=omega) only [go_sem,↓reduceIte,reduceAdd,reduceSub,reduceMul,reduceLeDiff,reduceLT,reduceEqDiff,reduceNeg,Nat.reduceBEq]) ⟨by omega,by omega⟩ ?_
       intro o2' g' ho2' hst
       refine zg ?_
       refine ⟨(e+1,o2',g'),⟨by dsimp only; omega,ho1.stay (by decide) hst,?_,hst _ _ hrow (fun c h=>by cases h)⟩,by dsimp only; omega,rfl,rfl,by simp⟩
       dsimp only
       rw [jT het,eJ]
       simp only [dL,jC,List.append_nil]
       exact ho2'
     · have hei:¬ (e:Int) < (((x.rows.getD k default).left.length:Nat):Int):=by omega
       have hkt:(x.rows.getD k default).left.take e=(x.rows.getD k default).left:=aJ (by omega)
       rw [hkt] at ho2
       have hel:e=(x.rows.getD k default).left.length:=by omega
       subst hel
       have hta:=jT hlt
       have e3:(x.rows.take (k+1)).flatMap cN=(x.rows.take k).flatMap cN++cN (x.rows.getD k default):=by
         rw [hta,eJ]; simp
       rcases ho2 with ⟨rfl,hc0,hn0⟩ | ⟨i,rfl,hi,hil⟩
       · refine zh (zA2 (zf hei) (zA2 hrow (zA2 @gI (zA2 @aZ.{0} (zA2 @bH.{0} @List.append_nil.{0}))))) ?_
         refine aTz (N:=3) (pre:=[_,_,_]) rfl ho1 (by omega) rfl ?_
         intro out' g' ho'
         rcases ho' with ⟨_,_,h⟩ | ⟨i',rfl,hi',hil'⟩
         · omega
         have e4:cN (x.rows.getD k default)=[.i .i64 (x.rows.getD k default).index,.sl [] 0]:=by rw [cN,hc0,hn0]
         rw [e4] at e3
         refine zg ?_
         exact ⟨(k+1,.hs (i'+3) 0 (k+1) false,g'),⟨by dsimp only; omega,.inr ⟨i',rfl,by dsimp only; rw [e3]; exact hi',by dsimp only; rw [e3]; exact hil'⟩⟩,by dsimp only; omega,rfl,by simp⟩
       · refine zh (zA2 (zf hei) (zA2 hrow (zA2 @gI (zA2 @aZ.{0} (zA2 @bH.{0} @List.append_nil.{0}))))) ?_
         refine aTy (N:=3) (pre:=[_,_,_]) rfl hi yC hil ho1 (by omega) rfl ?_
         intro out' g' ho'
         rcases ho' with ⟨_,_,h⟩ | ⟨i',rfl,hi',hil'⟩
         · omega
         refine zg ?_
         exact ⟨(k+1,.hs (i'+3) 0 (k+1) false,g'),⟨by dsimp only; omega,.inr ⟨i',rfl,by dsimp only; rw [e3]; exact hi',by dsimp only; rw [e3]; exact hil'⟩⟩,by dsimp only; omega,rfl,by simp⟩
   · have hki:¬ (k:Int) < ((x.rows.length:Nat):Int):=by omega
     have hkt:x.rows.take k=x.rows:=aJ (by omega)
     rw [hkt] at ho
     obtain rfl:k=x.rows.length:=by omega
     by_cases hy:x.yes.length=0
     · have hy0:¬ (0:Int) < ((x.yes.length:Nat):Int):=by omega
       refine zh (zA2 (zf hki) (zf hy0)) ?_
       (refine zx0 (zA2 (zf hki) (zf hy0)) ?_; repeat' first | exact trivial | refine zJ ?_ ?_ | refine zH fun hc=>?_)
       all_goals exact aCu (pre:=[_,_,_]) ho (.inr ⟨rfl,bO.1 hy⟩) (.inr ⟨rfl,bO.1 (hno0 hy)⟩)
     · have hy0:(0:Int) < ((x.yes.length:Nat):Int):=by omega
       obtain ⟨a,b⟩:=hno hy
       have cy:=ihy _ (cC (d:=default) (l:=x.yes) (k:=0) (by omega))
       have cn:=ihn _ (cC (d:=default) (l:=x.no) (k:=0) (by omega))
       simp only [elX,dU,avr,avt,avx] at cy cn
       refine zh (zA2 (zf hki) (zt hy0)) ?_
       (refine zy2 (zA2 (zf hki) (zA2 (zt hy0) (zA2 @gI (zA2 @aZ.{0} (zA2 @bH.{0} @List.append_nil.{0}))))) cy cn ?_; repeat' first | exact trivial | refine zJ ?_ ?_ | refine zH fun hc=>?_)
       all_goals exact aCu (pre:=[_,_,_]) ho (.inl (by rw [aNs a,dU]; rfl)) (.inl (by rw [aNs b,dU]; rfl))
theorem bFt (s:dF):∀ (x:cM),OkV x→nodesV s x=true→CT 68 [elX x] (elX x):=
 mP (Q := fun x=>OkV x→nodesV s x=true→CT 68 [elX x] (elX x)) fun x hy hn hx hv=>by
   have hh:(∀ k ∈ x.yes,OkV k)∧(∀ k ∈ x.no,OkV k):=by cases hx; exact ⟨by assumption,by assumption⟩
   have e:=pP s x
   rw [hv] at e
   by_cases h0:x.yes.length+x.no.length=0
   · exact aDh x hx (fun h=>by omega) (fun _=>by omega) (fun h=>by omega) (fun y m=>absurd (pA m) (by omega)) (fun y m=>absurd (pA m) (by omega))
   · rw [if_neg h0] at e
     have e:=e.symm
     simp only [aB,decide_eq_true_eq] at e
     obtain ⟨e1,e2,e3,_,e5,e6⟩:=e
     have one:∀ {l:List cM} {y:cM},l.length=1→y ∈ l→y=l.getD 0 default:=fun {l y} h m=>by
       match l,h with
       | [z],_=>simpa using m
     exact aDh x hx (fun _=>⟨e2,e3⟩) (fun h=>by omega) (fun _=>e1) (fun y m=>hy y m (hh.1 y m) (by rw [one e2 m]; exact e5)) (fun y m=>hn y m (hh.2 y m) (by rw [one e3 m]; exact e6))

theorem Q7:∀ {p:List Int},(∀ i ∈ p,0≤i∧i≤2000)→(lS p).length≤p.length * 22
 | [],_=>by simp [lS]
 | i::p,h=>by
   have h1:=h i (by simp)
   have:=Lib.itoa_length_le i (by omega) (by omega)
   have:=Q7 (p:=p) (fun j hj=>h j (by simp [hj]))
   rw [lS,aG,aD,aD]; omega
theorem aHk {t:LTerm} (hk:1≤t.kind∧t.kind≤4) (hn:nodeB t=true) (h2:OkT t):(gW t).length≤300:=by
 rw [nW]
 rw [nodeB] at hn
 rcases (by omega:t.kind=1∨t.kind=2∨t.kind=3∨t.kind=4) with e | e | e | e
 · simp only [e,if_true]
   have:=h2.nlo
   have:=h2.nhi
   exact dN (Lib.itoa_length_le _ (by omega) (by omega)) (by decide)
 · simp only [e,(by decide:¬ (2:Int)=1),if_false,if_true,aAu]
   split <;> decide
 · simp only [e,(by decide:¬ (3:Int)=1),(by decide:¬ (3:Int)=2),if_false,if_true,aB,vM,decide_eq_true_eq] at hn ⊢
   have:=hn.1.2
   simp only [aD,aG,aY]; omega
 · simp only [e,(by decide:¬ (4:Int)=1),(by decide:¬ (4:Int)=2),(by decide:¬ (4:Int)=3),if_false,if_true,aB,bCg,gG,decide_eq_true_eq] at hn ⊢
   have:=hn.1.1.1.1.1.1.1.2
   simp only [aD]; omega
theorem bEe {s:dF} {a:LAsk} (h:TOk s a) (ho:OkX a.test):KeyOk a:=by
 obtain ⟨g,hv,ht⟩:=h
 have hp:=aTu hv
 have hv2:=hv
 rw [isAskV] at hv2
 simp only [aB,decide_eq_true_eq,eN,qI] at hv2
 have hpi:∀ i ∈ a.path,0≤i∧i≤2000:=fun i hi=>by
   have:=hv2.2.1 i hi
   simp only [wE,cL,decide_eq_true_eq,not_or] at this
   exact ⟨by omega,by omega⟩
 have hpl:=Q7 hpi
 have hon:(1≤a.test.op∧a.test.op≤7) ∧ -9223372036854775807≤a.test.n∧a.test.n≤9223372036854775807:=by
   have:=hv2.2.2
   rw [kL] at this
   by_cases h1:a.test.op=1
   · rw [if_pos h1] at this
     simp only [aB,decide_eq_true_eq] at this
     omega
   by_cases h2:a.test.op=2
   · rw [if_neg h1,if_pos h2] at this
     simp only [aB,decide_eq_true_eq] at this
     omega
   by_cases h3:a.test.op=3∨a.test.op=4
   · rw [if_neg h1,if_neg h2,if_pos h3] at this
     simp only [aB,decide_eq_true_eq] at this
     omega
   by_cases h5:a.test.op=5∨a.test.op=7
   · rw [if_neg h1,if_neg h2,if_neg h3,if_pos h5] at this
     simp only [aB,decide_eq_true_eq] at this
     omega
   by_cases h6:a.test.op=6
   · rw [if_neg h1,if_neg h2,if_neg h3,if_neg h5,if_pos h6] at this
     simp only [aB,decide_eq_true_eq] at this
     omega
   rw [if_neg h1,if_neg h2,if_neg h3,if_neg h5,if_neg h6] at this
   cases this
 obtain ⟨hop,hnn⟩:=hon
 have l1:=Lib.itoa_length_le a.test.op (by omega) (by omega)
 have l2:=Lib.itoa_length_le a.test.n (by omega) (by omega)
 have l3:(wA a.test).length≤400:=by
   rw [wA]
   split
   · rename_i h1
     obtain ⟨k1,k2⟩:=g.one h1
     have:=aHk k1 k2 ho.term
     have:=Lib.itoa_length_le a.test.term.kind (by omega) (by omega)
     simp only [aD,aG]; omega
   · simp
 refine ⟨ho,hp,g,?_,by omega,hnn⟩
 rw [keyS]
 simp only [aG,aD]
 omega
theorem xQ:∀ {l:List LTerm} {i:Nat},(kX l i).length=l.length
 | [],_=>rfl
 | p::l,i=>by rw [kX,aD,aD,xQ]
theorem T7 {s:dF}:∀ {l:List LTerm},(∀ p ∈ l,A8 s p=true)→vQ l≤l.length * 2000
 | [],_=>by simp [vQ]
 | p::l,h=>by
   have:=(uI (h p (by simp))).1
   have:=T7 (l:=l) (fun q hq=>h q (by simp [hq]))
   rw [vQ,aD]; omega
theorem aBt {s:dF} {l:List LTerm} (h:∀ p ∈ l,A8 s p=true) (ho:∀ p ∈ l,OkT p) (hl:l.length≤100):nA (kX l 0)∧mD (kX l 0)≤1000000:=by
 have inv:=pG h
 have hc:=T7 h
 refine ⟨⟨by rw [xQ]; omega,fun r hr=>by have:=inv.len r hr; omega,inv.nod,fun r hr a ha=>?_⟩,by rw [xG]; omega⟩
 obtain ⟨p,hp,e,_⟩:=sS r hr
 rw [e] at ha
 have hh:=qJ (lY (h p hp))
 exact bEe ((uI (h p hp)).2 a ha) (O1 p (ho p hp) [] (by simp only [aY]; omega) (by simp) a ha).test
theorem aKl:OkK zA:=⟨⟨aFq,by simp⟩,by simp⟩
theorem nA.okK {s:dF} {l:List hZ} (h:nA l) (hi:V8 s l):∀ r ∈ l,r.left.length≤1000000∧∀ a ∈ r.left,OkK a:=fun r hr=>⟨h.left r hr,fun a ha=>⟨(h.key r hr a ha).k,by
 have:=hi.ask r hr a ha
 simp only [isAskV,aB,decide_eq_true_eq] at this
 omega⟩⟩
theorem wQ {s:dF}:∀ {f:Nat} {b:Int} {l:List hZ},nA l→V8 s l→OkV (gA f b l).1
 | 0,b,l,h,hi=>by
   rw [gA]
   exact .mk aKl h.len (h.okK hi) (by simp [cM.yes]) (by simp [cM.no]) (fun k hk=>by cases hk) (fun k hk=>by cases hk)
 | f + 1,b,l,h,hi=>by
   rw [pT]
   split
   · exact .mk aKl h.len (h.okK hi) (by simp [cM.yes]) (by simp [cM.no]) (fun k hk=>by cases hk) (fun k hk=>by cases hk)
   · rename_i hc
     obtain ⟨r,hr,hb⟩:=tW (l:=l) (fun e=>hc (.inl e))
     refine .mk ((h.okK hi r hr).2 _ hb) (by simp [cM.rows]) (fun r hr=>by cases hr) (by simp [cM.yes]) (by simp [cM.no]) (fun k hk=>?_) (fun k hk=>?_)
     · obtain rfl:=bA.1 hk
       exact wQ h.wT hi.wT
     · obtain rfl:=bA.1 hk
       exact wQ h.wF hi.wF
theorem vG:∀ {l m:List LTerm} {i:Nat},kX (l++m) i=kX l i++kX m (i+l.length)
 | [],m,i=>rfl
 | p::l,m,i=>by rw [aU,kX,kX,vG,aD,aU,show i+1+l.length=i+(l.length+1) by omega]
theorem aFd {l:List LTerm} {i k:Nat} (h:k < l.length):kX (l.take (k+1)) i=kX (l.take k) i++[⟨((i+k:Nat):Int),dI (l.getD k default) []⟩]:=by
 rw [jT h,vG,eZ,Nat.min_eq_left (by omega)]; rfl
theorem Q4:∀ {l:List AV},persL l=true→l.all aAj=true
 | [],_=>rfl
 | a::l,h=>by
   rw [persL,aB] at h
   rw [hY,Q4 h.2,bS]
   cases a <;> first | rfl | exact h.1
theorem aLc {A B o:AObj} {g:List AObj} {out:AV} {cells:List AV} {n:Nat} (ho:fD 2 2 g out cells n) (hp:persL cells=true) :
   fU dep (A::B::(g++[o])) out=.sl cells n∧∃ g',g'.length=g.length∧Vo.freeze (dJ dep (A::B::(g++[o])) out) (A::B::(g++[o]))=A::B::(g'++[o]):=by
 rcases ho with ⟨rfl,rfl,rfl⟩ | ⟨i,rfl,hi,hl⟩
 · exact ⟨rfl,g,rfl,by rw [D4 rfl]; rfl⟩
 · have hlt:=aK hi
   have hg:(A::B::(g++[o]))[i+2]? = some (.arr false 2 cells):=by
     show (g++[o])[i]? = _
     rw [aC hlt]; exact hi
   have hd:(cells.drop 0).take (n * 2)=cells:=by rw [dX,aJ (by omega)]
   refine ⟨?_,g.modify i AObj.fz,by simp,?_⟩
   · simp only [fS,pers,qX,hg,hd,hp,if_true,aH,if_false]
     rw [if_pos (by omega)]
   · rw [wK,hg]
     simp only [hsQ,Q4 hp,if_true,Vo.freeze]
     show A::B::(g++[o]).modify i AObj.fz=_
     congr 2
     apply qH
     intro j
     by_cases hj:j < g.length
     · rw [eP,aC hj,aC (by simpa using hj),eP]
     · rw [eP,aF (by omega),aF (by simp; omega)]
       have:¬ i=j:=by omega
       simp [this]
def J9 (r:cM × Int):AV:=.tup [elX r.1,.i .i64 r.2]
theorem aJq {x:cM} {c:Int}:pers (.tup [elX x,.i .i64 c])=true:=by
 simp [pers,persL,elX,xZ]
theorem bFw (s:dF) (l:List LTerm) (hm:Small s) (hs:OkS s) (hl:l.length≤1466015503701) (ho:∀ p ∈ l,OkT p): CT 26 [.agg (cB s),avt l] (J9 (jK s l)):=by
 refine cX mixed Tryz.func26 g0 ?_
 · generalize hR:((J9 (jK s l)):AV)=R
   simp -implicitDefEqProofs (disch:=omega) only [Tryz.f26,go_sem,List.replicate,↓reduceIte,reduceAdd,reduceSub,reduceMul,reduceLeDiff,reduceLT,reduceEqDiff,reduceNeg,Nat.reduceBEq,avt]
   have c1:=aWd s l hm hs hl ho
   simp only [avt] at c1
   rcases iC (dZ s l) with h1 | h1
   · rw [h1] at c1
     obtain ⟨hv,h100,hpl⟩:=pM h1
     obtain ⟨ok1,ok2⟩:=aBt hpl ho h100
     have inv:=pG hpl
     (refine zt1 c1 ?_; repeat' first | exact trivial | refine zJ ?_ ?_ | refine zH fun hc=>?_)
     refine dD (fun (q:Nat × AV × List AObj)=>[.k,.k,.k,.k,.k,.k,.v (q.2.1),.j,.j,.k,.k,.k,.k,.k,.k,.k,.k,.v (.i .i64 (q.1:Nat)),.j,.j,.j,.j,.j,.j,.j,.j,.j,.j,.j,.j,.k,.k,.k,.k,.k,.k]) (fun q=>(.box false (cB s)::.box false ZX::q.2.2)) (fun q=>q.1≤l.length∧fD 2 2 q.2.2 q.2.1 ((kX (l.take q.1) 0).flatMap cN) q.1) (fun q=>l.length - q.1) ((0,.e0,[])) ⟨aT _,kK⟩ rfl (by simp [iL]) ?_
     rintro ⟨k,out,g⟩ j ⟨hk,ho'⟩
     dsimp only at hk ho'
     by_cases hlt:k < l.length
     · have hki:(k:Int) < ((l.length:Nat):Int):=by omega
       have hmm:=cC (d:=default) hlt
       have hp:=hpl _ hmm
       have hh:=qJ (lY hp)
       have c4:=F5 (l.getD k default) (ho _ hmm) (by omega) (dN (pC _ []) (by omega))
       have e3:=aFd (i:=0) hlt
       simp only [ava,elT,bT,avt] at c4
       refine zh (zt hki) ?_
       (refine zy1 (zA2 (zt hki) (zA2 @gI (zA2 @aZ.{0} (zA2 @bH.{0} @List.append_nil.{0})))) c4 ?_; repeat' first | exact trivial | refine zJ ?_ ?_ | refine zH fun hc=>?_)
       refine fE (pre:=[_,_]) (news:=[.i .i64 (k:Nat),.sl ((dI (l.getD k default) []).flatMap aL) (dI (l.getD k default) []).length]) (m:=1) ho' rfl rfl bEs aHe aId aNf rfl (by decide) (by simp -implicitDefEqProofs (disch:=omega) only [go_sem,↓reduceIte,reduceAdd,reduceSub,reduceMul,reduceLeDiff,reduceLT,reduceEqDiff,reduceNeg,Nat.reduceBEq]) (by simp -implicitDefEqProofs (disch:=omega) only [go_sem,↓reduceIte,reduceAdd,reduceSub,reduceMul,reduceLeDiff,reduceLT,reduceEqDiff,reduceNeg,Nat.reduceBEq]) ⟨by omega,by omega⟩ ?_
       intro out' g' ho2 _
       refine zg ?_
       refine ⟨(k+1,out',g'),⟨by dsimp only; omega,?_⟩,by dsimp only; omega,rfl,by simp⟩
       dsimp only
       rw [e3,eJ]
       simpa [cN] using ho2
     · have hki:¬ (k:Int) < ((l.length:Nat):Int):=by omega
       have hkt:l.take k=l:=aJ (by omega)
       rw [hkt] at ho'
       obtain rfl:k=l.length:=by omega
       have cm:=mk 499 1 4999 (kX l 0) ok1 ok2 (by decide) (by decide) (by decide) (by decide)
       have cc:=bFt s (gA 499 4999 (kX l 0)).1 (wQ ok1 inv) (qP inv)
       refine zh (zf hki) ?_
       obtain ⟨k1,g',k2,k3⟩:=aLc (A:=.box false [.sl (s.sorts.map .s) s.sorts.length,.sl (s.below.flatMap dP) s.below.length,.sl (s.ops.flatMap dA) s.ops.length,.sl (s.funs.flatMap dA) s.funs.length,.sl (s.values.map .s) s.values.length]) (B:=.box false ZX) (o:=.box false [.i .i64 4999]) ho' jD
       refine mY 1 rfl ?_
       rw [k1,k3]
       refine gB (zL (g'.length+2) g0 cm rfl rfl (xZ _) (by simp) (by simp only [List.set,renL,ren,avr,renL_pers _ _ jD,aMd,k2,xQ,cW]; first | done | rfl)) ?_
       rintro r h' ⟨rfl,rfl⟩
       rw [show ∀ (A B:AObj) (x:AObj),(A::B::(g'++[AObj.box false [AV.i IntKind.i64 4999]])).set (g'.length+2) x=A::B::(g'++[x]) from fun A B x=>by simp]
       simp only [elX,dU,avr,avt,avx] at cc ⊢
       simp only [← k2]
       refine zg ?_
       (refine zt1 cc ?_; repeat' first | exact trivial | refine zJ ?_ ?_ | refine zH fun hc=>?_)
       subst hR
       have hb:jK s l=((gA 499 4999 (kX l 0)).1,0):=by rw [jK,if_pos h1]
       rw [hb,J9]
       have hp:=aJq (x:=(gA 499 4999 (kX l 0)).1) (c:=0)
       simp only [elX,dU,avr,avt,avx] at hp ⊢
       exact aP rfl hp
   · rw [h1] at c1
     (refine zt1 c1 ?_; repeat' first | exact trivial | refine zJ ?_ ?_ | refine zH fun hc=>?_)
     subst hR
     have hb:jK s l=(.mk [] zA [] [],2):=by rw [jK,h1,if_neg (by simp)]
     rw [hb]
     all_goals exact .inr ⟨by exact ⟨⟨rfl,rfl,rfl,rfl,rfl,rfl,rfl,rfl,rfl,rfl,rfl,rfl,rfl,trivial⟩,rfl,trivial⟩,fL,fun i hi=>absurd hi (by show ¬ i ∈ []; simp)⟩

def bRn (l:List LTerm):Int:=(vQ l:Nat)
@[simp] theorem bJf:bRn []=0:=rfl

end Go.Proofs.YtifefbhllfdmlaaGreatDoor

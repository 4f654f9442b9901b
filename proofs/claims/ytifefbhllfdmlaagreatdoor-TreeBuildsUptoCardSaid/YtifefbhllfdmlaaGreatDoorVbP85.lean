/-
  What functions of the chapter return, as plain functions of what they are given; no condition beyond those that each theorem names.
-/
import Derived.Test.YtifefbhllfdmlaaGreatDoorVbP84
import Derived.Test.YtifefbhllfdmlaaGreatDoorVoP91
import Derived.Test.YtifefbhllfdmlaaGreatDoorVaP84
import Derived.Test.YtifefbhllfdmlaaGreatDoorTeP83
import Derived.Lib.ItoaLen
set_option maxRecDepth 100000
set_option linter.unusedSimpArgs false
set_option linter.unusedVariables false
set_option maxHeartbeats 4000000
namespace Go.Proofs.YtifefbhllfdmlaaGreatDoor
open Go Go.Vo
open Nat (reduceAdd reduceSub reduceMul reduceLeDiff reduceLT reduceEqDiff)
open Int (reduceNeg)

def O1 (m:List (Str × Int)) (k:Str):Int:=match (m.map (·.1)).findIdx? (fun y=>decide (k=y)) with
 | some j=>(m.getD j ([],0)).2
 | none=>0
def aNd (m:List (Str × Int)) (k:Str):List (Str × Int):=match (m.map (·.1)).findIdx? (fun y=>decide (k=y)) with
 | some j=>m.set j (k,(m.getD j ([],0)).2+1)
 | none=>m++[(k,1)]
theorem sE {p:Str × Int} {m:List (Str × Int)} {k:Str}:O1 (p::m) k=if k=p.1 then p.2 else O1 m k:=by
 unfold O1
 rw [aT,fE]
 by_cases h:k=p.1
 · rw [zt h]; simp [h]
 · rw [zf h]
   cases hf:(m.map (·.1)).findIdx? (fun y=>decide (k=y)) <;> simp [h]
theorem aUy {p:Str × Int} {m:List (Str × Int)} {k:Str}:aNd (p::m) k=if k=p.1 then (k,p.2+1)::m else p::aNd m k:=by
 unfold aNd
 rw [aT,fE]
 by_cases h:k=p.1
 · rw [zt h]; simp [h]
 · rw [zf h]
   cases hf:(m.map (·.1)).findIdx? (fun y=>decide (k=y)) <;> simp [h]
theorem aRj:∀ {m:List (Str × Int)} {k x:Str},O1 (aNd m k) x=O1 m x+(if x=k then 1 else 0)
 | [],k,x=>by
   show O1 [(k,1)] x=O1 [] x+_
   rw [sE]
   show (if x=k then 1 else (0:Int))=0+_
   split <;> simp
 | p :: m,k,x=>by
   rw [aUy]
   split
   · rename_i h
     rw [sE,sE,← h]
     split <;> simp
   · rename_i h
     rw [sE,sE,aRj]
     by_cases h2:x=p.1
     · rw [if_pos h2,if_pos h2,if_neg (fun e=>h (e.symm.trans h2))]; simp
     · rw [if_neg h2,if_neg h2]
theorem bKa {m:List (Str × Int)} {k:Str}:(aNd m k).length≤m.length+1:=by
 unfold aNd; split <;> simp
abbrev bHm (m:List (Str × Int)):AObj:=.map false ((m.map (·.1)).map .s) ((m.map (·.2)).map (.i .i64))
theorem wL {k:Str}:∀ {l m:List LAsk},mD k (l++m)=mD k l+mD k m
 | [],m=>by simp [mD]
 | a::l,m=>by rw [bR,mD,mD,wL]; omega
theorem wK {k:Str}:∀ {l m:List gZ},jT k (l++m)=jT k l+jT k m
 | [],m=>by simp [jT]
 | a::l,m=>by rw [bR,jT,jT,wK]; omega
theorem aFe {k:Str} {l:List LAsk} {i:Nat} (h:i < l.length):mD k (l.take (i+1))=mD k (l.take i)+(if k=keyS (l.getD i default) then 1 else 0):=by
 rw [kA h,wL]
 simp only [mD,rC,decide_eq_true_eq]
 by_cases q:k=keyS (l.getD i default)
 · rw [if_pos q,if_pos q.symm]
 · rw [if_neg q,if_neg (fun e=>q e.symm)]
theorem aFd {k:Str} {l:List gZ} {i:Nat} (h:i < l.length):jT k (l.take (i+1))=jT k (l.take i)+mD k (l.getD i default).left:=by
 rw [kA h,wK]; simp [jT]
theorem G6 {k:Str}:∀ {l:List LAsk},mD k l≤l.length
 | []=>aZ _
 | a::l=>by rw [mD,aI]; have:=G6 (k:=k) (l:=l); split <;> omega
theorem G5 {k:Str}:∀ {l:List gZ},jT k l≤nQ l
 | []=>aZ _
 | r::l=>by rw [jT,nQ]; have:=G5 (k:=k) (l:=l); have:=G6 (k:=k) (l:=r.left); omega
theorem xV {m:List (Str × Int)} {k:Str} {j:Nat} (h:(m.map (·.1)).findIdx? (fun y=>decide (k=y))=some j):j < m.length∧((m.map (·.2)).map (AV.i .i64))[j]? = some (.i .i64 (O1 m k)):=by
 have hj:j < (m.map (·.1)).length:=(fD.1 h).1
 rw [eH] at hj
 refine ⟨hj,?_⟩
 unfold O1
 rw [h]
 simp [hj,List.getD]
theorem bBg {m:List (Str × Int)} {k:Str} {j:Nat} (h:(m.map (·.1)).findIdx? (fun y=>decide (k=y))=some j):bHm (aNd m k)=.map false (((m.map (·.1)).map .s).set j (.s k)) (((m.map (·.2)).map (AV.i .i64)).set j (.i .i64 (O1 m k+1))):=by
 unfold bHm aNd O1
 rw [h]
 simp only [List.map_set]
theorem V0 {m:List (Str × Int)} {k:Str} (h:(m.map (·.1)).findIdx? (fun y=>decide (k=y))=none):O1 m k=0∧bHm (aNd m k)=.map false ((m.map (·.1)).map .s++[.s k]) ((m.map (·.2)).map (AV.i .i64)++[.i .i64 1]):=by
 unfold bHm aNd O1
 rw [h]
 simp

theorem yW {rows:List gZ}:∀ {l m:List gZ} {p:LAsk × Nat},tF rows (l++m) p=tF rows m (tF rows l p)
 | [],m,p=>rfl
 | r::l,m,p=>by rw [bR,tF,tF,yW]
theorem aMu {rows l:List gZ} {p:LAsk × Nat} {i:Nat} (h:i < l.length):tF rows (l.take (i+1)) p=(if 0 < (l.getD i default).left.length∧(tF rows (l.take i) p).2 < jT (keyS ((l.getD i default).left.getD 0 default)) rows then ((l.getD i default).left.getD 0 default,jT (keyS ((l.getD i default).left.getD 0 default)) rows) else tF rows (l.take i) p):=by
 rw [kA h,yW,tF,tF]
abbrev ZA:List AV:=[.e0,.i .i64 0,.i .i64 0,.i .i64 0,.s [],.s [],.e0,.e0,.s [],.i .i64 0]
abbrev ZX:List AV:=.e0::(ZA++[.e0,.e0])
def bXe (p:LAsk × Nat) (bc:List AV):Prop:=(p.2=0∧bc=ZA)∨(0 < p.2∧bc=aJ p.1)
theorem pS.wT {l:List gZ} {k:Str} (h:pS l):pS (wT l k):=by
 have m:∀ r ∈ Go.Proofs.YtifefbhllfdmlaaGreatDoor.wT l k,∃ q ∈ l,r=⟨q.index,q.left.filter fun a => !rC k a⟩:=fun r hr=>by
   obtain ⟨q,hq,e⟩:=dQ.1 hr
   exact ⟨q,hq,e.symm⟩
 refine ⟨by rw [Go.Proofs.YtifefbhllfdmlaaGreatDoor.wT,eH]; exact h.len,fun r hr=>?_,fun r hr=>?_,fun r hr a ha=>?_⟩
 · obtain ⟨q,hq,rfl⟩:=m r hr; exact dI (fK _ _) (h.left q hq)
 · obtain ⟨q,hq,rfl⟩:=m r hr; exact (h.nod q hq).filter _
 · obtain ⟨q,hq,rfl⟩:=m r hr; exact h.key q hq a (eG.1 ha).1
theorem pS.wF {l:List gZ} {k:Str} (h:pS l):pS (wF l k):=by
 have m:∀ r ∈ Go.Proofs.YtifefbhllfdmlaaGreatDoor.wF l k,r ∈ l:=fun r hr=>(eG.1 hr).1
 exact ⟨dI (fK _ _) h.len,fun r hr=>h.left r (m r hr),fun r hr=>h.nod r (m r hr),fun r hr=>h.key r (m r hr)⟩
theorem aVt {l:List gZ} {i:Nat} (h:i < l.length):nQ (l.take (i+1))=nQ (l.take i)+(l.getD i default).left.length:=by
 have a:∀ {l m:List gZ},nQ (l++m)=nQ l+nQ m:=by
   intro l
   induction l with
   | nil=>intro m; simp [nQ]
   | cons r l ih=>intro m; rw [bR,nQ,nQ,ih]; omega
 rw [kA h,a]; simp [nQ]
theorem aDj {l:List gZ} {i:Nat}:nQ (l.take i)≤nQ l:=by
 induction l generalizing i with
 | nil=>simp
 | cons r l ih=>
   cases i with
   | zero=>simp [nQ]
   | succ i=>rw [eO,nQ,nQ]; have:=ih (i:=i); omega
def bKh (x:cA × Int) (r:AV) (h':List AObj):Prop:=gH dep h' r=elX x.1∧∃ z,Vo.freeze (dR dep h' r) h'=[AObj.box false [.i .i64 x.2]]++z
theorem vU {f:Nat} {b:Int} {l:List gZ} (h:f=0∨(gU l).2=0∨b < 2∨l.length < 2):gJ f b l=(.mk l zA [] [],b):=by
 cases f with
 | zero=>rw [gJ]
 | succ f=>rw [qJ,if_pos (by simpa using h)]
theorem uD:∀ {f:Nat} {b:Int} {l:List gZ},0≤b→0≤(gJ f b l).2∧(gJ f b l).2≤b
 | 0,b,l,h0=>by rw [gJ]; exact ⟨h0,yE _⟩
 | f + 1,b,l,h0=>by
   rw [qJ]
   split
   · exact ⟨h0,yE _⟩
   · rename_i hc
     have y:=uD (f:=f) (b:=b - 2) (l:=wT l (keyS (gU l).1)) (by omega)
     have n:=uD (f:=f) (b:=(gJ f (b - 2) (wT l (keyS (gU l).1))).2) (l:=wF l (keyS (gU l).1)) y.1
     exact ⟨n.1,by dsimp only; omega⟩
theorem aYa {b:Int} {l:List gZ} {hh:List AObj}:bKh (.mk l zA [] [],b) (.agg (avr l::(ZA++[.e0,.e0]))) (.box false [.i .i64 b]::hh):=by
 have e:∀ H:List AObj,dR dep H (.agg (avr l::(ZA++[.e0,.e0])))=[]:=fun H=>by
   rw [C8,bSr,if_pos]
   simp [aIn,pers,avr,jM]
 refine ⟨?_,hh,by rw [e]; rfl⟩
 rw [fV]
 simp [pers,persL,avr,jM,rH,elX,cW,avt,avx,cA.rows,cA.ask,cA.yes,cA.no,fV]
 exact ⟨by rw [gH,if_pos (show pers (AV.sl _ _)=true from jM)],rfl,rfl,rfl,rfl,rfl,rfl,rfl,rfl,rfl,rfl,rfl⟩
theorem bUe {b:Int} {a:LAsk} {y n:cA} {hh:List AObj}:bKh (.mk [] a [y] [n],b) (.agg (.e0::(aJ a++[.sl (bX y) 1,.sl (bX n) 1]))) (.box false [.i .i64 b]::hh):=by
 have e:∀ H:List AObj,dR dep H (.agg (.e0::(aJ a++[.sl (bX y) 1,.sl (bX n) 1])))=[]:=fun H=>by
   rw [C8,bSr,if_pos]
   simp [aIn,pers,aJ,avt,iH,eP,Q9]
 refine ⟨?_,hh,by rw [e]; rfl⟩
 have e2:elX (.mk [] a [y] [n])=.agg (avr []::(aJ a++[.sl (bX y) 1,.sl (bX n) 1])):=by
   rw [elX,bX,treesCells,treesCells,treesCells,treesCells,List.append_nil,List.append_nil]; rfl
 have q:∀ {c:List AV} {k:Nat} {H:List AObj},persL c=true→gH 8 H (.sl c k)=.sl c k:=fun h=>by rw [gH,if_pos (show pers (AV.sl _ _)=true from h)]
 rw [e2,fV]
 simp [pers,persL,rH,aJ,avr,avt]
 exact ⟨rfl,q eP,rfl,rfl,rfl,rfl,rfl,q iH,q iH,rfl,rfl,q (Q9 y),q (Q9 n)⟩
theorem mk1 (f:Nat) (b d:Int) (l:List gZ) (hl:pS l) (hsum:nQ l≤1000000) (hb0:0≤b) (hb4:b≤4999) (hd:d+f=500) (hd1:1≤d) (ih:∀ f',f=f'+1→∀ (b:Int) (l:List gZ),pS l→nQ l≤1000000→0≤b→b≤4999→ACalls Tryz.prog G0 69 [.ptr 0 0,avr l,.i .i64 (d+1)] [.box false [.i .i64 b]] (fun r h'=>r=elX (gJ f' b l).1∧h'=[.box false [.i .i64 (gJ f' b l).2]])): ACalls Tryz.prog G0 69 [.ptr 0 0,avr l,.i .i64 d] [.box false [.i .i64 b]] (bKh (gJ f b l)):=by
 refine dF (rx:=true) (th:=fun i=>if i=25 then some ⟨none,[0,1],true,false,true,[],[101,109]⟩ else none) mixed Tryz.func69 ?_
 · simp -implicitDefEqProofs (disch:=omega) only [Tryz.f69,go_sem,List.replicate,↓reduceIte,reduceAdd,reduceSub,reduceMul,reduceLeDiff,reduceLT,reduceEqDiff,reduceNeg,Nat.reduceBEq,avr]
   have hl1:=hl.len
   (refine zs0 ?_; repeat' first | exact trivial | refine zJ ?_ ?_ | refine zH fun hc=>?_)
   refine bP (fun (q:Nat × List (Str × Int) × List AObj)=>[.k,.k,.k,.k,.k,.k,.k,.k,.k,.j,.k,.j,.k,.k,.k,.k,.k,.k,.k,.k,.k,.v (.i .i64 (q.1:Nat)),.j,.j,.j,.j,.j,.j,.j,.j,.j,.j,.j,.j,.j,.j,.j,.j,.j,.k,.k,.k,.k,.k,.k,.k,.k,.k,.k,.k,.k,.k,.k,.k,.k,.k,.k,.k,.k,.k,.k,.k,.k,.k,.k,.k,.k,.k,.k,.k,.k,.k,.k,.k,.k,.k,.k,.k,.k,.k,.k,.k,.k,.k,.k,.k,.k,.k,.k,.k,.k,.k,.k,.k,.k,.k,.k,.k,.k,.k,.k,.k,.k,.k,.k,.k,.k,.k,.k,.k,.k,.k]) (fun q=>(.box false [.i .i64 b]::.box false ZX::bHm q.2.1::q.2.2)) (fun q=>q.1≤l.length∧(∀ k,O1 q.2.1 k=(jT k (l.take q.1):Int))∧q.2.1.length≤nQ (l.take q.1)) (fun q=>l.length - q.1) ((0,[],[])) ⟨aG _,fun k=>rfl,aG _⟩ rfl (by simp [eN]) ?_
   rintro ⟨i,m,z⟩ j ⟨hi,hm,hml⟩
   dsimp only at hi hm hml
   by_cases hlt:i < l.length
   · have hki:(i:Int) < ((l.length:Nat):Int):=by omega
     have hmm:=aU (d:=default) hlt
     have q1:=hl.left _ hmm
     have hct:=fun k=>aFd (k:=k) hlt
     have hst:=aVt hlt
     have hsl:=aDj (l:=l) (i:=i+1)
     refine zh (zA2 (zt hki) @bM.eq_1) ?_
     (refine zx0 (zA2 (zt hki) @bM.eq_1) ?_; repeat' first | exact trivial | refine zJ ?_ ?_ | refine zH fun hc=>?_)
     refine bP (fun (q:Nat × List (Str × Int) × List AObj)=>[.k,.k,.k,.k,.k,.k,.k,.k,.k,.k,.k,.j,.k,.k,.k,.k,.k,.k,.k,.k,.k,.k,.k,.k,.k,.k,.k,.k,.v (.i .i64 (q.1:Nat)),.j,.j,.j,.j,.j,.j,.j,.j,.j,.k,.k,.k,.k,.k,.k,.k,.k,.k,.k,.k,.k,.k,.k,.k,.k,.k,.k,.k,.k,.k,.k,.k,.k,.k,.k,.k,.k,.k,.k,.k,.k,.k,.k,.k,.k,.k,.k,.k,.k,.k,.k,.k,.k,.k,.k,.k,.k,.k,.k,.k,.k,.k,.k,.k,.k,.k,.k,.k,.k,.k,.k,.k,.k,.k,.k,.k,.k,.k,.k,.k,.k,.k,.k]) (fun q=>(.box false [.i .i64 b]::.box false ZX::bHm q.2.1::q.2.2)) (fun q=>q.1≤(l.getD i default).left.length∧(∀ k,O1 q.2.1 k=(jT k (l.take i):Int)+(mD k ((l.getD i default).left.take q.1):Int))∧q.2.1.length≤nQ (l.take i)+q.1) (fun q=>(l.getD i default).left.length - q.1) ((0,m,_)) ⟨aG _,fun k=>by simp [hm k,mD],hml⟩ rfl (by simp [eN]) ?_
     rintro ⟨e,m2,z2⟩ j2 ⟨he,hm2,hml2⟩
     dsimp only at he hm2 hml2
     by_cases het:e < (l.getD i default).left.length
     · have hei:(e:Int) < (((l.getD i default).left.length:Nat):Int):=by omega
       have hme:=aU (d:=default) het
       have c1:=aIt _ (hl.key _ hmm _ hme)
       have hca:=fun k=>aFe (k:=k) het
       have hkb:=G5 (k:=keyS ((l.getD i default).left.getD e default)) (l:=l.take i)
       have hab:=G6 (k:=keyS ((l.getD i default).left.getD e default)) (l:=(l.getD i default).left.take e)
       have hmk:=hm2 (keyS ((l.getD i default).left.getD e default))
       have hga:=fun x=>aRj (m:=m2) (k:=keyS ((l.getD i default).left.getD e default)) (x:=x)
       have hal:=bKa (m:=m2) (k:=keyS ((l.getD i default).left.getD e default))
       simp only [aJ,avt] at c1
       rw [dS] at hab
       have hinv:∀ x,O1 (aNd m2 (keyS ((l.getD i default).left.getD e default))) x=(jT x (l.take i):Int)+(mD x ((l.getD i default).left.take (e+1)):Int):=fun x=>by
         rw [hga,hm2,hca]
         by_cases q:x=keyS ((l.getD i default).left.getD e default)
         · rw [if_pos q,if_pos q]; omega
         · rw [if_neg q,if_neg q]; omega
       generalize hK:keyS ((l.getD i default).left.getD e default)=K at *
       cases hf:(m2.map (·.1)).findIdx? (fun y=>decide (K=y)) with
       | none=>
         obtain ⟨g0',ha⟩:=V0 hf
         refine zh (zA2 (zt hei) (zA2 @aJ.eq_1 @avt.eq_1)) ?_
         (repeat' (first | refine gT ?_ ?_ | refine gF ?_ ?_ | refine gC ?_ ?_ | ((refine bF (c1) ?_ ?_; (focus (simp -implicitDefEqProofs (disch:=omega) only [zt hei,kM,aBf,hf,aJ,avt,zdB,go_sem,↓reduceIte,reduceAdd,reduceSub,reduceMul,reduceLeDiff,reduceLT,reduceEqDiff,reduceNeg,Nat.reduceBEq]; done))); simp -implicitDefEqProofs (disch:=omega) only [zt hei,kM,aBf,hf,aJ,avt,go_sem,↓reduceIte,reduceAdd,reduceSub,reduceMul,reduceLeDiff,reduceLT,reduceEqDiff,reduceNeg,Nat.reduceBEq]) | refine bB (by omega) ?_ | (intro hr; have hc:=hr; (try simp only [zdz] at hc); simp -implicitDefEqProofs (disch:=omega) only [hr,zt hei,kM,aBf,hf,aJ,avt,go_sem,↓reduceIte,reduceAdd,reduceSub,reduceMul,reduceLeDiff,reduceLT,reduceEqDiff,reduceNeg,Nat.reduceBEq]; (try clear hr))))
         exact ⟨(e+1,aNd m2 K,_),⟨by dsimp only; omega,hinv,by dsimp only; omega⟩,by dsimp only; omega,by rw [ha]; rfl,by simp⟩
       | some jj=>
         obtain ⟨g1,g2⟩:=xV hf
         have ha:=bBg hf
         have hw:IntKind.i64.wrap (O1 m2 K+1)=O1 m2 K+1:=wrap64 (by omega) (by omega)
         refine zh (zA2 (zt hei) (zA2 @aJ.eq_1 @avt.eq_1)) ?_
         (refine zy1 (zA2 (zt hei) (zA2 @kM.eq_1 (zA2 @aBf (zA2 hf (zA2 g2 (zA2 hw (zA2 @aJ.eq_1 @avt.eq_1))))))) c1 ?_; repeat' first | exact trivial | refine zJ ?_ ?_ | refine zH fun hc=>?_)
         exact ⟨(e+1,aNd m2 K,_),⟨by dsimp only; omega,hinv,by dsimp only; omega⟩,by dsimp only; omega,by rw [ha],by simp⟩
     · have hei:¬ (e:Int) < (((l.getD i default).left.length:Nat):Int):=by omega
       have hkt:(l.getD i default).left.take e=(l.getD i default).left:=aH (by omega)
       rw [hkt] at hm2
       refine zh (zf hei) ?_
       exact ⟨(i+1,m2,z2),⟨by dsimp only; omega,fun k=>by rw [hm2,hct]; try omega,by dsimp only; omega⟩,by dsimp only; omega,rfl,by simp⟩
   · have hki:¬ (i:Int) < ((l.length:Nat):Int):=by omega
     have hkt:l.take i=l:=aH (by omega)
     rw [hkt] at hm hml
     refine zh (zf hki) ?_
     refine bP (fun (q:Nat × (LAsk × Nat) × List AV × List AObj)=>[.k,.k,.k,.k,.k,.k,.k,.k,.k,.k,.k,.k,.k,.v (.i .i64 (q.2.1.2:Nat)),.k,.j,.j,.k,.k,.k,.k,.k,.k,.k,.k,.k,.k,.k,.k,.k,.k,.k,.k,.k,.k,.k,.k,.k,.k,.k,.k,.v (.i .i64 (q.1:Nat)),.j,.j,.j,.j,.j,.j,.j,.j,.j,.j,.j,.j,.j,.j,.j,.j,.j,.j,.j,.j,.j,.j,.j,.k,.k,.k,.k,.k,.k,.k,.k,.k,.k,.k,.k,.k,.k,.k,.k,.k,.k,.k,.k,.k,.k,.k,.k,.k,.k,.k,.k,.k,.k,.k,.k,.k,.k,.k,.k,.k,.k,.k,.k,.k,.k,.k,.k,.k,.k,.k]) (fun q=>(.box false [.i .i64 b]::.box false ZX::bHm m::(z++(.box false q.2.2.1::q.2.2.2)))) (fun q=>q.1≤l.length∧q.2.1=tF l (l.take q.1) (zA,0)∧bXe q.2.1 q.2.2.1) (fun q=>l.length - q.1) ((0,(zA,0),ZA,[])) ⟨aG _,rfl,.inl ⟨rfl,rfl⟩⟩ rfl (by simp [eN]) ?_
     rintro ⟨i3,p,bc,z3⟩ j3 ⟨hi3,hp,hbc⟩
     dsimp only at hi3 hp hbc
     by_cases hlt3:i3 < l.length
     · have hki3:(i3:Int) < ((l.length:Nat):Int):=by omega
       have hmm:=aU (d:=default) hlt3
       have q1:=hl.left _ hmm
       have hbt:=aMu (rows:=l) (l:=l) (p:=(zA,0)) hlt3
       rw [← hp] at hbt
       by_cases h0:(l.getD i3 default).left.length=0
       · have h00:¬ (0:Int) < (((l.getD i3 default).left.length:Nat):Int):=by omega
         rw [if_neg (by omega)] at hbt
         refine zh (zA2 (zt hki3) (zA2 @bM.eq_1 (zf h00))) ?_
         (refine zx0 (zA2 (zt hki3) (zA2 @bM.eq_1 (zf h00))) ?_; repeat' first | exact trivial | refine zJ ?_ ?_ | refine zH fun hc=>?_)
         all_goals exact ⟨(i3+1,p,bc,z3++[_]),⟨by dsimp only; omega,hbt.symm,hbc⟩,by dsimp only; omega,rfl,by simp⟩
       · have h00:(0:Int) < (((l.getD i3 default).left.length:Nat):Int):=by omega
         have hme:=aU (d:=default) (l:=(l.getD i3 default).left) (k:=0) (by omega)
         have c1:=aIt _ (hl.key _ hmm _ hme)
         have hmk:=hm (keyS ((l.getD i3 default).left.getD 0 default))
         have hkb:=G5 (k:=keyS ((l.getD i3 default).left.getD 0 default)) (l:=l)
         simp only [aJ,avt] at c1
         have hw0:List.take 10 ((l.getD i3 default).left.flatMap aJ)=aJ ((l.getD i3 default).left.getD 0 default):=by
           have:=aUf (l:=(l.getD i3 default).left) (k:=0) (by omega)
           simpa using this
         generalize hK:keyS ((l.getD i3 default).left.getD 0 default)=K at *
         have hlk:∀ {Q:Prop},(∀ j,(m.map (·.1)).findIdx? (fun y=>decide (K=y))=some j→Q)→((m.map (·.1)).findIdx? (fun y=>decide (K=y))=none→Q)→Q:=fun a b=>by
           cases hf:(m.map (·.1)).findIdx? (fun y=>decide (K=y)) with
           | none=>exact b hf
           | some j=>exact a j hf
         by_cases hgt:p.2 < jT K l
         · rw [if_pos ⟨by omega,hgt⟩] at hbt
           have hgt':(p.2:Int) < O1 m K:=by omega
           refine hlk (fun jj hf=>?_) (fun hf=>absurd (V0 hf).1 (by omega))
           obtain ⟨g1,g2⟩:=xV hf
           refine zh (zA2 (zt hki3) (zA2 @bM.eq_1 (zA2 (zt h00) (zA2 hw0 (zA2 @aJ.eq_1 @avt.eq_1))))) ?_
           (refine zy1 (zA2 (zt hki3) (zA2 @bM.eq_1 (zA2 (zt h00) (zA2 hw0 (zA2 @kM.eq_1 (zA2 @aBf (zA2 hf (zA2 g2 (zA2 @aJ.eq_1 (zA2 @avt.eq_1 (zt hgt'))))))))))) c1 ?_; repeat' first | exact trivial | refine zJ ?_ ?_ | refine zH fun hc=>?_)
           refine ⟨by rcases hbc with ⟨_,rfl⟩ | ⟨_,rfl⟩ <;> simp [aJ],?_⟩
           have hd10:List.drop 10 bc=[]:=by rcases hbc with ⟨_,rfl⟩ | ⟨_,rfl⟩ <;> rfl
           rw [hd10]
           exact ⟨(i3+1,((l.getD i3 default).left.getD 0 default,jT K l),aJ ((l.getD i3 default).left.getD 0 default),z3++[_]),⟨by dsimp only; omega,hbt.symm,.inr ⟨by dsimp only; omega,rfl⟩⟩,by dsimp only; omega,rfl,by simp [hm],by simp⟩
         · rw [if_neg (fun h=>hgt h.2)] at hbt
           have hgt':¬ (p.2:Int) < O1 m K:=by omega
           refine hlk (fun jj hf=>?_) (fun hf=>?_)
           · obtain ⟨g1,g2⟩:=xV hf
             refine zh (zA2 (zt hki3) (zA2 @bM.eq_1 (zA2 (zt h00) (zA2 hw0 (zA2 @aJ.eq_1 @avt.eq_1))))) ?_
             (refine zy1 (zA2 (zt hki3) (zA2 @bM.eq_1 (zA2 (zt h00) (zA2 hw0 (zA2 @kM.eq_1 (zA2 @aBf (zA2 hf (zA2 g2 (zA2 @aJ.eq_1 (zA2 @avt.eq_1 (zf hgt'))))))))))) c1 ?_; repeat' first | exact trivial | refine zJ ?_ ?_ | refine zH fun hc=>?_)
             exact ⟨(i3+1,p,bc,z3++[_]),⟨by dsimp only; omega,hbt.symm,hbc⟩,by dsimp only; omega,rfl,rfl,by simp⟩
           · have g2:=(V0 hf).1
             have hgz:¬ (p.2:Int) < 0:=by omega
             refine zh (zA2 (zt hki3) (zA2 @bM.eq_1 (zA2 (zt h00) (zA2 hw0 (zA2 @aJ.eq_1 @avt.eq_1))))) ?_
             (refine zy1 (zA2 (zt hki3) (zA2 @bM.eq_1 (zA2 (zt h00) (zA2 hw0 (zA2 @kM.eq_1 (zA2 @aBf (zA2 hf (zA2 @aJ.eq_1 (zA2 @avt.eq_1 (zf hgz)))))))))) c1 ?_; repeat' first | exact trivial | refine zJ ?_ ?_ | refine zH fun hc=>?_)
             exact ⟨(i3+1,p,bc,z3++[_]),⟨by dsimp only; omega,hbt.symm,hbc⟩,by dsimp only; omega,rfl,rfl,by simp⟩
     · have hki3:¬ (i3:Int) < ((l.length:Nat):Int):=by omega
       have hkt3:l.take i3=l:=aH (by omega)
       rw [hkt3] at hp
       change p=gU l at hp
       by_cases hA:p.2=0
       · rw [vU (.inr (.inl (by rw [← hp]; exact hA)))]
         have e1:((p.2:Nat):Int)=0:=by omega
         refine zh (zA2 (zf hki3) (zt e1)) ?_
         (refine zx0 (zA2 (zf hki3) (zt e1)) ?_; repeat' first | exact trivial | refine zJ ?_ ?_ | refine zH fun hc=>?_)
         all_goals exact aYa
       have e1:¬ ((p.2:Nat):Int)=0:=by omega
       by_cases hB:b < 2
       · rw [vU (.inr (.inr (.inl hB)))]
         refine zh (zA2 (zf hki3) (zA2 (zf e1) (zt hB))) ?_
         (refine zx0 (zA2 (zf hki3) (zA2 (zf e1) (zt hB))) ?_; repeat' first | exact trivial | refine zJ ?_ ?_ | refine zH fun hc=>?_)
         all_goals exact aYa
       by_cases hD:500≤d
       · rw [vU (.inl (by omega))]
         refine zh (zA2 (zf hki3) (zA2 (zf e1) (zA2 (zf hB) (zt hD)))) ?_
         (refine zx0 (zA2 (zf hki3) (zA2 (zf e1) (zA2 (zf hB) (zt hD)))) ?_; repeat' first | exact trivial | refine zJ ?_ ?_ | refine zH fun hc=>?_)
         all_goals exact aYa
       by_cases hC:((l.length:Nat):Int) < 2
       · rw [vU (.inr (.inr (.inr (by omega))))]
         refine zh (zA2 (zf hki3) (zA2 (zf e1) (zA2 (zf hB) (zA2 (zf hD) (zt hC))))) ?_
         (refine zx0 (zA2 (zf hki3) (zA2 (zf e1) (zA2 (zf hB) (zA2 (zf hD) (zt hC))))) ?_; repeat' first | exact trivial | refine zJ ?_ ?_ | refine zH fun hc=>?_)
         all_goals exact aYa
       obtain ⟨f',rfl⟩:∃ f',f=f'+1:=⟨f - 1,by omega⟩
       have hm0:(gU l).2 ≠ 0:=by rw [← hp]; exact hA
       obtain ⟨r0,hr0,hbr⟩:=wU hm0
       have me:=qJ f' b l
       rw [if_neg (by omega)] at me
       rcases hbc with ⟨h,_⟩ | ⟨_,rfl⟩
       · exact absurd h hA
       subst hp
       have c1:=aIt _ (hl.key r0 hr0 _ hbr)
       have c2:=bDh l (keyS (gU l).1) true hl
       have c3:=bDh l (keyS (gU l).1) false hl
       have hwT:aCz l (keyS (gU l).1) true=wT l (keyS (gU l).1):=rfl
       have hwF:aCz l (keyS (gU l).1) false=wF l (keyS (gU l).1):=rfl
       rw [hwT] at c2
       rw [hwF] at c3
       have sT:=aOe (k:=keyS (gU l).1) (l:=l)
       have sF:=aOf (k:=keyS (gU l).1) (l:=l)
       have ny:=uD (f:=f') (b:=b - 2) (l:=wT l (keyS (gU l).1)) (by omega)
       have iy:=ih f' rfl (b - 2) _ (hl.wT (k:=keyS (gU l).1)) (by omega) (by omega) (by omega)
       have ine:=ih f' rfl (gJ f' (b - 2) (wT l (keyS (gU l).1))).2 _ (hl.wF (k:=keyS (gU l).1)) (by omega) (by omega) (by omega)
       rw [me]
       generalize gJ f' (b - 2) (wT l (keyS (gU l).1))=Y at *
       generalize gJ f' Y.2 (wF l (keyS (gU l).1))=N at *
       simp only [aJ,avt] at c1
       simp only [avr] at c2 c3
       have hw2:IntKind.i64.wrap (b - 2)=b - 2:=wrap64 (by omega) (by omega)
       have hwd:IntKind.i64.wrap (d+1)=d+1:=wrap64 (by omega) (by omega)
       generalize hBV:gU l=BV at *
       refine zh (zA2 (zf hki3) (zA2 (zf e1) (zA2 (zf hB) (zA2 (zf hD) (zA2 (zf hC) (zA2 hw2 (zA2 hwd (zA2 @aJ.eq_1 @avt.eq_1)))))))) ?_
       (refine zy3 (zA2 (zf hki3) (zA2 (zf e1) (zA2 (zf hB) (zA2 (zf hD) (zA2 (zf hC) (zA2 hw2 (zA2 hwd (zA2 @aJ.eq_1 @avt.eq_1)))))))) c1 c2 c3 ?_; repeat' first | exact trivial | refine zJ ?_ ?_ | refine zH fun hc=>?_)
       refine bAm (H8 0 g0 iy rfl rfl (Q9 Y.1) rfl (by simp only [renL,ren,avr,renL_pers _ _ jM,aFa])) rfl (zY (by simp [DR.old])) ?_
       refine zh (zA2 @fU (zA2 @bS.{0} (zA2 @cB.{0} (zA2 @List.append_nil.{0} hwd)))) ?_
       (refine zy1 (zA2 @fU (zA2 @bS.{0} (zA2 @cB.{0} (zA2 @List.append_nil.{0} hwd)))) c3 ?_; repeat' first | exact trivial | refine zJ ?_ ?_ | refine zH fun hc=>?_)
       refine bAm (H8 0 g0 ine rfl rfl (Q9 N.1) rfl (by simp only [renL,ren,avr,renL_pers _ _ jM,aFa])) rfl (zY (by simp [DR.old])) ?_
       refine zh (zA2 @fU (zA2 @bS.{0} (zA2 @cB.{0} @List.append_nil.{0}))) ?_
       have fin:=fun hh=>bUe (b:=N.2) (a:=BV.1) (y:=Y.1) (n:=N.1) (hh:=hh)
       simp only [aJ,avt,bR,cH,cW,avr,avx] at fin
       exact fin _
theorem mk:∀ (f:Nat) (d b:Int) (l:List gZ),pS l→nQ l≤1000000→0≤b→b≤4999→d+f=500→1≤d→ACalls Tryz.prog G0 69 [.ptr 0 0,avr l,.i .i64 d] [.box false [.i .i64 b]] (fun r h'=>r=elX (gJ f b l).1∧h'=[.box false [.i .i64 (gJ f b l).2]]):=by
 intro f
 induction f with
 | zero=>
   intro d b l h1 h2 h3 h4 h5 h6
   exact bKd g0 (mk1 0 b d l h1 h2 h3 h4 h5 h6 (fun f' e=>by omega)) (Q9 _) rfl (aZ _)
 | succ f ih=>
   intro d b l h1 h2 h3 h4 h5 h6
   refine bKd g0 (mk1 (f+1) b d l h1 h2 h3 h4 h5 h6 (fun f' e b l k1 k2 k3 k4=>?_)) (Q9 _) rfl (aZ _)
   obtain rfl:f=f':=by omega
   exact ih (d+1) b l k1 k2 k3 k4 (by omega) (by omega)
end Go.Proofs.YtifefbhllfdmlaaGreatDoor
namespace Go.Vo
theorem aRo {ids:List Nat} {pre g:List AObj} (h:∀ i ∈ ids,pre.length≤i):Vo.freeze ids (pre++g)=pre++Vo.freeze (ids.map (· - pre.length)) g:=by
 apply L4
 intro j
 rw [iT]
 by_cases hj:j < pre.length
 · rw [aD hj,aD hj]
   have:j ∉ ids:=fun q=>by have:=h j q; omega
   cases pre[j]? <;> simp [this]
 · rw [aK (by omega),aK (by omega),iT]
   have:j - pre.length ∈ ids.map (· - pre.length)↔j ∈ ids:=by
     rw [dQ]
     constructor
     · rintro ⟨k,hk,e⟩
       have:=h k hk
       obtain rfl:k=j:=by omega
       exact hk
     · intro q; exact ⟨j,q,rfl⟩
   simp only [this]
theorem dV.stay {sz N:Nat} {g g':List AObj} {out:AV} {cells:List AV} {n:Nat} (h:dV sz N g out cells n) {s2:Nat} (hs:sz ≠ s2) (k:∀ (i:Nat) (o:AObj),g[i]? = some o→(∀ c:List AV,o ≠ .arr false s2 c)→g'[i]? = some o):dV sz N g' out cells n:=by
 rcases h with h | ⟨i,h1,h2,h3⟩
 · exact .inl h
 · exact .inr ⟨i,h1,k i _ h2 (fun c e=>hs (by cases e; rfl)),h3⟩
section
variable {P:Program} {G:fS} {dr:Option DR} {d:Option Nat} {os:List fZ} {K:List AV→List AObj→Prop} {env:List AV}
theorem aCn {h:List AObj} {T:TypeId} {out x:AV} (hp:jU h x=false) (hq:jU (Vo.freeze (dR dep h x) h) (gH dep h x)=true)
   (k:lK P G dr (uK P (Vo.freeze (dR dep h x) h) T out (gH dep h x)) d os K env):lK P G dr (uK P h T out x) d os K env:=by
 have e:uK P h T out x=uK P (Vo.freeze (dR dep h x) h) T out (gH dep h x):=by
   unfold uK
   rw [if_neg (by rw [hp]; simp),if_pos hq]
 rw [e]; exact k
end
end Go.Vo
namespace Go.Proofs.YtifefbhllfdmlaaGreatDoor
open Go Go.Vo
open Nat (reduceAdd reduceSub reduceMul reduceLeDiff reduceLT reduceEqDiff)
open Int (reduceNeg)

theorem aWa {h:List AObj} {id i n:Nat} {f1:Bool} {idx:Int} {cells:List AV} (h1:h[id]? = some (.arr f1 2 [.i .i64 idx,.hs i 0 n false])) (h2:h[i]? = some (.arr false 10 cells)) (hp:persL cells=true) (hl:cells.length=n * 10) :
   gH dep h (.hs id 0 1 false)=.sl [.i .i64 idx,.sl cells n] 1∧dR dep h (.hs id 0 1 false)=[id,i]:=by
 have ht:List.take (n * 10) cells=cells:=aH (by omega)
 constructor
 · rw [fV]
   simp [pers,rH,h1,persL]
   exact ⟨rfl,by rw [Z4]; simp [pers,aOp,h2,hp,hl,ht]⟩
 · have ra:dR 8 h (.i .i64 idx)=[]:=by rw [aDr]; rfl
   have rb:dR 8 h (.hs i 0 n false)=[i]:=by
     rw [aDr,if_neg (by simp [pers]),D0]
     simp [h2,hp,ht]
   rw [vG]
   simp [pers,D0,h1,persL,ra,rb]
theorem bMz {pre g:List AObj} {i N:Nat} {o:AObj} (hN:pre.length=N):Vo.freeze [g.length+N,i+N] (pre++(g++[o]))=pre++(Vo.freeze [g.length,i] (g++[o])):=by
 subst hN
 rw [aRo (by intro k hk; simp at hk; omega)]
 simp
section
variable {dr:Option DR} {d:Option Nat} {os:List fZ} {K:List AV→List AObj→Prop} {env:List AV}
theorem bBb {H pre g:List AObj} {out:AV} {idx:Int} {i n m N:Nat} {cells0 cells:List AV} (hN:pre.length=N) (hi:g[i]? = some (.arr false 10 cells)) (hp:persL cells=true) (hil:cells.length=n * 10) (ho:dV 2 N g out cells0 m) (hb:m≤1000000)
   (hH:H=pre++(g++[.arr false 2 [.i .i64 idx,.hs (i+N) 0 n false]]))
   (k:∀ out' g',dV 2 N g' out' (cells0++[.i .i64 idx,.sl cells n]) (m+1)→dG Tryz.prog G0 dr os K (gN env d out') (pre++g')) :
   lK Tryz.prog G0 dr (uK Tryz.prog H 53 out (.hs (g.length+N) 0 1 false)) d os K env:=by
 subst hH
 have h1:(pre++(g++[AObj.arr false 2 [.i .i64 idx,.hs (i+N) 0 n false]]))[g.length+N]? = some (.arr false 2 [.i .i64 idx,.hs (i+N) 0 n false]):=by
   rw [aK (by omega)]; simp [← hN]
 have h2:(pre++(g++[AObj.arr false 2 [.i .i64 idx,.hs (i+N) 0 n false]]))[i+N]? = some (.arr false 10 cells):=by
   have:=aQ hi
   rw [aK (by omega),← hN,Nat.add_sub_cancel,aD this]; exact hi
 obtain ⟨e1,e2⟩:=aWa h1 h2 hp hil
 refine aCn (by simp [jU,h1,persL,pers]) (by rw [e1]; simp [jU,pers,persL,hp]) ?_
 rw [e1,e2,bMz hN]
 have hlt:=aQ hi
 have ho2:dV 2 N (Vo.freeze [g.length,i] (g++[AObj.arr false 2 [.i .i64 idx,.hs (i+N) 0 n false]])) out cells0 m:=by
   rcases ho with h | ⟨io,a,b,c⟩
   · exact .inl h
   · refine .inr ⟨io,a,?_,c⟩
     have hlo:=aQ b
     have hne:io ≠ i:=fun e=>by rw [e,hi] at b; cases b
     rw [iT,aD hlo,b,cJ,if_neg (by simp; omega)]
 refine dU (pre:=pre) (more:=[]) (news:=[.i .i64 idx,.sl cells n]) (m:=1) ho2 hN (by simp) bNh aNi aOd aTs rfl (by decide) (by simp [jU,pers,persL,hp]) (by simp [K9]) ⟨by omega,by omega⟩ ?_
 intro out' g' ho' _
 exact k out' g' ho'
theorem bBc {H pre g:List AObj} {out:AV} {idx:Int} {m N:Nat} {cells0:List AV} (hN:pre.length=N) (ho:dV 2 N g out cells0 m) (hb:m≤1000000)
   (hH:H=pre++(g++[.arr false 2 [.i .i64 idx,.e0]]))
   (k:∀ out' g',dV 2 N g' out' (cells0++[.i .i64 idx,.sl [] 0]) (m+1)→dG Tryz.prog G0 dr os K (gN env d out') (pre++g')) :
   lK Tryz.prog G0 dr (uK Tryz.prog H 53 out (.hs (g.length+N) 0 1 false)) d os K env:=by
 subst hH
 have h1:(pre++(g++[AObj.arr false 2 [.i .i64 idx,.e0]]))[g.length+N]? = some (.arr false 2 [.i .i64 idx,.e0]):=by
   rw [aK (by omega)]; simp [← hN]
 have e1:gH dep (pre++(g++[AObj.arr false 2 [.i .i64 idx,.e0]])) (.hs (g.length+N) 0 1 false)=.sl [.i .i64 idx,.sl [] 0] 1:=by
   rw [fV]
   simp [pers,rH,h1,persL]
   exact ⟨rfl,rfl⟩
 have e2:dR dep (pre++(g++[AObj.arr false 2 [.i .i64 idx,.e0]])) (.hs (g.length+N) 0 1 false)=[g.length+N]:=by
   rw [Q6,h1]; simp [hsQ,aIn,pers]
 refine aCn (by simp [jU,h1,persL,pers]) (by rw [e1]; simp [jU,pers,persL]) ?_
 have e3:Vo.freeze [g.length+N] (pre++(g++[AObj.arr false 2 [.i .i64 idx,.e0]]))=pre++(Vo.freeze [g.length] (g++[AObj.arr false 2 [.i .i64 idx,.e0]])):=by
   subst hN
   rw [aRo (by intro k hk; simp at hk; omega)]
   simp
 rw [e1,e2,e3]
 have ho2:dV 2 N (Vo.freeze [g.length] (g++[AObj.arr false 2 [.i .i64 idx,.e0]])) out cells0 m:=by
   rcases ho with h | ⟨io,a,b,c⟩
   · exact .inl h
   · refine .inr ⟨io,a,?_,c⟩
     have hlo:=aQ b
     rw [iT,aD hlo,b,cJ,if_neg (by simp; omega)]
 refine dU (pre:=pre) (more:=[]) (news:=[.i .i64 idx,.sl [] 0]) (m:=1) ho2 hN (by simp) bNh aNi aOd aTs rfl (by decide) (by simp [jU,pers,persL]) (by simp [K9]) ⟨by omega,by omega⟩ ?_
 intro out' g' ho' _
 exact k out' g' ho'
end
theorem bDi (a:LAsk) (ha:OkK a): CT 118 [.agg (aJ a)] (.agg (aJ a)):=by
 refine bQ mixed Tryz.func118 g0 ?_
 · simp -implicitDefEqProofs (disch:=omega) only [Tryz.f118,go_sem,List.replicate,↓reduceIte,reduceAdd,reduceSub,reduceMul,reduceLeDiff,reduceLT,reduceEqDiff,reduceNeg,Nat.reduceBEq,aJ,avt]
   have c:=bDz a.test.term ha.test.term
   have hp:=ha.path
   simp only [elT,bC,avt] at c
   (refine zy2 (zA2 @aJ.eq_1 @avt.eq_1) (aTk a.path ha.path) c ?_; repeat' first | exact trivial | refine zJ ?_ ?_ | refine zH fun hc=>?_)
   all_goals exact aF rfl (by simp [pers,persL,iH,eP])
theorem aYx {pre g:List AObj} {sz n:Nat} {out:AV} {cells:List AV} (ho:dV sz pre.length g out cells n) (hp:persL cells=true):lD (pre++g) out (.sl cells n)∧bW out (.sl cells n)=[]:=by
 rcases ho with ⟨rfl,rfl,rfl⟩ | ⟨i,rfl,hi,hl⟩
 · exact ⟨rfl,rfl⟩
 · refine ⟨?_,rfl⟩
   show AV.sl cells n=gH dep (pre++g) (.hs (i+pre.length) 0 n false)
   have hg:(pre++g)[i+pre.length]? = some (.arr false sz cells):=by
     rw [aK (by omega)]; simpa using hi
   have hd:(cells.drop 0).take (n * sz)=cells:=by rw [cZ,aH (by omega)]
   simp only [fV,pers,rH,hg,hd,hp,if_true,aM,if_false]
   rw [if_pos (by omega)]
theorem aYw {h:List AObj} {x:AV} (hp:pers x=true) (hn:∀ l,x ≠ .agg l) (hn2:∀ l,x ≠ .tup l):lD h x x:=by
 have e:gH dep h x=x:=by rw [fV,if_pos hp]
 cases x <;> first | exact e.symm | exact absurd rfl (hn _) | exact absurd rfl (hn2 _)
theorem aUd {l:List cA} (h:l.length=1):avx l=.sl (bX (l.getD 0 default)) 1:=by
 match l,h with
 | [y],_=>simp [avx]
theorem aIg {pre g:List AObj} {out:AV} {x:cA} {a b:AV} (ho:dV 2 pre.length g out (x.rows.flatMap bM) x.rows.length) (ha:a=avx x.yes∨(a=.e0∧x.yes=[])) (hb:b=avx x.no∨(b=.e0∧x.no=[])) :
   Fin (pre++g) (.agg (out::(aJ x.ask++[a,b]))) (elX x):=by
 obtain ⟨o1,o2⟩:=aYx ho jM
 have q:∀ {c:List AV} {k:Nat},persL c=true→lD (pre++g) (.sl c k) (.sl c k):=fun h=>aYw h (fun _ e=>by cases e) (fun _ e=>by cases e)
 have fa:lD (pre++g) a (avx x.yes)∧bW a (avx x.yes)=[]:=by
   rcases ha with rfl | ⟨rfl,e⟩
   · exact ⟨q aAm,rfl⟩
   · rw [e]; exact ⟨rfl,rfl⟩
 have fb:lD (pre++g) b (avx x.no)∧bW b (avx x.no)=[]:=by
   rcases hb with rfl | ⟨rfl,e⟩
   · exact ⟨q aAm,rfl⟩
   · rw [e]; exact ⟨rfl,rfl⟩
 have e0:bW (.agg (out::(aJ x.ask++[a,b]))) (elX x)=[]:=by
   rw [elX,cW]
   simp only [aJ,bR,cH,bW,finIdsL]
   rw [show bW out (avr x.rows)=[] from o2,fa.2,fb.2]; rfl
 refine .inr ⟨?_,by rw [e0]; exact cR,by rw [e0]; simp⟩
 rw [elX,cW]
 exact ⟨o1,q eP,rfl,rfl,rfl,rfl,rfl,q iH,q iH,rfl,rfl,fa.1,fb.1,trivial⟩
theorem aIu (x:cA) (hx:OkV x) (hno:x.yes.length ≠ 0→x.yes.length=1∧x.no.length=1) (hno0:x.yes.length=0→x.no.length=0) (hr:x.yes.length ≠ 0→x.rows.length=0) (ihy:∀ y ∈ x.yes,CT 68 [elX y] (elX y)) (ihn:∀ y ∈ x.no,CT 68 [elX y] (elX y)): CT 68 [elX x] (elX x):=by
 refine cY (rx:=true) (th:=fun i=>if i=15 then some ⟨some 2,[],true,false,false,[],[]⟩ else none) mixed Tryz.func68 g0 ?_
 · simp -implicitDefEqProofs (disch:=omega) only [Tryz.f68,go_sem,List.replicate,↓reduceIte,reduceAdd,reduceSub,reduceMul,reduceLeDiff,reduceLT,reduceEqDiff,reduceNeg,Nat.reduceBEq]
   obtain ⟨x1,x2,x3⟩:OkK x.ask∧x.rows.length≤1000000∧(∀ r ∈ x.rows,r.left.length≤1000000∧∀ a ∈ r.left,OkK a):=by cases hx; exact ⟨by assumption,by assumption,by assumption⟩
   have c1:=bDi x.ask x1
   simp only [aJ,avt] at c1
   (refine zt1 c1 ?_; repeat' first | exact trivial | refine zJ ?_ ?_ | refine zH fun hc=>?_)
   refine bP (fun (q:Nat × AV × List AObj)=>[.k,.k,.k,.k,.k,.k,.j,.j,.k,.j,.k,.k,.k,.k,.k,.k,.k,.k,.v (.i .i64 (q.1:Nat)),.j,.j,.j,.j,.j,.j,.j,.j,.j,.j,.j,.j,.j,.j,.j,.j,.j,.j,.j,.j,.j,.j,.j,.j,.j,.j,.j,.k,.k,.k,.k,.k,.k,.k,.k,.k,.k,.k,.k,.k,.k,.k,.k,.k,.k,.k]) (fun q=>(.box false [.sl ((x).rows.flatMap bM) (x).rows.length,.sl ((x).ask.path.map (.i .i64)) (x).ask.path.length,.i .i64 (x).ask.test.op,.i .i64 (x).ask.test.term.kind,.i .i64 (x).ask.test.term.n,.s (x).ask.test.term.text,.s (x).ask.test.term.sort,.sl ((x).ask.test.term.kids.flatMap aC) (x).ask.test.term.kids.length,.sl ((x).ask.test.term.rest.flatMap aC) (x).ask.test.term.rest.length,.s (x).ask.test.text,.i .i64 (x).ask.test.n,.sl ((x).yes.flatMap bX) (x).yes.length,.sl ((x).no.flatMap bX) (x).no.length]::.box false ZX::.box false [q.2.1,.sl (x.ask.path.map (.i .i64)) x.ask.path.length,.i .i64 x.ask.test.op,.i .i64 x.ask.test.term.kind,.i .i64 x.ask.test.term.n,.s x.ask.test.term.text,.s x.ask.test.term.sort,.sl (x.ask.test.term.kids.flatMap aC) x.ask.test.term.kids.length,.sl (x.ask.test.term.rest.flatMap aC) x.ask.test.term.rest.length,.s x.ask.test.text,.i .i64 x.ask.test.n,.e0,.e0]::q.2.2)) (fun q=>q.1≤x.rows.length∧dV 2 3 q.2.2 q.2.1 ((x.rows.take q.1).flatMap bM) q.1) (fun q=>x.rows.length - q.1) ((0,.e0,[])) ⟨aG _,jC⟩ rfl (by simp [eN]) ?_
   rintro ⟨k,out,g⟩ j ⟨hk,ho⟩
   dsimp only at hk ho
   by_cases hlt:k < x.rows.length
   · have hki:(k:Int) < ((x.rows.length:Nat):Int):=by omega
     have hm:=aU (d:=default) hlt
     obtain ⟨q1,q2⟩:=x3 _ hm
     refine zh (zA2 (zt hki) @bM.eq_1) ?_
     (refine zx0 (zA2 (zt hki) @bM.eq_1) ?_; repeat' first | exact trivial | refine zJ ?_ ?_ | refine zH fun hc=>?_)
     refine bP (fun (q:Nat × AV × List AObj)=>[.k,.k,.k,.k,.k,.k,.k,.v (q.2.1),.k,.j,.k,.k,.k,.k,.k,.k,.k,.k,.k,.k,.k,.k,.k,.k,.k,.v (.i .i64 (q.1:Nat)),.j,.j,.j,.j,.j,.j,.j,.j,.j,.j,.k,.k,.k,.k,.k,.k,.k,.k,.k,.k,.k,.k,.k,.k,.k,.k,.k,.k,.k,.k,.k,.k,.k,.k,.k,.k,.k,.k,.k]) (fun q=>(.box false [.sl ((x).rows.flatMap bM) (x).rows.length,.sl ((x).ask.path.map (.i .i64)) (x).ask.path.length,.i .i64 (x).ask.test.op,.i .i64 (x).ask.test.term.kind,.i .i64 (x).ask.test.term.n,.s (x).ask.test.term.text,.s (x).ask.test.term.sort,.sl ((x).ask.test.term.kids.flatMap aC) (x).ask.test.term.kids.length,.sl ((x).ask.test.term.rest.flatMap aC) (x).ask.test.term.rest.length,.s (x).ask.test.text,.i .i64 (x).ask.test.n,.sl ((x).yes.flatMap bX) (x).yes.length,.sl ((x).no.flatMap bX) (x).no.length]::.box false ZX::.box false [out,.sl (x.ask.path.map (.i .i64)) x.ask.path.length,.i .i64 x.ask.test.op,.i .i64 x.ask.test.term.kind,.i .i64 x.ask.test.term.n,.s x.ask.test.term.text,.s x.ask.test.term.sort,.sl (x.ask.test.term.kids.flatMap aC) x.ask.test.term.kids.length,.sl (x.ask.test.term.rest.flatMap aC) x.ask.test.term.rest.length,.s x.ask.test.text,.i .i64 x.ask.test.n,.e0,.e0]::q.2.2)) (fun q=>q.1≤(x.rows.getD k default).left.length∧dV 2 3 q.2.2 out ((x.rows.take k).flatMap bM) k∧dV 10 3 q.2.2 q.2.1 (((x.rows.getD k default).left.take q.1).flatMap aJ) q.1∧q.2.2[g.length]? = some (.box false [.i .i64 (x.rows.getD k default).index,.sl ((x.rows.getD k default).left.flatMap aJ) (x.rows.getD k default).left.length])) (fun q=>(x.rows.getD k default).left.length - q.1) ((0,.e0,g++[.box false [.i .i64 (x.rows.getD k default).index,.sl ((x.rows.getD k default).left.flatMap aJ) (x.rows.getD k default).left.length]])) ⟨aG _,ho.more _,jC,by simp⟩ rfl (by simp [eN]) ?_
     rintro ⟨e,o2,g2⟩ j2 ⟨he,ho1,ho2,hrow⟩
     dsimp only at he ho1 ho2 hrow
     by_cases het:e < (x.rows.getD k default).left.length
     · have hei:(e:Int) < (((x.rows.getD k default).left.length:Nat):Int):=by omega
       have c2:=bDi _ (q2 _ (aU (d:=default) het))
       simp only [aJ,avt] at c2
       refine zh (zA2 (zt hei) (zA2 @aJ.eq_1 @avt.eq_1)) ?_
       (refine zy1 (zA2 (zt hei) (zA2 @aJ.eq_1 (zA2 @avt.eq_1 (zA2 @fU (zA2 @bS.{0} (zA2 @cB.{0} @List.append_nil.{0})))))) c2 ?_; repeat' first | exact trivial | refine zJ ?_ ?_ | refine zH fun hc=>?_)
       refine dU (pre:=[_,_,_]) (news:=[.sl (((x.rows.getD k default).left.getD e default).path.map (.i .i64)) ((x.rows.getD k default).left.getD e default).path.length,.i .i64 ((x.rows.getD k default).left.getD e default).test.op,.i .i64 ((x.rows.getD k default).left.getD e default).test.term.kind,.i .i64 ((x.rows.getD k default).left.getD e default).test.term.n,.s ((x.rows.getD k default).left.getD e default).test.term.text,.s ((x.rows.getD k default).left.getD e default).test.term.sort,.sl (((x.rows.getD k default).left.getD e default).test.term.kids.flatMap aC) ((x.rows.getD k default).left.getD e default).test.term.kids.length,.sl (((x.rows.getD k default).left.getD e default).test.term.rest.flatMap aC) ((x.rows.getD k default).left.getD e default).test.term.rest.length,.s ((x.rows.getD k default).left.getD e default).test.text,.i .i64 ((x.rows.getD k default).left.getD e default).test.n]) (m:=1) ho2 rfl rfl bKr bKj bKl bKs rfl (by decide) (by simp -implicitDefEqProofs (disch:=omega) only [go_sem,↓reduceIte,reduceAdd,reduceSub,reduceMul,reduceLeDiff,reduceLT,reduceEqDiff,reduceNeg,Nat.reduceBEq]) (by simp -implicitDefEqProofs (disch:=omega) only [go_sem,↓reduceIte,reduceAdd,reduceSub,reduceMul,reduceLeDiff,reduceLT,reduceEqDiff,reduceNeg,Nat.reduceBEq]) ⟨by omega,by omega⟩ ?_
       intro o2' g' ho2' hst
       refine zg ?_
       refine ⟨(e+1,o2',g'),⟨by dsimp only; omega,ho1.stay (by decide) hst,?_,hst _ _ hrow (fun c h=>by cases h)⟩,by dsimp only; omega,rfl,rfl,by simp⟩
       dsimp only
       rw [kA het,dP]
       simp only [dJ,jL,List.append_nil]
       exact ho2'
     · have hei:¬ (e:Int) < (((x.rows.getD k default).left.length:Nat):Int):=by omega
       have hkt:(x.rows.getD k default).left.take e=(x.rows.getD k default).left:=aH (by omega)
       rw [hkt] at ho2
       have hel:e=(x.rows.getD k default).left.length:=by omega
       subst hel
       have hta:=kA hlt
       have e3:(x.rows.take (k+1)).flatMap bM=(x.rows.take k).flatMap bM++bM (x.rows.getD k default):=by
         rw [hta,dP]; simp
       rcases ho2 with ⟨rfl,hc0,hn0⟩ | ⟨i,rfl,hi,hil⟩
       · refine zh (zA2 (zf hei) (zA2 hrow (zA2 @fU (zA2 @bS.{0} (zA2 @cB.{0} @List.append_nil.{0}))))) ?_
         refine bBc (N:=3) (pre:=[_,_,_]) rfl ho1 (by omega) rfl ?_
         intro out' g' ho'
         rcases ho' with ⟨_,_,h⟩ | ⟨i',rfl,hi',hil'⟩
         · omega
         have e4:bM (x.rows.getD k default)=[.i .i64 (x.rows.getD k default).index,.sl [] 0]:=by rw [bM,hc0,hn0]
         rw [e4] at e3
         refine zg ?_
         exact ⟨(k+1,.hs (i'+3) 0 (k+1) false,g'),⟨by dsimp only; omega,.inr ⟨i',rfl,by dsimp only; rw [e3]; exact hi',by dsimp only; rw [e3]; exact hil'⟩⟩,by dsimp only; omega,rfl,by simp⟩
       · refine zh (zA2 (zf hei) (zA2 hrow (zA2 @fU (zA2 @bS.{0} (zA2 @cB.{0} @List.append_nil.{0}))))) ?_
         refine bBb (N:=3) (pre:=[_,_,_]) rfl hi rU hil ho1 (by omega) rfl ?_
         intro out' g' ho'
         rcases ho' with ⟨_,_,h⟩ | ⟨i',rfl,hi',hil'⟩
         · omega
         refine zg ?_
         exact ⟨(k+1,.hs (i'+3) 0 (k+1) false,g'),⟨by dsimp only; omega,.inr ⟨i',rfl,by dsimp only; rw [e3]; exact hi',by dsimp only; rw [e3]; exact hil'⟩⟩,by dsimp only; omega,rfl,by simp⟩
   · have hki:¬ (k:Int) < ((x.rows.length:Nat):Int):=by omega
     have hkt:x.rows.take k=x.rows:=aH (by omega)
     rw [hkt] at ho
     obtain rfl:k=x.rows.length:=by omega
     by_cases hy:x.yes.length=0
     · have hy0:¬ (0:Int) < ((x.yes.length:Nat):Int):=by omega
       refine zh (zA2 (zf hki) (zf hy0)) ?_
       (refine zx0 (zA2 (zf hki) (zf hy0)) ?_; repeat' first | exact trivial | refine zJ ?_ ?_ | refine zH fun hc=>?_)
       all_goals exact aIg (pre:=[_,_,_]) ho (.inr ⟨rfl,List.length_eq_zero_iff.1 hy⟩) (.inr ⟨rfl,List.length_eq_zero_iff.1 (hno0 hy)⟩)
     · have hy0:(0:Int) < ((x.yes.length:Nat):Int):=by omega
       obtain ⟨a,b⟩:=hno hy
       have cy:=ihy _ (aU (d:=default) (l:=x.yes) (k:=0) (by omega))
       have cn:=ihn _ (aU (d:=default) (l:=x.no) (k:=0) (by omega))
       simp only [elX,cW,avr,avt,avx] at cy cn
       refine zh (zA2 (zf hki) (zt hy0)) ?_
       (refine zy2 (zA2 (zf hki) (zA2 (zt hy0) (zA2 @fU (zA2 @bS.{0} (zA2 @cB.{0} @List.append_nil.{0}))))) cy cn ?_; repeat' first | exact trivial | refine zJ ?_ ?_ | refine zH fun hc=>?_)
       all_goals exact aIg (pre:=[_,_,_]) ho (.inl (by rw [aUd a,cW]; rfl)) (.inl (by rw [aUd b,cW]; rfl))
theorem bOs (s:bZ):∀ (x:cA),OkV x→nodesV s x=true→CT 68 [elX x] (elX x):=
 kO (Q := fun x=>OkV x→nodesV s x=true→CT 68 [elX x] (elX x)) fun x hy hn hx hv=>by
   have hh:(∀ k ∈ x.yes,OkV k)∧(∀ k ∈ x.no,OkV k):=by cases hx; exact ⟨by assumption,by assumption⟩
   have e:=lY s x
   rw [hv] at e
   by_cases h0:x.yes.length+x.no.length=0
   · exact aIu x hx (fun h=>by omega) (fun _=>by omega) (fun h=>by omega) (fun y m=>absurd (dZ m) (by omega)) (fun y m=>absurd (dZ m) (by omega))
   · rw [if_neg h0] at e
     have e:=e.symm
     simp only [aA,decide_eq_true_eq] at e
     obtain ⟨e1,e2,e3,_,e5,e6⟩:=e
     have one:∀ {l:List cA} {y:cA},l.length=1→y ∈ l→y=l.getD 0 default:=fun {l y} h m=>by
       match l,h with
       | [z],_=>simpa using m
     exact aIu x hx (fun _=>⟨e2,e3⟩) (fun h=>by omega) (fun _=>e1) (fun y m=>hy y m (hh.1 y m) (by rw [one e2 m]; exact e5)) (fun y m=>hn y m (hh.2 y m) (by rw [one e3 m]; exact e6))

theorem aAq:∀ {p:List Int},(∀ i ∈ p,0≤i∧i≤2000)→(mN p).length≤p.length * 22
 | [],_=>by simp [mN]
 | i::p,h=>by
   have h1:=h i (by simp)
   have:=Lib.itoa_length_le i (by omega) (by omega)
   have:=aAq (p:=p) (fun j hj=>h j (by simp [hj]))
   rw [mN,aE,aI,aI]; omega
theorem aNo {t:LTerm} (hk:1≤t.kind∧t.kind≤4) (hn:nodeB t=true) (h2:OkT t):(hJ t).length≤300:=by
 rw [pV]
 rw [nodeB] at hn
 rcases (by omega:t.kind=1∨t.kind=2∨t.kind=3∨t.kind=4) with e | e | e | e
 · simp only [e,if_true]
   have:=h2.nlo
   have:=h2.nhi
   exact dI (Lib.itoa_length_le _ (by omega) (by omega)) (by decide)
 · simp only [e,(by decide:¬ (2:Int)=1),if_false,if_true,aFo]
   split <;> decide
 · simp only [e,(by decide:¬ (3:Int)=1),(by decide:¬ (3:Int)=2),if_false,if_true,aA,wA,decide_eq_true_eq] at hn ⊢
   have:=hn.1.2
   simp only [aI,aE,aX]; omega
 · simp only [e,(by decide:¬ (4:Int)=1),(by decide:¬ (4:Int)=2),(by decide:¬ (4:Int)=3),if_false,if_true,aA,aYg,dN,decide_eq_true_eq] at hn ⊢
   have:=hn.1.1.1.1.1.1.1.2
   simp only [aI]; omega
theorem bMp {s:bZ} {a:LAsk} (h:TOk s a) (ho:OkX a.test):KeyOk a:=by
 obtain ⟨g,hv,ht⟩:=h
 have hp:=bAx hv
 have hv2:=hv
 rw [isAskV] at hv2
 simp only [aA,decide_eq_true_eq,bV,eW] at hv2
 have hpi:∀ i ∈ a.path,0≤i∧i≤2000:=fun i hi=>by
   have:=hv2.2.1 i hi
   simp only [pN,bJ,decide_eq_true_eq,not_or] at this
   exact ⟨by omega,by omega⟩
 have hpl:=aAq hpi
 have hon:(1≤a.test.op∧a.test.op≤7) ∧ -9223372036854775807≤a.test.n∧a.test.n≤9223372036854775807:=by
   have:=hv2.2.2
   rw [jH] at this
   by_cases h1:a.test.op=1
   · rw [if_pos h1] at this
     simp only [aA,decide_eq_true_eq] at this
     omega
   by_cases h2:a.test.op=2
   · rw [if_neg h1,if_pos h2] at this
     simp only [aA,decide_eq_true_eq] at this
     omega
   by_cases h3:a.test.op=3∨a.test.op=4
   · rw [if_neg h1,if_neg h2,if_pos h3] at this
     simp only [aA,decide_eq_true_eq] at this
     omega
   by_cases h5:a.test.op=5∨a.test.op=7
   · rw [if_neg h1,if_neg h2,if_neg h3,if_pos h5] at this
     simp only [aA,decide_eq_true_eq] at this
     omega
   by_cases h6:a.test.op=6
   · rw [if_neg h1,if_neg h2,if_neg h3,if_neg h5,if_pos h6] at this
     simp only [aA,decide_eq_true_eq] at this
     omega
   rw [if_neg h1,if_neg h2,if_neg h3,if_neg h5,if_neg h6] at this
   cases this
 obtain ⟨hop,hnn⟩:=hon
 have l1:=Lib.itoa_length_le a.test.op (by omega) (by omega)
 have l2:=Lib.itoa_length_le a.test.n (by omega) (by omega)
 have l3:(yZ a.test).length≤400:=by
   rw [yZ]
   split
   · rename_i h1
     obtain ⟨k1,k2⟩:=g.one h1
     have:=aNo k1 k2 ho.term
     have:=Lib.itoa_length_le a.test.term.kind (by omega) (by omega)
     simp only [aI,aE]; omega
   · simp
 refine ⟨ho,hp,g,?_,by omega,hnn⟩
 rw [keyS]
 simp only [aE,aI]
 omega
theorem C5:∀ {l:List LTerm} {i:Nat},(lC l i).length=l.length
 | [],_=>rfl
 | p::l,i=>by rw [lC,aI,aI,C5]
theorem G4 {s:bZ}:∀ {l:List LTerm},(∀ p ∈ l,xD s p=true)→pM l≤l.length * 2000
 | [],_=>by simp [pM]
 | p::l,h=>by
   have:=(uB (h p (by simp))).1
   have:=G4 (l:=l) (fun q hq=>h q (by simp [hq]))
   rw [pM,aI]; omega
theorem aGu {s:bZ} {l:List LTerm} (h:∀ p ∈ l,xD s p=true) (ho:∀ p ∈ l,OkT p) (hl:l.length≤100):pS (lC l 0)∧nQ (lC l 0)≤1000000:=by
 have inv:=rR h
 have hc:=G4 h
 refine ⟨⟨by rw [C5]; omega,fun r hr=>by have:=inv.len r hr; omega,inv.nod,fun r hr a ha=>?_⟩,by rw [B6]; omega⟩
 obtain ⟨p,hp,e,_⟩:=vD r hr
 rw [e] at ha
 have hh:=sO (lL (h p hp))
 exact bMp ((uB (h p hp)).2 a ha) (Y7 p (ho p hp) [] (by simp only [aX]; omega) (by simp) a ha).test
theorem bCn:OkK zA:=⟨⟨aEe,by simp⟩,by simp⟩
theorem pS.okK {s:bZ} {l:List gZ} (h:pS l) (hi:aCu s l):∀ r ∈ l,r.left.length≤1000000∧∀ a ∈ r.left,OkK a:=fun r hr=>⟨h.left r hr,fun a ha=>⟨(h.key r hr a ha).k,by
 have:=hi.ask r hr a ha
 simp only [isAskV,aA,decide_eq_true_eq] at this
 omega⟩⟩
theorem zX {s:bZ}:∀ {f:Nat} {b:Int} {l:List gZ},pS l→aCu s l→OkV (gJ f b l).1
 | 0,b,l,h,hi=>by
   rw [gJ]
   exact .mk bCn h.len (h.okK hi) (by simp [cA.yes]) (by simp [cA.no]) (fun k hk=>by cases hk) (fun k hk=>by cases hk)
 | f + 1,b,l,h,hi=>by
   rw [qJ]
   split
   · exact .mk bCn h.len (h.okK hi) (by simp [cA.yes]) (by simp [cA.no]) (fun k hk=>by cases hk) (fun k hk=>by cases hk)
   · rename_i hc
     obtain ⟨r,hr,hb⟩:=wU (l:=l) (fun e=>hc (.inl e))
     refine .mk ((h.okK hi r hr).2 _ hb) (by simp [cA.rows]) (fun r hr=>by cases hr) (by simp [cA.yes]) (by simp [cA.no]) (fun k hk=>?_) (fun k hk=>?_)
     · obtain rfl:=aS.1 hk
       exact zX h.wT hi.wT
     · obtain rfl:=aS.1 hk
       exact zX h.wF hi.wF
theorem yK:∀ {l m:List LTerm} {i:Nat},lC (l++m) i=lC l i++lC m (i+l.length)
 | [],m,i=>rfl
 | p::l,m,i=>by rw [bR,lC,lC,yK,aI,bR,show i+1+l.length=i+(l.length+1) by omega]
theorem aLb {l:List LTerm} {i k:Nat} (h:k < l.length):lC (l.take (k+1)) i=lC (l.take k) i++[⟨((i+k:Nat):Int),cK (l.getD k default) []⟩]:=by
 rw [kA h,yK,dS,Nat.min_eq_left (by omega)]; rfl
theorem aAl:∀ {l:List AV},persL l=true→l.all aIn=true
 | [],_=>rfl
 | a::l,h=>by
   rw [persL,aA] at h
   rw [eC,aAl h.2,Bool.and_true]
   cases a <;> first | rfl | exact h.1
theorem aQz {A B o:AObj} {g:List AObj} {out:AV} {cells:List AV} {n:Nat} (ho:dV 2 2 g out cells n) (hp:persL cells=true) :
   gH dep (A::B::(g++[o])) out=.sl cells n∧∃ g',g'.length=g.length∧Vo.freeze (dR dep (A::B::(g++[o])) out) (A::B::(g++[o]))=A::B::(g'++[o]):=by
 rcases ho with ⟨rfl,rfl,rfl⟩ | ⟨i,rfl,hi,hl⟩
 · exact ⟨rfl,g,rfl,by rw [M8 rfl]; rfl⟩
 · have hlt:=aQ hi
   have hg:(A::B::(g++[o]))[i+2]? = some (.arr false 2 cells):=by
     show (g++[o])[i]? = _
     rw [aD hlt]; exact hi
   have hd:(cells.drop 0).take (n * 2)=cells:=by rw [cZ,aH (by omega)]
   refine ⟨?_,g.modify i AObj.fz,by simp,?_⟩
   · simp only [fV,pers,rH,hg,hd,hp,if_true,aM,if_false]
     rw [if_pos (by omega)]
   · rw [Q6,hg]
     simp only [hsQ,aAl hp,if_true,Vo.freeze]
     show A::B::(g++[o]).modify i AObj.fz=_
     congr 2
     apply L4
     intro j
     by_cases hj:j < g.length
     · rw [kE,aD hj,aD (by simpa using hj),kE]
     · rw [kE,aK (by omega),aK (by simp; omega)]
       have:¬ i=j:=by omega
       simp [this]
def H7 (r:cA × Int):AV:=.tup [elX r.1,.i .i64 r.2]
theorem aPq {x:cA} {c:Int}:pers (.tup [elX x,.i .i64 c])=true:=by
 simp [pers,persL,elX,Q9]
theorem bPc (s:bZ) (l:List LTerm) (hm:Small s) (hs:OkS s) (hl:l.length≤1466015503701) (ho:∀ p ∈ l,OkT p): CT 26 [.agg (aO s),avt l] (H7 (jE s l)):=by
 refine bQ mixed Tryz.func26 g0 ?_
 · generalize hR:((H7 (jE s l)):AV)=R
   simp -implicitDefEqProofs (disch:=omega) only [Tryz.f26,go_sem,List.replicate,↓reduceIte,reduceAdd,reduceSub,reduceMul,reduceLeDiff,reduceLT,reduceEqDiff,reduceNeg,Nat.reduceBEq,avt]
   have c1:=bDl s l hm hs hl ho
   simp only [avt] at c1
   rcases eM (gP s l) with h1 | h1
   · rw [h1] at c1
     obtain ⟨hv,h100,hpl⟩:=pC h1
     obtain ⟨ok1,ok2⟩:=aGu hpl ho h100
     have inv:=rR hpl
     (refine zt1 c1 ?_; repeat' first | exact trivial | refine zJ ?_ ?_ | refine zH fun hc=>?_)
     refine bP (fun (q:Nat × AV × List AObj)=>[.k,.k,.k,.k,.k,.k,.v (q.2.1),.j,.j,.k,.k,.k,.k,.k,.k,.k,.k,.v (.i .i64 (q.1:Nat)),.j,.j,.j,.j,.j,.j,.j,.j,.j,.j,.j,.j,.k,.k,.k,.k,.k,.k]) (fun q=>(.box false (aO s)::.box false ZX::q.2.2)) (fun q=>q.1≤l.length∧dV 2 2 q.2.2 q.2.1 ((lC (l.take q.1) 0).flatMap bM) q.1) (fun q=>l.length - q.1) ((0,.e0,[])) ⟨aG _,jC⟩ rfl (by simp [eN]) ?_
     rintro ⟨k,out,g⟩ j ⟨hk,ho'⟩
     dsimp only at hk ho'
     by_cases hlt:k < l.length
     · have hki:(k:Int) < ((l.length:Nat):Int):=by omega
       have hmm:=aU (d:=default) hlt
       have hp:=hpl _ hmm
       have hh:=sO (lL hp)
       have c4:=O9 (l.getD k default) (ho _ hmm) (by omega) (dI (oU _ []) (by omega))
       have e3:=aLb (i:=0) hlt
       simp only [ava,elT,bC,avt] at c4
       refine zh (zt hki) ?_
       (refine zy1 (zA2 (zt hki) (zA2 @fU (zA2 @bS.{0} (zA2 @cB.{0} @List.append_nil.{0})))) c4 ?_; repeat' first | exact trivial | refine zJ ?_ ?_ | refine zH fun hc=>?_)
       refine dU (pre:=[_,_]) (news:=[.i .i64 (k:Nat),.sl ((cK (l.getD k default) []).flatMap aJ) (cK (l.getD k default) []).length]) (m:=1) ho' rfl rfl bNh aNi aOd aTs rfl (by decide) (by simp -implicitDefEqProofs (disch:=omega) only [go_sem,↓reduceIte,reduceAdd,reduceSub,reduceMul,reduceLeDiff,reduceLT,reduceEqDiff,reduceNeg,Nat.reduceBEq]) (by simp -implicitDefEqProofs (disch:=omega) only [go_sem,↓reduceIte,reduceAdd,reduceSub,reduceMul,reduceLeDiff,reduceLT,reduceEqDiff,reduceNeg,Nat.reduceBEq]) ⟨by omega,by omega⟩ ?_
       intro out' g' ho2 _
       refine zg ?_
       refine ⟨(k+1,out',g'),⟨by dsimp only; omega,?_⟩,by dsimp only; omega,rfl,by simp⟩
       dsimp only
       rw [e3,dP]
       simpa [bM] using ho2
     · have hki:¬ (k:Int) < ((l.length:Nat):Int):=by omega
       have hkt:l.take k=l:=aH (by omega)
       rw [hkt] at ho'
       obtain rfl:k=l.length:=by omega
       have cm:=mk 499 1 4999 (lC l 0) ok1 ok2 (by decide) (by decide) (by decide) (by decide)
       have cc:=bOs s (gJ 499 4999 (lC l 0)).1 (zX ok1 inv) (pF inv)
       refine zh (zf hki) ?_
       obtain ⟨k1,g',k2,k3⟩:=aQz (A:=.box false [.sl (s.sorts.map .s) s.sorts.length,.sl (s.below.flatMap cD) s.below.length,.sl (s.ops.flatMap bK) s.ops.length,.sl (s.funs.flatMap bK) s.funs.length,.sl (s.values.map .s) s.values.length]) (B:=.box false ZX) (o:=.box false [.i .i64 4999]) ho' jM
       refine tU 1 rfl ?_
       rw [k1,k3]
       refine fI (H8 (g'.length+2) g0 cm rfl rfl (Q9 _) (by simp) (by simp only [List.set,renL,ren,avr,renL_pers _ _ jM,aFa,k2,C5,dK]; first | done | rfl)) ?_
       rintro r h' ⟨rfl,rfl⟩
       rw [show ∀ (A B:AObj) (x:AObj),(A::B::(g'++[AObj.box false [AV.i IntKind.i64 4999]])).set (g'.length+2) x=A::B::(g'++[x]) from fun A B x=>by simp]
       simp only [elX,cW,avr,avt,avx] at cc ⊢
       simp only [← k2]
       refine zg ?_
       (refine zt1 cc ?_; repeat' first | exact trivial | refine zJ ?_ ?_ | refine zH fun hc=>?_)
       subst hR
       have hb:jE s l=((gJ 499 4999 (lC l 0)).1,0):=by rw [jE,if_pos h1]
       rw [hb,H7]
       have hp:=aPq (x:=(gJ 499 4999 (lC l 0)).1) (c:=0)
       simp only [elX,cW,avr,avt,avx] at hp ⊢
       exact aF rfl hp
   · rw [h1] at c1
     (refine zt1 c1 ?_; repeat' first | exact trivial | refine zJ ?_ ?_ | refine zH fun hc=>?_)
     subst hR
     have hb:jE s l=(.mk [] zA [] [],2):=by rw [jE,h1,if_neg (by simp)]
     rw [hb]
     all_goals exact .inr ⟨by exact ⟨⟨rfl,rfl,rfl,rfl,rfl,rfl,rfl,rfl,rfl,rfl,rfl,rfl,rfl,trivial⟩,rfl,trivial⟩,cR,fun i hi=>absurd hi (by show ¬ i ∈ []; simp)⟩

theorem aUp {l:List LAsk} {a:LAsk} {k:Nat} (hk:k < l.length) (h:oH a (l.getD k default)=true):zM l a=true:=
 lG.2 ⟨_,aU hk,h⟩
theorem aNb {l:List LAsk} {a:LAsk} (h:∀ j,j < l.length→oH a (l.getD j default)=false):zM l a=false:=by
 rw [zM,eW]
 intro b hb
 obtain ⟨j,hj,rfl⟩:=List.getElem_of_mem hb
 have:=h j hj
 rw [mY,bG hj] at this
 simpa using this
theorem bDk (l:List LAsk) (a:LAsk) (hl:l.length≤2000000) (ol:∀ b ∈ l,OkK b) (oa:OkK a): CT 70 [ava l,.agg (aJ a)] (.b (zM l a)):=by
 refine cY (rx:=true) (th:=fun _=>none) mixed Tryz.func70 g0 ?_
 · simp -implicitDefEqProofs (disch:=omega) only [Tryz.f70,go_sem,List.replicate,↓reduceIte,reduceAdd,reduceSub,reduceMul,reduceLeDiff,reduceLT,reduceEqDiff,reduceNeg,Nat.reduceBEq,ava,aJ,avt]
   refine bP (fun (q:Nat × List AObj)=>[.k,.k,.k,.k,.j,.k,.j,.k,.k,.v (.i .i64 (q.1:Nat)),.j,.j,.j,.j,.j,.j,.j]) (fun q=>(.box false (aJ a)::q.2)) (fun q=>q.1≤l.length∧∀ j,j < q.1→oH a (l.getD j default)=false) (fun q=>l.length - q.1) ((0,[])) ⟨aG _,fun j h=>by omega⟩ rfl (by simp [eN]) ?_
   rintro ⟨k,g⟩ j ⟨hk,ha⟩
   dsimp only at hk ha
   by_cases hlt:k < l.length
   · have hki:(k:Int) < ((l.length:Nat):Int):=by omega
     have ob:=ol _ (aU (d:=default) hlt)
     have c:=bOy a (l.getD k default) oa.test.term ob.test.term oa.path ob.path
     simp only [aJ,avt] at c
     refine zh (zA2 (zt hki) (zA2 @aJ.eq_1 @avt.eq_1)) ?_
     (refine zy1 (zA2 (zt hki) (zA2 @aJ.eq_1 @avt.eq_1)) c ?_; repeat' first | exact trivial | refine zJ ?_ ?_ | refine zH fun hc=>?_)
     all_goals first
       | exact aF (by rw [aUp hlt hc]) rfl
       | (refine ⟨(k+1,_),⟨by dsimp only; omega,fun j hj=>?_⟩,by dsimp only; omega,rfl,by simp⟩
          rcases L3.1 hj with h | rfl
          · exact ha j h
          · exact hc)
   · have hki:¬ (k:Int) < ((l.length:Nat):Int):=by omega
     refine zh (zf hki) ?_
     exact aF (by rw [aNb (fun j hj=>ha j (by omega))]) rfl
theorem G3:∀ {l:List LTerm} {k:Nat},k < l.length→pM (l.take (k+1))=pM (l.take k)+(cK (l.getD k default) []).length
 | p::l,0,_=>by simp [pM]
 | p::l,k+1,h=>by
   have:=G3 (l:=l) (k:=k) (by simpa using h)
   rw [eO,eO,pM,pM,this,yD]; omega
def aVh (l:List LTerm):Int:=(pM l:Nat)
@[simp] theorem bTg:aVh []=0:=rfl
theorem bPa (s:bZ) (l:List LTerm) (hm:Small s) (hs:OkS s) (hl:l.length≤1000) (ho:∀ p ∈ l,OkT p) (hp:∀ p ∈ l,xD s p=true): CT 29 [.agg (aO s),avt l] (.i .i64 (aVh l)):=by
 refine bQ mixed Tryz.func29 g0 ?_
 · simp -implicitDefEqProofs (disch:=omega) only [Tryz.f29,go_sem,List.replicate,↓reduceIte,reduceAdd,reduceSub,reduceMul,reduceLeDiff,reduceLT,reduceEqDiff,reduceNeg,Nat.reduceBEq,avt]
   refine bP (fun (q:Nat × List AObj)=>[.k,.k,.k,.k,.k,.v (.i .i64 (aVh (l.take q.1))),.k,.j,.j,.j,.k,.k,.v (.i .i64 (q.1:Nat)),.j,.j,.j,.j,.j,.j,.j,.j,.j,.j,.j,.j,.j,.j,.k]) (fun q=>(.box false (aO s)::q.2)) (fun q=>q.1≤l.length) (fun q=>l.length - q.1) ((0,[])) (aG _) rfl (by simp [eN]) ?_
   rintro ⟨k,g⟩ j hk
   dsimp only at hk
   by_cases hlt:k < l.length
   · have hki:(k:Int) < ((l.length:Nat):Int):=by omega
     have hmm:=aU (d:=default) hlt
     have ht:=ho _ hmm
     have c:=bPj s (l.getD k default) hm hs ht (aRy s _ hm hs ht)
     have e:tM s (l.getD k default)=(cK (l.getD k default) [],0):=by rw [tM,if_pos (hp _ hmm)]
     rw [e] at c
     have e2:=G3 hlt
     have b1:=G4 (s:=s) (l:=l.take k) (fun p h=>hp p (nN h))
     have b2:=(uB (hp _ hmm)).1
     have hw:IntKind.i64.wrap (aVh (l.take k)+(((cK (l.getD k default) []).length:Nat):Int))=aVh (l.take (k+1)):=by
       simp only [aVh]
       rw [dS] at b1
       rw [wrap64 (by omega) (by omega),e2]; omega
     simp only [I3,elT,bC,avt,ava] at c
     refine zh (zt hki) ?_
     (refine zy1 (zA2 (zt hki) hw) c ?_; repeat' first | exact trivial | refine zJ ?_ ?_ | refine zH fun hc=>?_)
     exact ⟨(k+1,_),by dsimp only; omega,by dsimp only; omega,rfl,by simp⟩
   · have hki:¬ (k:Int) < ((l.length:Nat):Int):=by omega
     rw [aH (by omega)]
     refine zh (zf hki) ?_
     exact aF rfl rfl
theorem aOo {A:AObj} {g more:List AObj} {w:Nat} {out:AV} {cells:List AV} {n:Nat} (ho:dV w 1 g out cells n) (hp:persL cells=true):gH dep (A::(g++more)) out=.sl cells n:=by
 rcases ho with ⟨rfl,rfl,rfl⟩ | ⟨i,rfl,hi,hl⟩
 · rfl
 · have hlt:=aQ hi
   have hg:(A::(g++more))[i+1]? = some (.arr false w cells):=by
     show (g++more)[i]? = _
     rw [aD hlt]; exact hi
   have hd:(cells.drop 0).take (n * w)=cells:=by rw [cZ,aH (by omega)]
   simp only [fV,pers,rH,hg,hd,hp,if_true,aM,if_false]
   rw [if_pos (by omega)]
theorem aXi {before:List LAsk} {l:List gZ} {k:Nat} (hk:k < l.length) (h:zD before (l.getD k default).left=false):aLm before l=false:=by
 rw [aLm,fR]
 exact ⟨_,aU hk,by rw [h]; simp⟩
theorem aXh (x:cA) (before:List LAsk):uC x before=if 0 < x.yes.length then !zM before x.ask && (onceL x.yes (before++[x.ask]) && onceL x.no (before++[x.ask])) else aLm before x.rows:=by
 cases x; rw [uC]; rfl
theorem aAw {l:List cA} {before:List LAsk} (h:l.length=1):onceL l before=uC (l.getD 0 default) before:=by
 match l,h with
 | [y],_=>rfl
theorem aLn {now l:List LAsk} {e:Nat} (h:e < l.length):zD now (l.drop e)=(!zM now (l.getD e default) && zD (now++[l.getD e default]) (l.drop (e+1))):=by
 have:l.drop e=l.getD e default::l.drop (e+1):=by
   rw [mY,bG h]; exact bH h
 rw [this,zD]
theorem T6 (x:cA) (before:List LAsk) (hx:OkV x) (hno:x.yes.length ≠ 0→x.yes.length=1∧x.no.length=1) (hb:before.length≤1000000) (ob:∀ b ∈ before,OkK b) (ihy:∀ y ∈ x.yes,CT 28 [elX y,ava (before++[x.ask])] (.b (uC y (before++[x.ask])))) (ihn:∀ y ∈ x.no,CT 28 [elX y,ava (before++[x.ask])] (.b (uC y (before++[x.ask])))): CT 28 [elX x,ava before] (.b (uC x before)):=by
 refine cY (rx:=true) (th:=fun i=>if i=4 then some ⟨none,[],true,true,false,[],[]⟩ else none) mixed Tryz.func28 g0 ?_
 · simp -implicitDefEqProofs (disch:=omega) only [Tryz.f28,go_sem,List.replicate,↓reduceIte,reduceAdd,reduceSub,reduceMul,reduceLeDiff,reduceLT,reduceEqDiff,reduceNeg,Nat.reduceBEq,ava]
   obtain ⟨x1,x2,x3⟩:OkK x.ask∧x.rows.length≤1000000∧(∀ r ∈ x.rows,r.left.length≤1000000∧∀ a ∈ r.left,OkK a):=by cases hx; exact ⟨by assumption,by assumption,by assumption⟩
   have eq:=aXh x before
   by_cases hy:x.yes.length=0
   · rw [if_neg (by omega)] at eq
     have hy0:¬ (0:Int) < ((x.yes.length:Nat):Int):=by omega
     refine zh (zf hy0) ?_
     refine bP (fun (q:Nat × List AObj)=>[.k,.k,.k,.k,.j,.k,.k,.j,.j,.k,.j,.k,.k,.k,.k,.k,.k,.k,.k,.k,.k,.k,.k,.k,.k,.k,.k,.k,.k,.k,.k,.k,.k,.k,.k,.k,.k,.k,.k,.k,.k,.k,.k,.v (.i .i64 (q.1:Nat)),.j,.j,.j,.j,.j,.j,.j,.j,.j,.j,.j,.j,.j,.j,.j,.j,.j,.j,.j,.j,.j,.j]) (fun q=>(.box false [.sl ((x).rows.flatMap bM) (x).rows.length,.sl ((x).ask.path.map (.i .i64)) (x).ask.path.length,.i .i64 (x).ask.test.op,.i .i64 (x).ask.test.term.kind,.i .i64 (x).ask.test.term.n,.s (x).ask.test.term.text,.s (x).ask.test.term.sort,.sl ((x).ask.test.term.kids.flatMap aC) (x).ask.test.term.kids.length,.sl ((x).ask.test.term.rest.flatMap aC) (x).ask.test.term.rest.length,.s (x).ask.test.text,.i .i64 (x).ask.test.n,.sl ((x).yes.flatMap bX) (x).yes.length,.sl ((x).no.flatMap bX) (x).no.length]::q.2)) (fun q=>q.1≤x.rows.length∧∀ j,j < q.1→zD before (x.rows.getD j default).left=true) (fun q=>x.rows.length - q.1) ((0,[])) ⟨aG _,fun j h=>by omega⟩ rfl (by simp [eN]) ?_
     rintro ⟨k,g⟩ j ⟨hk,ha⟩
     dsimp only at hk ha
     by_cases hlt:k < x.rows.length
     · have hki:(k:Int) < ((x.rows.length:Nat):Int):=by omega
       have hmm:=aU (d:=default) hlt
       obtain ⟨l1,l2⟩:=x3 _ hmm
       refine zh (zA2 (zt hki) @bM.eq_1) ?_
       (refine zx0 (zA2 (zt hki) @bM.eq_1) ?_; repeat' first | exact trivial | refine zJ ?_ ?_ | refine zH fun hc=>?_)
       refine bP (fun (q:Nat × AV × List AObj)=>[.k,.k,.k,.k,.j,.k,.k,.k,.v (q.2.1),.k,.j,.k,.k,.k,.k,.k,.k,.k,.k,.k,.k,.k,.k,.k,.k,.k,.k,.k,.k,.k,.k,.k,.k,.k,.k,.k,.k,.k,.k,.k,.k,.k,.k,.k,.k,.k,.k,.k,.k,.k,.k,.k,.k,.v (.i .i64 (q.1:Nat)),.j,.j,.j,.j,.j,.j,.j,.j,.j,.j,.j,.k]) (fun q=>(.box false [.sl ((x).rows.flatMap bM) (x).rows.length,.sl ((x).ask.path.map (.i .i64)) (x).ask.path.length,.i .i64 (x).ask.test.op,.i .i64 (x).ask.test.term.kind,.i .i64 (x).ask.test.term.n,.s (x).ask.test.term.text,.s (x).ask.test.term.sort,.sl ((x).ask.test.term.kids.flatMap aC) (x).ask.test.term.kids.length,.sl ((x).ask.test.term.rest.flatMap aC) (x).ask.test.term.rest.length,.s (x).ask.test.text,.i .i64 (x).ask.test.n,.sl ((x).yes.flatMap bX) (x).yes.length,.sl ((x).no.flatMap bX) (x).no.length]::q.2.2)) (fun q=>q.1≤(x.rows.getD k default).left.length∧dV 10 1 q.2.2 q.2.1 ((before++(x.rows.getD k default).left.take q.1).flatMap aJ) (before.length+q.1)∧zD before (x.rows.getD k default).left=zD (before++(x.rows.getD k default).left.take q.1) ((x.rows.getD k default).left.drop q.1)) (fun q=>(x.rows.getD k default).left.length - q.1) ((0,.hs (g.length+1+1) 0 before.length false,g++[.box false [.i .i64 (x.rows.getD k default).index,.sl ((x.rows.getD k default).left.flatMap aJ) (x.rows.getD k default).left.length],.arr false 10 (before.flatMap aJ)])) ⟨aG _,.inr ⟨g.length+1,rfl,by simp,by rw [nS,List.append_nil,oC]; simp⟩,by simp⟩ rfl (by simp [eN]) ?_
       rintro ⟨e,out,g2⟩ j2 ⟨he,ho,hon⟩
       dsimp only at he ho hon
       by_cases het:e < (x.rows.getD k default).left.length
       · have hei:(e:Int) < (((x.rows.getD k default).left.length:Nat):Int):=by omega
         have hme:=aU (d:=default) het
         have oe:=l2 _ hme
         have c:=bDk (before++(x.rows.getD k default).left.take e) ((x.rows.getD k default).left.getD e default) (by rw [aE,dS]; omega) (fun b hb=>(bA.1 hb).elim (ob b) (fun h=>l2 b (nN h))) oe
         have el:(before++(x.rows.getD k default).left.take e).length=before.length+e:=by rw [aE,dS,Nat.min_eq_left (by omega)]
         rw [aLn het] at hon
         simp only [ava,el,aJ,avt] at c
         refine zh (zA2 (zt hei) (zA2 @aJ.eq_1 @avt.eq_1)) ?_
         (refine zx0 (zA2 (zt hei) (zA2 @aJ.eq_1 (zA2 @avt.eq_1 (zA2 @fU (zA2 @bS.{0} (zA2 @cB.{0} @List.append_nil.{0})))))) ?_; repeat' first | exact trivial | refine zJ ?_ ?_ | refine zH fun hc=>?_)
         refine bF c (by rw [aT,aOo ho rU]; (simp -implicitDefEqProofs (disch:=omega) only [aJ,avt,go_sem,↓reduceIte,reduceAdd,reduceSub,reduceMul,reduceLeDiff,reduceLT,reduceEqDiff,reduceNeg,Nat.reduceBEq])) ?_
         rcases eM (zM (before++(x.rows.getD k default).left.take e) ((x.rows.getD k default).left.getD e default)) with hc | hc
         · rw [hc,Bool.not_true,Bool.false_and] at hon
           rw [hc]
           refine zg ?_
           (refine zs0 ?_; repeat' first | exact trivial | refine zJ ?_ ?_ | refine zH fun hc=>?_)
           exact aF (by rw [eq,aXi hlt hon]) rfl
         · rw [hc,Bool.not_false,Bool.true_and] at hon
           rw [hc]
           refine zh (zA2 @fU (zA2 @bS.{0} (zA2 @cB.{0} @List.append_nil.{0}))) ?_
           refine dU (pre:=[_]) (news:=[.sl (((x.rows.getD k default).left.getD e default).path.map (.i .i64)) ((x.rows.getD k default).left.getD e default).path.length,.i .i64 ((x.rows.getD k default).left.getD e default).test.op,.i .i64 ((x.rows.getD k default).left.getD e default).test.term.kind,.i .i64 ((x.rows.getD k default).left.getD e default).test.term.n,.s ((x.rows.getD k default).left.getD e default).test.term.text,.s ((x.rows.getD k default).left.getD e default).test.term.sort,.sl (((x.rows.getD k default).left.getD e default).test.term.kids.flatMap aC) ((x.rows.getD k default).left.getD e default).test.term.kids.length,.sl (((x.rows.getD k default).left.getD e default).test.term.rest.flatMap aC) ((x.rows.getD k default).left.getD e default).test.term.rest.length,.s ((x.rows.getD k default).left.getD e default).test.text,.i .i64 ((x.rows.getD k default).left.getD e default).test.n]) (m:=1) ho rfl rfl bKr bKj bKl bKs rfl (by decide) (by simp -implicitDefEqProofs (disch:=omega) only [go_sem,↓reduceIte,reduceAdd,reduceSub,reduceMul,reduceLeDiff,reduceLT,reduceEqDiff,reduceNeg,Nat.reduceBEq]) (by simp -implicitDefEqProofs (disch:=omega) only [go_sem,↓reduceIte,reduceAdd,reduceSub,reduceMul,reduceLeDiff,reduceLT,reduceEqDiff,reduceNeg,Nat.reduceBEq]) ⟨by omega,by omega⟩ ?_
           intro out' g' ho' _
           refine zg ?_
           refine ⟨(e+1,out',g'),⟨by dsimp only; omega,?_,?_⟩,by dsimp only; omega,rfl,rfl,by simp⟩
           · dsimp only
             rw [kA het,← bL,dP]
             simp only [dJ,jL,List.append_nil]
             exact ho'
           · dsimp only
             rw [kA het,← bL]
             exact hon
       · have hei:¬ (e:Int) < (((x.rows.getD k default).left.length:Nat):Int):=by omega
         rw [aY (by omega),zD] at hon
         refine zh (zf hei) ?_
         (refine zx0 (zf hei) ?_; repeat' first | exact trivial | refine zJ ?_ ?_ | refine zH fun hc=>?_)
         exact ⟨(k+1,_),⟨by dsimp only; omega,bD ha hon⟩,by dsimp only; omega,rfl,by simp⟩
     · have hki:¬ (k:Int) < ((x.rows.length:Nat):Int):=by omega
       refine zh (zf hki) ?_
       exact aF (by rw [eq,aLm,aN.2 (fun r hr=>?_)]; obtain ⟨j,hj,rfl⟩:=List.getElem_of_mem hr; have:=ha j (by omega); rwa [mY,bG hj] at this) rfl
   · rw [if_pos (by omega)] at eq
     have hy0:(0:Int) < ((x.yes.length:Nat):Int):=by omega
     obtain ⟨a,b⟩:=hno hy
     have cy:=ihy _ (aU (d:=default) (l:=x.yes) (k:=0) (by omega))
     have cn:=ihn _ (aU (d:=default) (l:=x.no) (k:=0) (by omega))
     rw [aAw a,aAw b] at eq
     have c1:=bDk before x.ask (by omega) ob x1
     have e1:(before++[x.ask]).flatMap aJ=before.flatMap aJ++aJ x.ask:=by simp
     have e2:(before++[x.ask]).length=before.length+1:=by simp
     have q1:(before.flatMap aJ).length=before.length * 10:=oC
     have tl2:List.take ((before.length+1) * 10) (before.flatMap aJ++aJ x.ask)=before.flatMap aJ++aJ x.ask:=aH (by rw [aE,q1,I4]; omega)
     have hps:persL (before.flatMap aJ++aJ x.ask)=true:=by rw [gD,rU,bGk]; rfl
     have b1:(before.length * 160≤140737488355328)=True:=eq_true (by omega)
     have b7:((before.length+1) * 10≤before.length * 10+10)=True:=eq_true (by omega)
     simp only [elX,cW,avr,avt,avx,ava,e1,e2,aJ] at cy cn c1 tl2 hps
     generalize uC (x.yes.getD 0 default) (before++[x.ask])=Y at *
     generalize uC (x.no.getD 0 default) (before++[x.ask])=N at *
     generalize zM before x.ask=A at *
     refine zh (zt hy0) ?_
     (refine zy3 (zA2 (zt hy0) (zA2 @fU (zA2 @bS.{0} (zA2 @cB.{0} (zA2 @List.append_nil.{0} (zA2 @q1 (zA2 tl2 (zA2 hps b7)))))))) c1 cy cn ?_; repeat' first | exact trivial | refine zJ ?_ ?_ | refine zH fun hc=>?_)
     all_goals first | exact aF (by rw [eq]; simp_all) rfl | skip

def Dp:Nat→cA→Prop
 | 0,x=>x.yes.length=0
 | f+1,x=>(∀ y ∈ x.yes,Dp f y)∧(∀ y ∈ x.no,Dp f y)
theorem aEn:∀ {f:Nat} {b:Int} {l:List gZ},Dp f (gJ f b l).1
 | 0,b,l=>by rw [gJ]; rfl
 | f+1,b,l=>by
   rw [qJ]
   split
   · unfold Dp; exact ⟨fun y h=>(by cases h),fun y h=>(by cases h)⟩
   · unfold Dp; exact ⟨fun y h=>(by obtain rfl:=aS.1 h; exact aEn),fun y h=>(by obtain rfl:=aS.1 h; exact aEn)⟩
theorem bPb (s:bZ):∀ (f:Nat) (x:cA),Dp f x→OkV x→nodesV s x=true→∀ before:List LAsk,before.length+f≤1000000→(∀ b ∈ before,OkK b)→CT 28 [elX x,ava before] (.b (uC x before)):=by
 intro f
 induction f with
 | zero=>
   intro x hd hx hv before hb ob
   have e:=lY s x
   rw [hv] at e
   have hy:x.yes.length=0:=hd
   have hn:x.no.length=0:=by
     by_cases h0:x.yes.length+x.no.length=0
     · omega
     · rw [if_neg h0] at e
       have e:=e.symm
       simp only [aA,decide_eq_true_eq] at e
       omega
   exact T6 x before hx (fun h=>absurd hy h) (by omega) ob (fun y m=>absurd (dZ m) (by omega)) (fun y m=>absurd (dZ m) (by omega))
 | succ f ih=>
   intro x hd hx hv before hb ob
   have hd:(∀ y ∈ x.yes,Dp f y)∧(∀ y ∈ x.no,Dp f y):=hd
   have hh:(∀ k ∈ x.yes,OkV k)∧(∀ k ∈ x.no,OkV k)∧OkK x.ask:=by cases hx; exact ⟨by assumption,by assumption,by assumption⟩
   have e:=lY s x
   rw [hv] at e
   have ob2:∀ b ∈ before++[x.ask],OkK b:=fun b hb=>(bA.1 hb).elim (ob b) (fun h=>aS.1 h ▸ hh.2.2)
   have hb2:(before++[x.ask]).length+f≤1000000:=by simp; omega
   by_cases h0:x.yes.length+x.no.length=0
   · exact T6 x before hx (fun h=>by omega) (by omega) ob (fun y m=>absurd (dZ m) (by omega)) (fun y m=>absurd (dZ m) (by omega))
   · rw [if_neg h0] at e
     have e:=e.symm
     simp only [aA,decide_eq_true_eq] at e
     obtain ⟨e1,e2,e3,_,e5,e6⟩:=e
     have one:∀ {l:List cA} {y:cA},l.length=1→y ∈ l→y=l.getD 0 default:=fun {l y} h m=>by
       match l,h with
       | [z],_=>simpa using m
     exact T6 x before hx (fun _=>⟨e2,e3⟩) (by omega) ob (fun y m=>ih y (hd.1 y m) (hh.1 y m) (one e2 m ▸ e5) _ hb2 ob2) (fun y m=>ih y (hd.2 y m) (hh.2.1 y m) (one e3 m ▸ e6) _ hb2 ob2)
theorem aYt {l ts:List LTerm}:(l++ts).flatMap aC=l.flatMap aC++ts.flatMap aC:=dP
theorem bPn (s:bZ) (l ts:List LTerm) (hs:OkS s) (hl:l.length≤1048576) (ho:∀ p ∈ l,OkT p) (hl2:ts.length≤1048576) (ho2:∀ p ∈ ts,OkT p): CT 6 [.agg (aO s),avt l,avt ts] (.b true):=by
 refine cY (rx:=true) (th:=fun _=>none) mixed Tryz.func6 g0 ?_
 · generalize hR:((.b true):AV)=R
   simp -implicitDefEqProofs (disch:=omega) only [Tryz.f6,go_sem,List.replicate,↓reduceIte,reduceAdd,reduceSub,reduceMul,reduceLeDiff,reduceLT,reduceEqDiff,reduceNeg,Nat.reduceBEq,avt]
   subst hR
   have hlt:(l++ts).length≤1466015503701:=by simp; omega
   have hot:∀ p ∈ l++ts,OkT p:=fun p hp=>(bA.1 hp).elim (ho p) (ho2 p)
   have c1:=bPm s (l++ts) hs hlt hot
   have ca:=bPl
   have e2:(l++ts).length=l.length+ts.length:=by simp
   have q1:(l.flatMap aC).length=l.length * 6:=pW
   have q2:(ts.flatMap aC).length=ts.length * 6:=pW
   have tl1:List.take (l.length * 6) (l.flatMap aC)=l.flatMap aC:=aH (by omega)
   have tl3:List.take (ts.length * 6) (ts.flatMap aC)=ts.flatMap aC:=aH (by omega)
   have tl2:List.take ((l.length+ts.length) * 6) (l.flatMap aC++ts.flatMap aC)=l.flatMap aC++ts.flatMap aC:=aH (by rw [aE,q1,q2]; omega)
   have hps:persL (l.flatMap aC++ts.flatMap aC)=true:=by simp [gD,iH]
   have b7:((l.length+ts.length) * 6≤l.length * 6+ts.length * 6)=True:=eq_true (by omega)
   simp only [avt,aYt,e2] at c1
   rcases eM (few s && bTf 1500 (l++ts)) with h1 | h1
   · rw [h1] at c1
     have hm:=aSf ((aA _ _).mp h1).1
     have cb:=bPc s l hm hs (by omega) ho
     have cp:=bDo s l hm hs (by omega) ho
     rcases eM (gP s l) with h2 | h2
     · rw [h2] at cp
       obtain ⟨hv,h100,hpl⟩:=pC h2
       obtain ⟨ok1,ok2⟩:=aGu hpl ho h100
       have inv:=rR hpl
       have hb:jE s l=((gJ 499 4999 (lC l 0)).1,0):=by rw [jE,if_pos h2]
       have v0:=aCk h2
       have v1:=fun t:LTerm=>aMq (t:=t) h2
       have v2:OkV (jE s l).1:=by rw [hb]; exact zX ok1 inv
       have v3:nodesV s (jE s l).1=true:=by rw [hb]; exact pF inv
       have v4:Dp 499 (jE s l).1:=by rw [hb]; exact aEn
       have v5:(jE s l).2=0:=by rw [hb]
       have cv:=bPd s (jE s l).1 hm hs v2
       have co:=bPb s 499 (jE s l).1 v4 v2 v3 [] (by simp) (by simp)
       have cn:=bPa s l hm hs (by omega) ho hpl
       have hcn:0≤aVh l:=by rw [aVh]; omega
       rw [v0.1] at cv
       rw [v0.2] at co
       simp only [H7,v5] at cb
       clear hb
       generalize (jE s l).1=x at *
       simp only [elX,cW,avr,avt,avx,ava,jL,aX] at cb cp cv co cn
       (repeat' (first | refine gT ?_ ?_ | refine gF ?_ ?_ | refine gC ?_ ?_ | ((first | (refine bF (c1) ?_ ?_; (focus (simp -implicitDefEqProofs (disch:=omega) only [q1,q2,tl1,tl2,tl3,hps,b7,fU,bS,cB,List.append_nil,eq_self,decide_true,zdB,go_sem,↓reduceIte,reduceAdd,reduceSub,reduceMul,reduceLeDiff,reduceLT,reduceEqDiff,reduceNeg,Nat.reduceBEq]; done))) | (refine bF (ca) ?_ ?_; (focus (simp -implicitDefEqProofs (disch:=omega) only [q1,q2,tl1,tl2,tl3,hps,b7,fU,bS,cB,List.append_nil,eq_self,decide_true,zdB,go_sem,↓reduceIte,reduceAdd,reduceSub,reduceMul,reduceLeDiff,reduceLT,reduceEqDiff,reduceNeg,Nat.reduceBEq]; done))) | (refine bF (cb) ?_ ?_; (focus (simp -implicitDefEqProofs (disch:=omega) only [q1,q2,tl1,tl2,tl3,hps,b7,fU,bS,cB,List.append_nil,eq_self,decide_true,zdB,go_sem,↓reduceIte,reduceAdd,reduceSub,reduceMul,reduceLeDiff,reduceLT,reduceEqDiff,reduceNeg,Nat.reduceBEq]; done))) | (refine bF (cp) ?_ ?_; (focus (simp -implicitDefEqProofs (disch:=omega) only [q1,q2,tl1,tl2,tl3,hps,b7,fU,bS,cB,List.append_nil,eq_self,decide_true,zdB,go_sem,↓reduceIte,reduceAdd,reduceSub,reduceMul,reduceLeDiff,reduceLT,reduceEqDiff,reduceNeg,Nat.reduceBEq]; done))) | (refine bF (cv) ?_ ?_; (focus (simp -implicitDefEqProofs (disch:=omega) only [q1,q2,tl1,tl2,tl3,hps,b7,fU,bS,cB,List.append_nil,eq_self,decide_true,zdB,go_sem,↓reduceIte,reduceAdd,reduceSub,reduceMul,reduceLeDiff,reduceLT,reduceEqDiff,reduceNeg,Nat.reduceBEq]; done))) | (refine bF (co) ?_ ?_; (focus (simp -implicitDefEqProofs (disch:=omega) only [q1,q2,tl1,tl2,tl3,hps,b7,fU,bS,cB,List.append_nil,eq_self,decide_true,zdB,go_sem,↓reduceIte,reduceAdd,reduceSub,reduceMul,reduceLeDiff,reduceLT,reduceEqDiff,reduceNeg,Nat.reduceBEq]; done)))); simp -implicitDefEqProofs (disch:=omega) only [q1,q2,tl1,tl2,tl3,hps,b7,fU,bS,cB,List.append_nil,eq_self,decide_true,go_sem,↓reduceIte,reduceAdd,reduceSub,reduceMul,reduceLeDiff,reduceLT,reduceEqDiff,reduceNeg,Nat.reduceBEq]) | refine bB (by omega) ?_ | (intro hr; have hc:=hr; (try simp only [zdz] at hc); simp -implicitDefEqProofs (disch:=omega) only [hr,q1,q2,tl1,tl2,tl3,hps,b7,fU,bS,cB,List.append_nil,eq_self,decide_true,go_sem,↓reduceIte,reduceAdd,reduceSub,reduceMul,reduceLeDiff,reduceLT,reduceEqDiff,reduceNeg,Nat.reduceBEq]; (try clear hr))))
       all_goals first | exact aF rfl rfl | skip
       refine bP (fun (q:Nat × List AObj)=>[.k,.k,.k,.k,.k,.k,.j,.k,.k,.k,.j,.j,.j,.j,.j,.j,.k,.k,.k,.k,.k,.k,.k,.k,.k,.k,.k,.k,.k,.k,.k,.k,.k,.k,.k,.k,.k,.k,.k,.k,.k,.k,.k,.k,.k,.k,.k,.k,.k,.k,.k,.k,.k,.k,.k,.k,.k,.k,.k,.k,.k,.k,.k,.k,.k,.k,.k,.k,.k,.k,.k,.k,.k,.k,.k,.k,.k,.k,.k,.v (.i .i64 (q.1:Nat)),.j,.j,.j,.j,.j,.j,.j,.j,.j,.j,.j,.j,.j,.j,.j,.j,.j,.j,.j,.j,.j,.j,.j,.j,.j,.j,.j,.j,.j,.j,.j,.j,.j,.j,.j,.k]) (fun q=>(.box false (aO s)::.dead::.arr false 6 (l.flatMap aC++ts.flatMap aC)::.box false [.sl ((x).rows.flatMap bM) (x).rows.length,.sl ((x).ask.path.map (.i .i64)) (x).ask.path.length,.i .i64 (x).ask.test.op,.i .i64 (x).ask.test.term.kind,.i .i64 (x).ask.test.term.n,.s (x).ask.test.term.text,.s (x).ask.test.term.sort,.sl ((x).ask.test.term.kids.flatMap aC) (x).ask.test.term.kids.length,.sl ((x).ask.test.term.rest.flatMap aC) (x).ask.test.term.rest.length,.s (x).ask.test.text,.i .i64 (x).ask.test.n,.sl ((x).yes.flatMap bX) (x).yes.length,.sl ((x).no.flatMap bX) (x).no.length]::q.2)) (fun q=>q.1≤ts.length) (fun q=>ts.length - q.1) ((0,[])) (aG _) rfl (by simp [eN]) ?_
       rintro ⟨k,g⟩ j hk
       dsimp only at hk
       by_cases hlk:k < ts.length
       · have hki:(k:Int) < ((ts.length:Nat):Int):=by omega
         have ht:=ho2 _ (aU (d:=default) hlk)
         have d1:=bPh s l (ts.getD k default) hm hs (by omega) ho ht
         have d2:=bPf s x (ts.getD k default) hm hs v2 ht
         obtain ⟨p1,p2,p3⟩:=v1 (ts.getD k default)
         have hcl:(oN s l (ts.getD k default)).1.length≤1000000:=by
           have:=wR (s:=s) (t:=ts.getD k default) (l:=l) (i:=0)
           rw [oN]; split
           · show (qU s _ l 0).length≤_; omega
           · simp
         have d3:=bPg (oN s l (ts.getD k default)).1 (oN s l (ts.getD k default)).1 hcl hcl
         rw [zt rfl] at d3
         have hM:¬ aVh l < (vK s x (ts.getD k default)).2.1:=by rw [aVh]; omega
         simp only [aCi,aPp,elX,cW,avr,avt,avx,p1,p2] at d1 d2
         generalize (oN s l (ts.getD k default)).1=C at *
         generalize (oN s l (ts.getD k default)).2=E at *
         generalize (vK s x (ts.getD k default)).2.1=M at *
         refine zh (zt hki) ?_
         (refine zy4 (zA2 (zt hki) (zA2 @eq_self.{1} (zA2 @decide_true (zf hM)))) d1 d2 d3 cn ?_; repeat' first | exact trivial | refine zJ ?_ ?_ | refine zH fun hc=>?_)
         exact ⟨(k+1,_),by dsimp only; omega,by dsimp only; omega,rfl,by simp⟩
       · have hki:¬ (k:Int) < ((ts.length:Nat):Int):=by omega
         refine zh (zf hki) ?_
         (refine zy1 (zf hki) ca ?_; repeat' first | exact trivial | refine zJ ?_ ?_ | refine zH fun hc=>?_)
         exact aF rfl rfl
     · rw [h2] at cp
       have hb:jE s l=(.mk [] zA [] [],2):=by rw [jE,h2,if_neg (by simp)]
       rw [hb,H7] at cb
       simp only [elX,cW,avr,avt,avx,cA.rows,cA.ask,cA.yes,cA.no,jL,aX] at cb cp
       (refine zy4 (zA2 @q1 (zA2 @q2 (zA2 tl1 (zA2 tl2 (zA2 tl3 (zA2 hps (zA2 b7 (zA2 @fU (zA2 @bS.{0} (zA2 @cB.{0} (zA2 @List.append_nil.{0} (zA2 @eq_self.{1} @decide_true)))))))))))) c1 ca cb cp ?_; repeat' first | exact trivial | refine zJ ?_ ?_ | refine zH fun hc=>?_)
       all_goals first | exact aF rfl rfl | (exfalso; revert hc; decide)
   · rw [h1] at c1
     (refine zy2 (zA2 @q1 (zA2 @q2 (zA2 tl1 (zA2 tl2 (zA2 tl3 (zA2 hps (zA2 b7 (zA2 @fU (zA2 @bS.{0} (zA2 @cB.{0} @List.append_nil.{0})))))))))) c1 ca ?_; repeat' first | exact trivial | refine zJ ?_ ?_ | refine zH fun hc=>?_)
     all_goals exact aF rfl rfl
end Go.Proofs.YtifefbhllfdmlaaGreatDoor

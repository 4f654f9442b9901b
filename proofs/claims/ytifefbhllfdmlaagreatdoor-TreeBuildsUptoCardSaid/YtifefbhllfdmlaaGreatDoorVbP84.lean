/-
  What functions of the chapter return, as plain functions of what they are given; no condition beyond those that each theorem names.
-/
import Derived.Test.YtifefbhllfdmlaaGreatDoorVbP83
import Derived.Test.YtifefbhllfdmlaaGreatDoorVaP88
import Derived.Test.YtifefbhllfdmlaaGreatDoorVaP86
set_option maxRecDepth 100000
set_option linter.unusedSimpArgs false
set_option linter.unusedVariables false
set_option maxHeartbeats 4000000
namespace Go.Proofs.YtifefbhllfdmlaaGreatDoor
open Go Go.Vo
open Nat (reduceAdd reduceSub reduceMul reduceLeDiff reduceLT reduceEqDiff)
open Int (reduceNeg)

theorem rV:∀ (p q:List Int),mN (p++q)=mN p++mN q
 | [],q=>rfl
 | i::p,q=>by rw [bR,mN,mN,rV p q,bL]; rfl
theorem aLk {p:List Int} {k:Nat} (h:k < p.length):mN (p.take (k+1))=mN (p.take k)++(Lib.itoa (p.getD k 0)++[46]):=by
 rw [List.take_add_one,rV]; simp [List.getD,h,mN]
theorem aLl {p:List Int} {k:Nat}:(mN (p.take k)).length≤(mN p).length:=by
 have:=rV (p.take k) (p.drop k)
 rw [fJ] at this
 rw [this,aE]; omega
structure KeyOk (a:LAsk):Prop where
 k:OkX a.test
 path:PathOk a.path
 good:GoodA a
 len:(keyS a).length≤140737488355328
 op : -9223372036854775807≤a.test.op∧a.test.op≤9223372036854775807
 n : -9223372036854775807≤a.test.n∧a.test.n≤9223372036854775807
theorem aIt (a:LAsk) (ha:KeyOk a): CT 120 [.agg (aJ a)] (.s (keyS a)):=by
 refine cY (rx:=true) (th:=fun _=>none) mixed Tryz.func120 g0 ?_
 · simp -implicitDefEqProofs (disch:=omega) only [Tryz.f120,go_sem,List.replicate,↓reduceIte,reduceAdd,reduceSub,reduceMul,reduceLeDiff,reduceLT,reduceEqDiff,reduceNeg,Nat.reduceBEq,aJ,avt]
   have e:keyS a=mN a.path++32::(Lib.itoa a.test.op++32::(a.test.text++32::(Lib.itoa a.test.n++yZ a.test))):=rfl
   have hl:=ha.len
   rw [e] at hl
   simp only [aE,aI] at hl
   have hp:=ha.path
   have hpl:=hp.1
   (refine zs0 ?_; repeat' first | exact trivial | refine zJ ?_ ?_ | refine zH fun hc=>?_)
   refine bP (fun (q:Nat × Str)=>[.k,.k,.k,.v (.s q.2),.k,.j,.k,.k,.k,.v (.i .i64 (q.1:Nat)),.j,.j,.j,.j,.j,.j,.j,.j,.j,.k,.k,.k,.k,.k,.k,.k,.k,.k,.k,.k,.k,.k,.k,.k,.k,.k,.k,.k,.k,.k,.k,.k,.k,.k,.k,.k,.k,.k,.k,.k,.k,.k,.k,.k,.k,.k]) (fun q=>[.box false [.sl (a.path.map (.i .i64)) a.path.length,.i .i64 a.test.op,.i .i64 a.test.term.kind,.i .i64 a.test.term.n,.s a.test.term.text,.s a.test.term.sort,.sl (a.test.term.kids.flatMap aC) a.test.term.kids.length,.sl (a.test.term.rest.flatMap aC) a.test.term.rest.length,.s a.test.text,.i .i64 a.test.n]]) (fun q=>q.1≤a.path.length∧q.2=mN (a.path.take q.1)) (fun q=>a.path.length - q.1) ((0,[])) ⟨aG _,by simp [mN]⟩ rfl (by simp [eN]) ?_
   rintro ⟨k,acc⟩ j ⟨hk,hacc⟩
   dsimp only at hk hacc
   by_cases hlt:k < a.path.length
   · have hki:(k:Int) < ((a.path.length:Nat):Int):=by omega
     have hm:=aLl (p:=a.path) (k:=k+1)
     have ht:=aLk hlt
     rw [ht,← hacc] at hm
     simp only [aE,aI,aX] at hm
     have hr:=hp.2 _ (aU (d:=0) hlt)
     have c1:=wJ (a.path.getD k 0) (by omega) (by omega)
     refine zh (zt hki) ?_
     (refine zy1 (zt hki) c1 ?_; repeat' first | exact trivial | refine zJ ?_ ?_ | refine zH fun hc=>?_)
     exact ⟨(k+1,acc++(Lib.itoa (a.path.getD k 0)++[46])),⟨by dsimp only; omega,by rw [ht,hacc]⟩,by dsimp only; omega,rfl,by simp⟩
   · have hki:¬ (k:Int) < ((a.path.length:Nat):Int):=by omega
     have hkt:a.path.take k=a.path:=aH (by omega)
     rw [hkt] at hacc
     rw [← hacc] at hl e
     have ho:=ha.op
     have hn:=ha.n
     have c1:=wJ a.test.op (by omega) (by omega)
     have c2:=wJ a.test.n (by omega) (by omega)
     by_cases h1:a.test.op=1
     · have hg:=ha.good.one h1
       have et:yZ a.test=32::(Lib.itoa a.test.term.kind++32::hJ a.test.term):=by rw [yZ,if_pos h1]
       rw [et] at hl e
       simp only [aE,aI] at hl
       have c3:=wJ a.test.term.kind (by omega) (by omega)
       have c4:=bIz a.test.term ha.k.term hg.1 hg.2 (by omega)
       simp only [elT,bC,avt] at c4
       refine zh (zA2 (zf hki) (zt h1)) ?_
       (refine zy4 (zA2 (zf hki) (zt h1)) c1 c2 c3 c4 ?_; repeat' first | exact trivial | refine zJ ?_ ?_ | refine zH fun hc=>?_)
       all_goals exact aF (by rw [e]) rfl
     · have et:yZ a.test=[]:=by rw [yZ,if_neg h1]
       rw [et] at hl e
       refine zh (zA2 (zf hki) (zf h1)) ?_
       (refine zy2 (zA2 (zf hki) (zf h1)) c1 c2 ?_; repeat' first | exact trivial | refine zJ ?_ ?_ | refine zH fun hc=>?_)
       all_goals exact aF (by rw [e,List.append_nil]) rfl
theorem bNy (a:LAsk) (k:Str) (ha:KeyOk a): CT 180 [.agg (aJ a),.box [.s k] 0] (.b (rC k a)):=by
 refine cY (rx:=true) (th:=fun _=>none) mixed Tryz.func180 g0 ?_
 · simp -implicitDefEqProofs (disch:=omega) only [Tryz.f180,go_sem,List.replicate,↓reduceIte,reduceAdd,reduceSub,reduceMul,reduceLeDiff,reduceLT,reduceEqDiff,reduceNeg,Nat.reduceBEq,aJ,avt]
   have c:=aIt a ha
   simp only [aJ,avt] at c
   rw [rC]
   (refine zt1 c ?_; repeat' first | exact trivial | refine zJ ?_ ?_ | refine zH fun hc=>?_)
   all_goals exact aF rfl rfl

theorem aYz {k:Str}:∀ {l:List LAsk},l.Pairwise (fun a b=>keyS a ≠ keyS b) →
   (idx (rC k) l < 0→(l.filter fun a => !rC k a)=l∧(l.all fun a => !rC k a)=true) ∧
   (0≤idx (rC k) l→∃ i:Nat,idx (rC k) l=i∧i < l.length∧(l.filter fun a => !rC k a)=l.take i++l.drop (i+1)∧(l.all fun a => !rC k a)=false):=by
 intro l
 induction l with
 | nil=>exact fun _=>⟨fun _=>⟨rfl,rfl⟩,fun h=>absurd h (by simp [idx])⟩
 | cons a l ih=>
   intro hp
   have ih:=ih (iK.1 hp).2
   unfold idx at ih ⊢
   rw [fE,cV,eC]
   rcases eM (rC k a) with h | h
   · simp only [h,Bool.not_true,aM,if_false,if_true,Bool.false_and]
     refine ⟨fun h=>absurd h (by simp),fun _=>⟨0,rfl,by simp,?_,trivial⟩⟩
     rw [nS,cH,cM,List.drop_one,List.tail_cons,List.filter_eq_self]
     intro b hb
     rw [rC,decide_eq_true_eq] at h
     have:=(iK.1 hp).1 b hb
     simp only [rC,bV,decide_eq_false_iff_not]
     intro e; exact this (by rw [h,e])
   · simp only [h,Bool.not_false,aM,if_false,if_true,Bool.true_and]
     cases hf:l.findIdx? (rC k) with
     | none=>
       rw [hf] at ih
       have:=ih.1 (by decide)
       exact ⟨fun _=>⟨by rw [this.1],this.2⟩,fun h=>absurd h (by simp)⟩
     | some i=>
       rw [hf] at ih
       obtain ⟨i',e,h1,h2,h3⟩:=ih.2 (by simp)
       have e2:i=i':=by have e3:(i:Int)=(i':Int):=e; omega
       subst e2
       exact ⟨fun h=>absurd h (by simp; omega),fun _=>⟨i+1,by simp,by simpa using h1,by rw [h2]; rfl,h3⟩⟩
def aCz (l:List gZ) (k:Str) (b:Bool):List gZ:=if b=true then wT l k else wF l k
def bBw (r:gZ) (k:Str) (b:Bool):List gZ:=aCz [r] k b
theorem aNp {l:List gZ} {k:Str} {b:Bool} {i:Nat} (h:i < l.length):aCz (l.take (i+1)) k b=aCz (l.take i) k b++bBw (l.getD i default) k b:=by
 rw [kA h,bBw,aCz,aCz,aCz]
 cases b
 · simp only [aM,if_false,wF,qX]
 · simp only [if_true,wT,aV]
theorem aVk {l:List gZ} {k:Str} {b:Bool}:(aCz l k b).length≤l.length:=by
 rw [aCz]; split
 · rw [wT,eH]; exact aZ _
 · rw [wF]; exact fK _ _
structure pS (l:List gZ):Prop where
 len:l.length≤1000000
 left:∀ r ∈ l,r.left.length≤1000000
 nod:∀ r ∈ l,r.left.Pairwise fun a b=>keyS a ≠ keyS b
 key:∀ r ∈ l,∀ a ∈ r.left,KeyOk a
theorem bAy {l:List LAsk} {k:Nat}:(l.flatMap aJ).drop (k * 10)=(l.drop k).flatMap aJ:=F4 I4 l k
theorem aXy (r:gZ) (k:Str) (hl:r.left.length≤1000000) (hk:∀ a ∈ r.left,KeyOk a):CT 63 [ava r.left,.fn 180 [] [.box [.s k] 0]] (.i .i64 (idx (rC k) r.left)):=
 aSq r.left 180 [] [.box [.s k] 0] (rC k) hl rfl rfl (fun i hi=>bNy _ k (hk _ (aU hi)))
theorem bDh (l:List gZ) (k:Str) (b:Bool) (hl:pS l): CT 121 [avr l,.s k,.b b] (avr (aCz l k b)):=by
 refine cY (rx:=true) (th:=fun i=>if i=9 then some ⟨some 1,[],true,true,false,[31,32,33,34,36,37,38,41],[]⟩ else none) mixed Tryz.func121 g0 ?_
 · simp -implicitDefEqProofs (disch:=omega) only [Tryz.f121,go_sem,List.replicate,↓reduceIte,reduceAdd,reduceSub,reduceMul,reduceLeDiff,reduceLT,reduceEqDiff,reduceNeg,Nat.reduceBEq,avr]
   have h1:=hl.len
   (refine zs0 ?_; repeat' first | exact trivial | refine zJ ?_ ?_ | refine zH fun hc=>?_)
   refine bP (fun (q:Nat × AV × List AObj)=>[.k,.k,.k,.k,.k,.k,.k,.v (q.2.1),.k,.j,.j,.k,.k,.v (.i .i64 (q.1:Nat)),.j,.j,.j,.j,.j,.j,.j,.j,.j,.j,.j,.j,.j,.j,.j,.j,.j,.j,.j,.j,.j,.j,.j,.j,.j,.j,.j,.j,.j,.j,.j,.j,.j,.j,.k]) (fun q=>(.box false [.s k]::q.2.2)) (fun q=>q.1≤l.length∧dV 2 1 q.2.2 q.2.1 ((aCz (l.take q.1) k b).flatMap bM) (aCz (l.take q.1) k b).length) (fun q=>l.length - q.1) ((0,.e0,[])) ⟨aG _,by cases b <;> exact jC⟩ rfl (by simp [eN]) ?_
   rintro ⟨i,out,g⟩ j ⟨hi,ho⟩
   dsimp only at hi ho
   by_cases hlt:i < l.length
   · have hki:(i:Int) < ((l.length:Nat):Int):=by omega
     have hm:=aU (d:=default) hlt
     have q1:=hl.left _ hm
     have c1:=aXy (l.getD i default) k q1 (hl.key _ hm)
     have hf:=aYz (k:=k) (hl.nod _ hm)
     have ht:=aNp (k:=k) (b:=b) hlt
     have hwl:=aVk (l:=l.take i) (k:=k) (b:=b)
     rw [dS] at hwl
     simp only [ava] at c1
     generalize idx (rC k) (l.getD i default).left=I at *
     by_cases hI:I < 0
     · obtain ⟨f1,f2⟩:=hf.1 hI
       have e1:bBw (l.getD i default) k b=[l.getD i default]:=by
         cases b
         · simp only [bBw,aCz,wF,aM,if_false,cV,f2,if_true,iX]
         · simp only [bBw,aCz,wT,if_true,aT,bN,f1]
       rw [e1] at ht
       refine zh (zA2 (zt hki) @bM.eq_1) ?_
       (refine zy1 (zA2 (zt hki) (zA2 @bM.eq_1 (zA2 @fU (zA2 @bS.{0} (zA2 @cB.{0} (zA2 @List.append_nil.{0} (zt hI))))))) c1 ?_; repeat' first | exact trivial | refine zJ ?_ ?_ | refine zH fun hc=>?_)
       refine dU (pre:=[_]) (news:=[.i .i64 (l.getD i default).index,.sl ((l.getD i default).left.flatMap aJ) (l.getD i default).left.length]) (m:=1) ho rfl rfl bNh aNi aOd aTs rfl (by decide) (by simp -implicitDefEqProofs (disch:=omega) only [go_sem,↓reduceIte,reduceAdd,reduceSub,reduceMul,reduceLeDiff,reduceLT,reduceEqDiff,reduceNeg,Nat.reduceBEq]) (by simp -implicitDefEqProofs (disch:=omega) only [go_sem,↓reduceIte,reduceAdd,reduceSub,reduceMul,reduceLeDiff,reduceLT,reduceEqDiff,reduceNeg,Nat.reduceBEq]) ⟨by omega,by omega⟩ ?_
       intro out' g' ho' _
       refine zg ?_
       refine ⟨(i+1,out',g'),⟨by dsimp only; omega,?_⟩,by dsimp only; omega,rfl,rfl,by simp⟩
       dsimp only
       rw [ht,dP,aE]
       exact ho'
     · obtain ⟨n,rfl,f0,f1,f2⟩:=hf.2 (by omega)
       have c2:=aIs [(l.getD i default).left.take n,(l.getD i default).left.drop (n+1)] (by simp) (by simp only [W6,bS,cB,List.append_nil,aE,dS,oF]; omega)
       have e2:([(l.getD i default).left.take n,(l.getD i default).left.drop (n+1)]:List (List LAsk)).flatten=(l.getD i default).left.take n++(l.getD i default).left.drop (n+1):=by simp
       have e3:min n (l.getD i default).left.length=n:=by omega
       rw [e2,← f1] at c2
       simp only [ava,aT,bN,aI,aX,dS,oF,e3] at c2
       refine zh (zA2 (zt hki) @bM.eq_1) ?_
       (refine zy2 (zA2 (zt hki) (zA2 @bM.eq_1 (zA2 @fU (zA2 @bS.{0} (zA2 @cB.{0} (zA2 @List.append_nil.{0} (zA2 @bAy (zf hI)))))))) c1 c2 ?_; repeat' first | exact trivial | refine zJ ?_ ?_ | refine zH fun hc=>?_)
       · have e1:bBw (l.getD i default) k b=[⟨(l.getD i default).index,(l.getD i default).left.filter fun a => !rC k a⟩]:=by
           rw [hc]; rfl
         rw [e1] at ht
         refine ⟨by rcases ho with ⟨rfl,_,_⟩ | ⟨i',rfl,_,_⟩ <;> simp,?_⟩
         refine dU (pre:=[_]) (news:=[.i .i64 (l.getD i default).index,.sl (((l.getD i default).left.filter fun a => !rC k a).flatMap aJ) ((l.getD i default).left.filter fun a => !rC k a).length]) (m:=1) ho rfl rfl bNh aNi aOd aTs rfl (by decide) (by simp -implicitDefEqProofs (disch:=omega) only [go_sem,↓reduceIte,reduceAdd,reduceSub,reduceMul,reduceLeDiff,reduceLT,reduceEqDiff,reduceNeg,Nat.reduceBEq]) (by simp -implicitDefEqProofs (disch:=omega) only [go_sem,↓reduceIte,reduceAdd,reduceSub,reduceMul,reduceLeDiff,reduceLT,reduceEqDiff,reduceNeg,Nat.reduceBEq]) ⟨by omega,by omega⟩ ?_
         intro out' g' ho' _
         refine zg ?_
         refine ⟨(i+1,out',g'),⟨by dsimp only; omega,?_⟩,by dsimp only; omega,rfl,rfl,by simp⟩
         dsimp only
         rw [← hc,ht,dP,aE]
         exact ho'
       · have e1:bBw (l.getD i default) k b=[]:=by
           rw [hc,bBw,aCz,if_neg (by simp),wF,cV,f2,if_neg (by simp)]; rfl
         rw [e1,List.append_nil] at ht
         refine ⟨(i+1,out,_),⟨by dsimp only; omega,?_⟩,by dsimp only; omega,rfl,rfl,by simp⟩
         dsimp only
         rw [← hc,ht]
         exact ho.more _
   · have hki:¬ (i:Int) < ((l.length:Nat):Int):=by omega
     have hkt:l.take i=l:=aH (by omega)
     rw [hkt] at ho
     refine zh (zf hki) ?_
     exact O4 (pre:=[_]) (sz:=2) ho jM
end Go.Proofs.YtifefbhllfdmlaaGreatDoor

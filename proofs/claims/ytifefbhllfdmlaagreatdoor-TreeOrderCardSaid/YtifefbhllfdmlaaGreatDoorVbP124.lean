/-
  What functions of the chapter return, as plain functions of what they are given; no condition beyond those that each theorem names.
-/
import Derived.Test.YtifefbhllfdmlaaGreatDoorVbP123
import Derived.Test.YtifefbhllfdmlaaGreatDoorVaP128
import Derived.Test.YtifefbhllfdmlaaGreatDoorVaP126
set_option maxRecDepth 100000
set_option linter.unusedSimpArgs false
set_option linter.unusedVariables false
set_option maxHeartbeats 4000000
namespace Go.Proofs.YtifefbhllfdmlaaGreatDoor
open Go Go.Vo
open Nat (reduceAdd reduceSub reduceMul reduceLeDiff reduceLT reduceEqDiff)
open Int (reduceNeg)

theorem pL:∀ (p q:List Int),lS (p++q)=lS p++lS q
 | [],q=>rfl
 | i::p,q=>by rw [aU,lS,lS,pL p q,bW]; rfl
theorem aFm {p:List Int} {k:Nat} (h:k < p.length):lS (p.take (k+1))=lS (p.take k)++(Lib.itoa (p.getD k 0)++[46]):=by
 rw [List.take_add_one,pL]; simp [List.getD,h,lS]
theorem aFn {p:List Int} {k:Nat}:(lS (p.take k)).length≤(lS p).length:=by
 have:=pL (p.take k) (p.drop k)
 rw [eV] at this
 rw [this,aG]; omega
structure KeyOk (a:LAsk):Prop where
 k:OkX a.test
 path:PathOk a.path
 good:GoodA a
 len:(keyS a).length≤140737488355328
 op : -9223372036854775807≤a.test.op∧a.test.op≤9223372036854775807
 n : -9223372036854775807≤a.test.n∧a.test.n≤9223372036854775807
theorem aDg (a:LAsk) (ha:KeyOk a): CT 120 [.agg (aL a)] (.s (keyS a)):=by
 refine eD (rx:=true) (th:=fun _=>none) mixed Tryz.func120 g0 ?_
 · simp -implicitDefEqProofs (disch:=omega) only [Tryz.f120,go_sem,List.replicate,↓reduceIte,reduceAdd,reduceSub,reduceMul,reduceLeDiff,reduceLT,reduceEqDiff,reduceNeg,Nat.reduceBEq,aL,avt]
   have e:keyS a=lS a.path++32::(Lib.itoa a.test.op++32::(a.test.text++32::(Lib.itoa a.test.n++wA a.test))):=rfl
   have hl:=ha.len
   rw [e] at hl
   simp only [aG,aD] at hl
   have hp:=ha.path
   have hpl:=hp.1
   (refine zs0 ?_; repeat' first | exact trivial | refine zJ ?_ ?_ | refine zH fun hc=>?_)
   refine dD (fun (q:Nat × Str)=>[.k,.k,.k,.v (.s q.2),.k,.j,.k,.k,.k,.v (.i .i64 (q.1:Nat)),.j,.j,.j,.j,.j,.j,.j,.j,.j,.k,.k,.k,.k,.k,.k,.k,.k,.k,.k,.k,.k,.k,.k,.k,.k,.k,.k,.k,.k,.k,.k,.k,.k,.k,.k,.k,.k,.k,.k,.k,.k,.k,.k,.k,.k,.k]) (fun q=>[.box false [.sl (a.path.map (.i .i64)) a.path.length,.i .i64 a.test.op,.i .i64 a.test.term.kind,.i .i64 a.test.term.n,.s a.test.term.text,.s a.test.term.sort,.sl (a.test.term.kids.flatMap aE) a.test.term.kids.length,.sl (a.test.term.rest.flatMap aE) a.test.term.rest.length,.s a.test.text,.i .i64 a.test.n]]) (fun q=>q.1≤a.path.length∧q.2=lS (a.path.take q.1)) (fun q=>a.path.length - q.1) ((0,[])) ⟨aT _,by simp [lS]⟩ rfl (by simp [iL]) ?_
   rintro ⟨k,acc⟩ j ⟨hk,hacc⟩
   dsimp only at hk hacc
   by_cases hlt:k < a.path.length
   · have hki:(k:Int) < ((a.path.length:Nat):Int):=by omega
     have hm:=aFn (p:=a.path) (k:=k+1)
     have ht:=aFm hlt
     rw [ht,← hacc] at hm
     simp only [aG,aD,aY] at hm
     have hr:=hp.2 _ (cC (d:=0) hlt)
     have c1:=tO (a.path.getD k 0) (by omega) (by omega)
     refine zh (zt hki) ?_
     (refine zy1 (zt hki) c1 ?_; repeat' first | exact trivial | refine zJ ?_ ?_ | refine zH fun hc=>?_)
     exact ⟨(k+1,acc++(Lib.itoa (a.path.getD k 0)++[46])),⟨by dsimp only; omega,by rw [ht,hacc]⟩,by dsimp only; omega,rfl,by simp⟩
   · have hki:¬ (k:Int) < ((a.path.length:Nat):Int):=by omega
     have hkt:a.path.take k=a.path:=aJ (by omega)
     rw [hkt] at hacc
     rw [← hacc] at hl e
     have ho:=ha.op
     have hn:=ha.n
     have c1:=tO a.test.op (by omega) (by omega)
     have c2:=tO a.test.n (by omega) (by omega)
     by_cases h1:a.test.op=1
     · have hg:=ha.good.one h1
       have et:wA a.test=32::(Lib.itoa a.test.term.kind++32::gW a.test.term):=by rw [wA,if_pos h1]
       rw [et] at hl e
       simp only [aG,aD] at hl
       have c3:=tO a.test.term.kind (by omega) (by omega)
       have c4:=bAu a.test.term ha.k.term hg.1 hg.2 (by omega)
       simp only [elT,bT,avt] at c4
       refine zh (zA2 (zf hki) (zt h1)) ?_
       (refine zy4 (zA2 (zf hki) (zt h1)) c1 c2 c3 c4 ?_; repeat' first | exact trivial | refine zJ ?_ ?_ | refine zH fun hc=>?_)
       all_goals exact aP (by rw [e]) rfl
     · have et:wA a.test=[]:=by rw [wA,if_neg h1]
       rw [et] at hl e
       refine zh (zA2 (zf hki) (zf h1)) ?_
       (refine zy2 (zA2 (zf hki) (zf h1)) c1 c2 ?_; repeat' first | exact trivial | refine zJ ?_ ?_ | refine zH fun hc=>?_)
       all_goals exact aP (by rw [e,List.append_nil]) rfl
theorem bFg (a:LAsk) (k:Str) (ha:KeyOk a): CT 180 [.agg (aL a),.box [.s k] 0] (.b (oU k a)):=by
 refine eD (rx:=true) (th:=fun _=>none) mixed Tryz.func180 g0 ?_
 · simp -implicitDefEqProofs (disch:=omega) only [Tryz.f180,go_sem,List.replicate,↓reduceIte,reduceAdd,reduceSub,reduceMul,reduceLeDiff,reduceLT,reduceEqDiff,reduceNeg,Nat.reduceBEq,aL,avt]
   have c:=aDg a ha
   simp only [aL,avt] at c
   rw [oU]
   (refine zt1 c ?_; repeat' first | exact trivial | refine zJ ?_ ?_ | refine zH fun hc=>?_)
   all_goals exact aP rfl rfl

theorem aSj {k:Str}:∀ {l:List LAsk},l.Pairwise (fun a b=>keyS a ≠ keyS b) →
   (idx (oU k) l < 0→(l.filter fun a => !oU k a)=l∧(l.all fun a => !oU k a)=true) ∧
   (0≤idx (oU k) l→∃ i:Nat,idx (oU k) l=i∧i < l.length∧(l.filter fun a => !oU k a)=l.take i++l.drop (i+1)∧(l.all fun a => !oU k a)=false):=by
 intro l
 induction l with
 | nil=>exact fun _=>⟨fun _=>⟨rfl,rfl⟩,fun h=>absurd h (by simp [idx])⟩
 | cons a l ih=>
   intro hp
   have ih:=ih (iH.1 hp).2
   unfold idx at ih ⊢
   rw [eS,bV,hY]
   rcases iC (oU k a) with h | h
   · simp only [h,bX,aH,if_false,if_true,aS]
     refine ⟨fun h=>absurd h (by simp),fun _=>⟨0,rfl,by simp,?_,trivial⟩⟩
     rw [kW,bJ,cZ,List.drop_one,List.tail_cons,List.filter_eq_self]
     intro b hb
     rw [oU,decide_eq_true_eq] at h
     have:=(iH.1 hp).1 b hb
     simp only [oU,eN,decide_eq_false_iff_not]
     intro e; exact this (by rw [h,e])
   · simp only [h,bY,aH,if_false,if_true,aM]
     cases hf:l.findIdx? (oU k) with
     | none=>
       rw [hf] at ih
       have:=ih.1 (by decide)
       exact ⟨fun _=>⟨by rw [this.1],this.2⟩,fun h=>absurd h (by simp)⟩
     | some i=>
       rw [hf] at ih
       obtain ⟨i',e,h1,h2,h3⟩:=ih.2 (by simp)
       have e2:i=i':=by have e3:(i:Int)=(i':Int):=e; omega
       subst e2
       exact ⟨fun h=>absurd h (by simp; omega),fun _=>⟨i+1,by simp,by simpa using h1,by rw [h2]; rfl,h3⟩⟩
def W1 (l:List hZ) (k:Str) (b:Bool):List hZ:=if b=true then wT l k else wF l k
def aUt (r:hZ) (k:Str) (b:Bool):List hZ:=W1 [r] k b
theorem aHl {l:List hZ} {k:Str} {b:Bool} {i:Nat} (h:i < l.length):W1 (l.take (i+1)) k b=W1 (l.take i) k b++aUt (l.getD i default) k b:=by
 rw [jT h,aUt,W1,W1,W1]
 cases b
 · simp only [aH,if_false,wF,List.filter_append]
 · simp only [if_true,wT,bF]
theorem aOy {l:List hZ} {k:Str} {b:Bool}:(W1 l k b).length≤l.length:=by
 rw [W1]; split
 · rw [wT,fM]; exact aX _
 · rw [wF]; exact fQ _ _
structure nA (l:List hZ):Prop where
 len:l.length≤1000000
 left:∀ r ∈ l,r.left.length≤1000000
 nod:∀ r ∈ l,r.left.Pairwise fun a b=>keyS a ≠ keyS b
 key:∀ r ∈ l,∀ a ∈ r.left,KeyOk a
theorem aTv {l:List LAsk} {k:Nat}:(l.flatMap aL).drop (k * 10)=(l.drop k).flatMap aL:=yP K8 l k
theorem aRi (r:hZ) (k:Str) (hl:r.left.length≤1000000) (hk:∀ a ∈ r.left,KeyOk a):CT 63 [ava r.left,.fn 180 [] [.box [.s k] 0]] (.i .i64 (idx (oU k) r.left)):=
 aMi r.left 180 [] [.box [.s k] 0] (oU k) hl rfl rfl (fun i hi=>bFg _ k (hk _ (cC hi)))
theorem aWa (l:List hZ) (k:Str) (b:Bool) (hl:nA l): CT 121 [avr l,.s k,.b b] (avr (W1 l k b)):=by
 refine eD (rx:=true) (th:=fun i=>if i=9 then some ⟨some 1,[],true,true,false,[31,32,33,34,36,37,38,41],[],0⟩ else none) mixed Tryz.func121 g0 ?_
 · simp -implicitDefEqProofs (disch:=omega) only [Tryz.f121,go_sem,List.replicate,↓reduceIte,reduceAdd,reduceSub,reduceMul,reduceLeDiff,reduceLT,reduceEqDiff,reduceNeg,Nat.reduceBEq,avr]
   have h1:=hl.len
   (refine zs0 ?_; repeat' first | exact trivial | refine zJ ?_ ?_ | refine zH fun hc=>?_)
   refine dD (fun (q:Nat × AV × List AObj)=>[.k,.k,.k,.k,.k,.k,.k,.v (q.2.1),.k,.j,.j,.k,.k,.v (.i .i64 (q.1:Nat)),.j,.j,.j,.j,.j,.j,.j,.j,.j,.j,.j,.j,.j,.j,.j,.j,.j,.j,.j,.j,.j,.j,.j,.j,.j,.j,.j,.j,.j,.j,.j,.j,.j,.j,.k]) (fun q=>(.box false [.s k]::q.2.2)) (fun q=>q.1≤l.length∧fD 2 1 q.2.2 q.2.1 ((W1 (l.take q.1) k b).flatMap cN) (W1 (l.take q.1) k b).length) (fun q=>l.length - q.1) ((0,.e0,[])) ⟨aT _,by cases b <;> exact kK⟩ rfl (by simp [iL]) ?_
   rintro ⟨i,out,g⟩ j ⟨hi,ho⟩
   dsimp only at hi ho
   by_cases hlt:i < l.length
   · have hki:(i:Int) < ((l.length:Nat):Int):=by omega
     have hm:=cC (d:=default) hlt
     have q1:=hl.left _ hm
     have c1:=aRi (l.getD i default) k q1 (hl.key _ hm)
     have hf:=aSj (k:=k) (hl.nod _ hm)
     have ht:=aHl (k:=k) (b:=b) hlt
     have hwl:=aOy (l:=l.take i) (k:=k) (b:=b)
     rw [eZ] at hwl
     simp only [ava] at c1
     generalize idx (oU k) (l.getD i default).left=I at *
     by_cases hI:I < 0
     · obtain ⟨f1,f2⟩:=hf.1 hI
       have e1:aUt (l.getD i default) k b=[l.getD i default]:=by
         cases b
         · simp only [aUt,W1,wF,aH,if_false,bV,f2,if_true,dQ]
         · simp only [aUt,W1,wT,if_true,aO,bE,f1]
       rw [e1] at ht
       refine zh (zA2 (zt hki) @cN.eq_1) ?_
       (refine zy1 (zA2 (zt hki) (zA2 @cN.eq_1 (zA2 @gI (zA2 @aZ.{0} (zA2 @bH.{0} (zA2 @List.append_nil.{0} (zt hI))))))) c1 ?_; repeat' first | exact trivial | refine zJ ?_ ?_ | refine zH fun hc=>?_)
       refine fE (pre:=[_]) (news:=[.i .i64 (l.getD i default).index,.sl ((l.getD i default).left.flatMap aL) (l.getD i default).left.length]) (m:=1) ho rfl rfl bEs aHe aId aNf rfl (by decide) (by simp -implicitDefEqProofs (disch:=omega) only [go_sem,↓reduceIte,reduceAdd,reduceSub,reduceMul,reduceLeDiff,reduceLT,reduceEqDiff,reduceNeg,Nat.reduceBEq]) (by simp -implicitDefEqProofs (disch:=omega) only [go_sem,↓reduceIte,reduceAdd,reduceSub,reduceMul,reduceLeDiff,reduceLT,reduceEqDiff,reduceNeg,Nat.reduceBEq]) ⟨by omega,by omega⟩ ?_
       intro out' g' ho' _
       refine zg ?_
       refine ⟨(i+1,out',g'),⟨by dsimp only; omega,?_⟩,by dsimp only; omega,rfl,rfl,by simp⟩
       dsimp only
       rw [ht,eJ,aG]
       exact ho'
     · obtain ⟨n,rfl,f0,f1,f2⟩:=hf.2 (by omega)
       have c2:=aDf [(l.getD i default).left.take n,(l.getD i default).left.drop (n+1)] (by simp) (by simp only [M4,aZ,bH,List.append_nil,aG,eZ,nB]; omega)
       have e2:([(l.getD i default).left.take n,(l.getD i default).left.drop (n+1)]:List (List LAsk)).flatten=(l.getD i default).left.take n++(l.getD i default).left.drop (n+1):=by simp
       have e3:min n (l.getD i default).left.length=n:=by omega
       rw [e2,← f1] at c2
       simp only [ava,aO,bE,aD,aY,eZ,nB,e3] at c2
       refine zh (zA2 (zt hki) @cN.eq_1) ?_
       (refine zy2 (zA2 (zt hki) (zA2 @cN.eq_1 (zA2 @gI (zA2 @aZ.{0} (zA2 @bH.{0} (zA2 @List.append_nil.{0} (zA2 @aTv (zf hI)))))))) c1 c2 ?_; repeat' first | exact trivial | refine zJ ?_ ?_ | refine zH fun hc=>?_)
       · have e1:aUt (l.getD i default) k b=[⟨(l.getD i default).index,(l.getD i default).left.filter fun a => !oU k a⟩]:=by
           rw [hc]; rfl
         rw [e1] at ht
         refine ⟨by rcases ho with ⟨rfl,_,_⟩ | ⟨i',rfl,_,_⟩ <;> simp,?_⟩
         refine fE (pre:=[_]) (news:=[.i .i64 (l.getD i default).index,.sl (((l.getD i default).left.filter fun a => !oU k a).flatMap aL) ((l.getD i default).left.filter fun a => !oU k a).length]) (m:=1) ho rfl rfl bEs aHe aId aNf rfl (by decide) (by simp -implicitDefEqProofs (disch:=omega) only [go_sem,↓reduceIte,reduceAdd,reduceSub,reduceMul,reduceLeDiff,reduceLT,reduceEqDiff,reduceNeg,Nat.reduceBEq]) (by simp -implicitDefEqProofs (disch:=omega) only [go_sem,↓reduceIte,reduceAdd,reduceSub,reduceMul,reduceLeDiff,reduceLT,reduceEqDiff,reduceNeg,Nat.reduceBEq]) ⟨by omega,by omega⟩ ?_
         intro out' g' ho' _
         refine zg ?_
         refine ⟨(i+1,out',g'),⟨by dsimp only; omega,?_⟩,by dsimp only; omega,rfl,rfl,by simp⟩
         dsimp only
         rw [← hc,ht,eJ,aG]
         exact ho'
       · have e1:aUt (l.getD i default) k b=[]:=by
           rw [hc,aUt,W1,if_neg (by simp),wF,bV,f2,if_neg (by simp)]; rfl
         rw [e1,List.append_nil] at ht
         refine ⟨(i+1,out,_),⟨by dsimp only; omega,?_⟩,by dsimp only; omega,rfl,rfl,by simp⟩
         dsimp only
         rw [← hc,ht]
         exact ho.more _
   · have hki:¬ (i:Int) < ((l.length:Nat):Int):=by omega
     have hkt:l.take i=l:=aJ (by omega)
     rw [hkt] at ho
     refine zh (zf hki) ?_
     exact E9 (pre:=[_]) (sz:=2) ho jD
end Go.Proofs.YtifefbhllfdmlaaGreatDoor

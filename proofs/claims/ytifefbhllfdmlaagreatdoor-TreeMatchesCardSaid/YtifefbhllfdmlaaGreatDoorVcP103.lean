/-
  What functions of the chapter return, as plain functions of what they are given; no condition beyond those that each theorem names.
-/
import Derived.Test.YtifefbhllfdmlaaGreatDoorVcP102
set_option maxRecDepth 100000
set_option linter.unusedSimpArgs false
set_option linter.unusedVariables false
set_option maxHeartbeats 4000000
namespace Go.Proofs.YtifefbhllfdmlaaGreatDoor
open Go Go.Vo
open Nat (reduceAdd reduceSub reduceMul reduceLeDiff reduceLT reduceEqDiff)
open Int (reduceNeg)

theorem X4:∀ l:List LTerm,mapsL l=l.any yG
 | []=>rfl
 | t::l=>by rw [mapsL,X4 l,wK]
theorem lC:∀ l:List LTerm,mVarsL l=l.flatMap jC
 | []=>rfl
 | t::l=>by rw [mVarsL,lC l,cJ]
theorem aWt (t:LTerm) (ht:OkT t) (ih:∀ k ∈ t.kids,CT 72 [elT k] (.b (yG k))): CT 72 [elT t] (.b (yG t)):=by
 refine aE mixed Tryz.func72 g0 ?_
 · skip
   have e:=aFk t
   rw [X4] at e
   have hk1:=ht.kids
   have o:∀ k,k < t.kids.length→CT 72 [elT (t.kids.getD k default)] (.b (yG (t.kids.getD k default))):=fun k h=>ih _ (bE h)
   by_cases h8:t.kind=8
   · rw [zt h8,dF] at e
     simp -implicitDefEqProofs (disch:=omega) only [zt h8,go_sem,↓reduceIte,reduceAdd,reduceSub,reduceMul,reduceLeDiff,reduceLT,reduceEqDiff,reduceNeg,Nat.reduceBEq]
     (repeat' (first | refine gT ?_ ?_ | refine gF ?_ ?_ | refine gC ?_ ?_ | refine aK (by omega) ?_ | (intro hr; have hc:=hr; (try simp only [zdz] at hc); simp -implicitDefEqProofs (disch:=omega) only [hr,zt h8,go_sem,↓reduceIte,reduceAdd,reduceSub,reduceMul,reduceLeDiff,reduceLT,reduceEqDiff,reduceNeg,Nat.reduceBEq]; (try clear hr))))
     all_goals exact aG (by rw [e]) rfl
   rw [zf h8,cO] at e
   simp -implicitDefEqProofs (disch:=omega) only [zf h8,go_sem,↓reduceIte,reduceAdd,reduceSub,reduceMul,reduceLeDiff,reduceLT,reduceEqDiff,reduceNeg,Nat.reduceBEq]
   (repeat' (first | refine gT ?_ ?_ | refine gF ?_ ?_ | refine gC ?_ ?_ | refine aK (by omega) ?_ | (intro hr; have hc:=hr; (try simp only [zdz] at hc); simp -implicitDefEqProofs (disch:=omega) only [hr,zf h8,go_sem,↓reduceIte,reduceAdd,reduceSub,reduceMul,reduceLeDiff,reduceLT,reduceEqDiff,reduceNeg,Nat.reduceBEq]; (try clear hr))))
   refine fJ (fun (k:Nat)=>[.k,.k,.j,.k,.j,.k,.k,.k,.k,.k,.k,.v (.i .i64 (k:Nat)),.j,.j,.j,.j,.j,.j]) (fun k=>[.box false [.i .i64 (t).kind,.i .i64 (t).n,.s (t).text,.s (t).sort,.sl ((t).kids.flatMap aA) (t).kids.length,.sl ((t).rest.flatMap aA) (t).rest.length]]) (fun k=>k≤t.kids.length∧∀ j,j < k→yG (t.kids.getD j default)=false) (fun k=>t.kids.length - k) (0) _ ⟨aF _,fun j h=>by omega⟩ rfl (by simp [fD]) ?_
   rintro k g j ⟨hk,ha⟩
   simp -implicitDefEqProofs (disch:=omega) only [go_sem,↓reduceIte,reduceAdd,reduceSub,reduceMul,reduceLeDiff,reduceLT,reduceEqDiff,reduceNeg,Nat.reduceBEq]
   (repeat' (first | refine gT ?_ ?_ | refine gF ?_ ?_ | refine gC ?_ ?_ | ((refine aY ((o k (by omega))) ?_ ?_; (focus (simp -implicitDefEqProofs (disch:=omega) only [zdB,go_sem,↓reduceIte,reduceAdd,reduceSub,reduceMul,reduceLeDiff,reduceLT,reduceEqDiff,reduceNeg,Nat.reduceBEq]; done))); simp -implicitDefEqProofs (disch:=omega) only [go_sem,↓reduceIte,reduceAdd,reduceSub,reduceMul,reduceLeDiff,reduceLT,reduceEqDiff,reduceNeg,Nat.reduceBEq]) | refine aK (by omega) ?_ | (intro hr; have hc:=hr; (try simp only [zdz] at hc); simp -implicitDefEqProofs (disch:=omega) only [hr,go_sem,↓reduceIte,reduceAdd,reduceSub,reduceMul,reduceLeDiff,reduceLT,reduceEqDiff,reduceNeg,Nat.reduceBEq]; (try clear hr))))
   all_goals first
     | exact aG (by rw [e,aRx (by omega) hc]) rfl
     | exact ⟨k+1,_,⟨by omega,lG ha hc⟩,by omega,rfl,by simp⟩
     | exact aG (by rw [e,aRw (fun j hj=>ha j (by omega))]) rfl
     | (exfalso; omega)
theorem bLj:∀ (t:LTerm),OkT t→CT 72 [elT t] (.b (yG t)):=
 dK fun t hk _ ht=>aWt t ht (fun k hmm=>hk k hmm (ht.kid k hmm))
def avn (l:List Str):AV:=.sl (l.map .s) l.length
mutual
def aN:LTerm→Nat
 | .mk _ _ _ _ ks rs=>1+aNL ks+aNL rs
def aNL:List LTerm→Nat
 | []=>0
 | t::l=>aN t+aNL l
end
theorem aKm (t:LTerm):aN t=1+aNL t.kids+aNL t.rest:=by cases t; rw [aN]; rfl
theorem aDr:∀ l:List LTerm,l.length≤aNL l
 | []=>by simp [aNL]
 | t::l=>by have:=aDr l; have:=aKm t; rw [aNL,aL]; omega
theorem aDq:∀ {l:List LTerm} {k:LTerm},k ∈ l→aN k≤aNL l
 | t::l,k,h=>by
   rw [aNL]
   rcases cD.1 h with rfl | h
   · omega
   · have:=aDq h; omega
theorem aEb:∀ t:LTerm,(jC t).length≤aN t:=
 dK fun t hk hr=>by
   have L:∀ l:List LTerm,(∀ k ∈ l,(jC k).length≤aN k)→(mVarsL l).length≤aNL l:=by
     intro l
     induction l with
     | nil=>intro _; simp [mVarsL,aNL]
     | cons x l ih=>intro h; rw [mVarsL,aNL,List.length_append]; have:=h x (by simp); have:=ih (fun k hk=>h k (by simp [hk])); omega
   have h1:=L t.kids hk
   have h2:=L t.rest hr
   rw [yX,aKm,List.length_append,List.length_append]
   split
   · simp only [aL,bG]; omega
   · simp only [bG]; omega
theorem aIy (t:LTerm) (h:cP t=true):∀ r ∈ t.rest,r.kids=[]∧r.rest=[]:=by
 have z:∀ {a b c d},eY t a b c d false=true→∀ r ∈ t.rest,r.kids=[]∧r.rest=[]:=by
   intro a b c d h
   simp only [eY,aC,bH,decide_eq_true_eq,aP,false_or] at h
   rw [h.2]; intro r hr; cases hr
 have r:∀ {s},mV t s=true→∀ r ∈ t.rest,r.kids=[]∧r.rest=[]:=by
   intro s h
   simp only [mV,aC,bH,decide_eq_true_eq] at h
   rcases h with h | h
   · rw [List.eq_nil_of_length_eq_zero h]; intro r hr; cases hr
   · obtain ⟨⟨⟨⟨h1,_⟩,_⟩,_⟩,h⟩:=h
     obtain ⟨r,e⟩:=rK.1 h1
     rw [e,kO] at h
     simp only [eY,aC,bH,decide_eq_true_eq,aP,false_or] at h
     rw [e]
     intro q hq
     rw [aU.1 hq]
     exact ⟨h.1.2,h.2⟩
 unfold cP at h
 repeat' split at h
 all_goals try simp only [aC] at h
 all_goals first | exact z h.2 | exact r h.1 | exact r h.1.1 | cases h
theorem bQb:∀ t:LTerm,wfT cP t=true→aN t=nodesT t:=
 dK (Q:=fun t=>wfT cP t=true→aN t=nodesT t) fun t hk hr hw=>by
   obtain ⟨h1,h2⟩:=mE.1 hw
   have L:∀ l:List LTerm,(∀ k ∈ l,aN k=nodesT k)→aNL l=nodesL l:=by
     intro l
     induction l with
     | nil=>intro _; rfl
     | cons x l ih=>intro h; rw [aNL,nodesL,h x (by simp),ih (fun k hk=>h k (by simp [hk]))]
   have R:∀ l:List LTerm,(∀ k ∈ l,k.kids=[]∧k.rest=[])→aNL l=l.length:=by
     intro l
     induction l with
     | nil=>intro _; rfl
     | cons x l ih=>intro h; rw [aNL,aL,ih (fun k hk=>h k (by simp [hk])),aKm,(h x (by simp)).1,(h x (by simp)).2]; simp [aNL]; omega
   rw [aKm,gL,L t.kids (fun k hm=>hk k hm (h2 k hm)),R t.rest (aIy t h1)]
   omega
theorem tR {l:List LTerm} {k:Nat} (h:k < l.length):mVarsL (l.take (k+1))=mVarsL (l.take k)++jC (l.getD k default):=by
 rw [lC,lC,rY (d:=default) h]
theorem lD {l m:List LTerm}:mVarsL (l++m)=mVarsL l++mVarsL m:=by rw [lC,lC,lC,dN]
theorem iH {l:List LTerm} {k:Nat}:(mVarsL (l.take k)).length≤(mVarsL l).length:=by
 have:mVarsL l=mVarsL (l.take k)++mVarsL (l.drop k):=by rw [← lD,eL]
 rw [this,List.length_append]; omega
theorem aWp (t:LTerm) (ht:OkT t) (hn:aN t≤1000000) (ih:∀ k ∈ t.kids++t.rest,CT 124 [elT k] (avn (jC k))): CT 124 [elT t] (avn (jC t)):=by
 refine fK (rx:=true) (th:=fun _=>none) mixed Tryz.func124 g0 ?_
 · simp -implicitDefEqProofs (disch:=omega) only [Tryz.f124,go_sem,List.replicate,↓reduceIte,reduceAdd,reduceSub,reduceMul,reduceLeDiff,reduceLT,reduceEqDiff,reduceNeg,Nat.reduceBEq]
   have e:=yX t
   have hno:=aKm t
   have hk1:=aDr t.kids
   have hk2:=aDr t.rest
   have hvl:=aEb t
   have b1:t.kids.length * 96≤140737488355328:=by omega
   have b2:(t.kids.length+t.rest.length) * 96≤140737488355328:=by omega
   by_cases h6:t.kind=6∧¬ t.text=[95]
   · rw [if_pos h6] at e
     simp -implicitDefEqProofs (disch:=omega) only [zt h6.1,zf h6.2,go_sem,↓reduceIte,reduceAdd,reduceSub,reduceMul,reduceLeDiff,reduceLT,reduceEqDiff,reduceNeg,Nat.reduceBEq]
     (repeat' (first | refine gT ?_ ?_ | refine gF ?_ ?_ | refine gC ?_ ?_ | refine aK (by omega) ?_ | (intro hr; have hc:=hr; (try simp only [zdz] at hc); simp -implicitDefEqProofs (disch:=omega) only [hr,zt h6.1,zf h6.2,go_sem,↓reduceIte,reduceAdd,reduceSub,reduceMul,reduceLeDiff,reduceLT,reduceEqDiff,reduceNeg,Nat.reduceBEq]; (try clear hr))))
     rw [← dN,← List.length_append]
     refine bQ (fun (q:Nat × AV × List AObj)=>[.k,.k,.k,.v (q.2.1),.k,.j,.k,.k,.k,.k,.k,.k,.k,.k,.k,.k,.k,.k,.k,.k,.k,.k,.k,.k,.k,.k,.k,.v (.i .i64 (q.1:Nat)),.j,.j,.j,.j,.j,.j,.j,.j,.k]) (fun q=>(.box false [.i .i64 (t).kind,.i .i64 (t).n,.s (t).text,.s (t).sort,.sl ((t).kids.flatMap aA) (t).kids.length,.sl ((t).rest.flatMap aA) (t).rest.length]::q.2.2)) (fun q=>q.1≤(t.kids++t.rest).length∧eP 1 1 q.2.2 q.2.1 (([t.text]++mVarsL ((t.kids++t.rest).take q.1)).map .s) ([t.text]++mVarsL ((t.kids++t.rest).take q.1)).length∧yO [.arr false 1 [.s t.text],.arr false 1 [.s t.text],.dead,.arr false 6 ((t.kids++t.rest).flatMap aA)] q.2.2) (fun q=>(t.kids++t.rest).length - q.1) ((0,.hs 2 0 1 false,[.arr false 1 [.s t.text],.arr false 1 [.s t.text],.dead,.arr false 6 ((t.kids++t.rest).flatMap aA)])) ⟨aF _,.inr ⟨1,rfl,rfl,rfl⟩,fun i o h _=>h⟩ rfl (by simp [fD]) ?_
     rintro ⟨k,out,g⟩ j ⟨hk,ho,hkp⟩
     dsimp only at hk ho hkp
     have hgi:=hkp 3 _ rfl (fun c h=>by cases h)
     have htl:=iH (l:=t.kids++t.rest) (k:=k)
     have hall:(mVarsL (t.kids++t.rest)).length≤1000000:=by
       have:=congrArg List.length e
       simp only [List.length_append] at this
       rw [lD,List.length_append]; omega
     have hnn:([t.text]++mVarsL ((t.kids++t.rest).take k)).length≤1000001:=by
       rw [List.length_append]; simp only [aL,bG]; omega
     by_cases hlt:k < (t.kids++t.rest).length
     · have hki:(k:Int) < ((t.kids.length+t.rest.length:Nat):Int):=by rw [List.length_append] at hlt; omega
       have hm:=bE (d:=default) hlt
       have ci:=ih _ hm
       simp only [avn] at ci
       have hsucc:=tR hlt
       have htl2:=iH (l:=t.kids++t.rest) (k:=k+1)
       rw [hsucc,List.length_append] at htl2
       simp -implicitDefEqProofs (disch:=omega) only [zt hki,hgi,go_sem,↓reduceIte,reduceAdd,reduceSub,reduceMul,reduceLeDiff,reduceLT,reduceEqDiff,reduceNeg,Nat.reduceBEq]
       (repeat' (first | refine gT ?_ ?_ | refine gF ?_ ?_ | refine gC ?_ ?_ | ((refine aY (ci) ?_ ?_; (focus (simp -implicitDefEqProofs (disch:=omega) only [zt hki,hgi,zdB,go_sem,↓reduceIte,reduceAdd,reduceSub,reduceMul,reduceLeDiff,reduceLT,reduceEqDiff,reduceNeg,Nat.reduceBEq]; done))); simp -implicitDefEqProofs (disch:=omega) only [zt hki,hgi,go_sem,↓reduceIte,reduceAdd,reduceSub,reduceMul,reduceLeDiff,reduceLT,reduceEqDiff,reduceNeg,Nat.reduceBEq]) | refine aK (by omega) ?_ | (intro hr; have hc:=hr; (try simp only [zdz] at hc); simp -implicitDefEqProofs (disch:=omega) only [hr,zt hki,hgi,go_sem,↓reduceIte,reduceAdd,reduceSub,reduceMul,reduceLeDiff,reduceLT,reduceEqDiff,reduceNeg,Nat.reduceBEq]; (try clear hr))))
       refine eD (more:=[]) (pre:=[.box false [.i .i64 (t).kind,.i .i64 (t).n,.s (t).text,.s (t).sort,.sl ((t).kids.flatMap aA) (t).kids.length,.sl ((t).rest.flatMap aA) (t).rest.length]]) (news:=(jC ((t.kids++t.rest).getD k default)).map .s) (m:=(jC ((t.kids++t.rest).getD k default)).length) (ho.more [.box false [.i .i64 ((t.kids++t.rest).getD k default).kind,.i .i64 ((t.kids++t.rest).getD k default).n,.s ((t.kids++t.rest).getD k default).text,.s ((t.kids++t.rest).getD k default).sort,.sl (((t.kids++t.rest).getD k default).kids.flatMap aA) ((t.kids++t.rest).getD k default).kids.length,.sl (((t.kids++t.rest).getD k default).rest.flatMap aA) ((t.kids++t.rest).getD k default).rest.length]]) rfl (by simp) aSq zo9 sz9 by9 rfl (by decide) (by simp -implicitDefEqProofs (disch:=omega) only [go_sem,↓reduceIte,reduceAdd,reduceSub,reduceMul,reduceLeDiff,reduceLT,reduceEqDiff,reduceNeg,Nat.reduceBEq]) (by simp -implicitDefEqProofs (disch:=omega) only [go_sem,↓reduceIte,reduceAdd,reduceSub,reduceMul,reduceLeDiff,reduceLT,reduceEqDiff,reduceNeg,Nat.reduceBEq]) ⟨by omega,by omega⟩ ?_
       intro out' g' ho' hkeep
       simp -implicitDefEqProofs (disch:=omega) only [go_sem,↓reduceIte,reduceAdd,reduceSub,reduceMul,reduceLeDiff,reduceLT,reduceEqDiff,reduceNeg,Nat.reduceBEq]
       refine ⟨(k+1,out',g'),⟨by dsimp only; omega,?_,(hkp.more _).trans hkeep⟩,by dsimp only; omega,rfl,by simp⟩
       have hX:[t.text]++mVarsL ((t.kids++t.rest).take (k+1))=([t.text]++mVarsL ((t.kids++t.rest).take k))++jC ((t.kids++t.rest).getD k default):=by rw [hsucc,bS]
       have ho2:=ho'
       rw [← aV,← List.length_append,← hX] at ho2
       exact ho2
     · have hki:¬ (k:Int) < ((t.kids.length+t.rest.length:Nat):Int):=by rw [List.length_append] at hlt; omega
       rw [aJ (by omega),lD] at ho
       simp -implicitDefEqProofs (disch:=omega) only [zf hki,go_sem,↓reduceIte,reduceAdd,reduceSub,reduceMul,reduceLeDiff,reduceLT,reduceEqDiff,reduceNeg,Nat.reduceBEq]
       rw [e,avn]
       have hf:=oQ (pre:=[.box false [.i .i64 (t).kind,.i .i64 (t).n,.s (t).text,.s (t).sort,.sl ((t).kids.flatMap aA) (t).kids.length,.sl ((t).rest.flatMap aA) (t).rest.length]]) ho iA
       exact hf
   rw [if_neg h6] at e
   by_cases h6k:t.kind=6
   · have h95:t.text=[95]:=nU fun h=>h6 ⟨h6k,h⟩
     simp -implicitDefEqProofs (disch:=omega) only [zt h6k,zt h95,go_sem,↓reduceIte,reduceAdd,reduceSub,reduceMul,reduceLeDiff,reduceLT,reduceEqDiff,reduceNeg,Nat.reduceBEq]
     (repeat' (first | refine gT ?_ ?_ | refine gF ?_ ?_ | refine gC ?_ ?_ | refine aK (by omega) ?_ | (intro hr; have hc:=hr; (try simp only [zdz] at hc); simp -implicitDefEqProofs (disch:=omega) only [hr,zt h6k,zt h95,go_sem,↓reduceIte,reduceAdd,reduceSub,reduceMul,reduceLeDiff,reduceLT,reduceEqDiff,reduceNeg,Nat.reduceBEq]; (try clear hr))))
     rw [← dN,← List.length_append]
     refine bQ (fun (q:Nat × AV × List AObj)=>[.k,.k,.k,.v (q.2.1),.k,.j,.k,.k,.k,.k,.k,.k,.k,.k,.k,.k,.k,.k,.k,.k,.k,.k,.k,.k,.k,.k,.k,.v (.i .i64 (q.1:Nat)),.j,.j,.j,.j,.j,.j,.j,.j,.k]) (fun q=>(.box false [.i .i64 (t).kind,.i .i64 (t).n,.s (t).text,.s (t).sort,.sl ((t).kids.flatMap aA) (t).kids.length,.sl ((t).rest.flatMap aA) (t).rest.length]::q.2.2)) (fun q=>q.1≤(t.kids++t.rest).length∧eP 1 1 q.2.2 q.2.1 ((([]:List Str)++mVarsL ((t.kids++t.rest).take q.1)).map .s) (([]:List Str)++mVarsL ((t.kids++t.rest).take q.1)).length∧yO [.dead,.arr false 6 ((t.kids++t.rest).flatMap aA)] q.2.2) (fun q=>(t.kids++t.rest).length - q.1) ((0,.e0,[.dead,.arr false 6 ((t.kids++t.rest).flatMap aA)])) ⟨aF _,eR,fun i o h _=>h⟩ rfl (by simp [fD]) ?_
     rintro ⟨k,out,g⟩ j ⟨hk,ho,hkp⟩
     dsimp only at hk ho hkp
     have hgi:=hkp 1 _ rfl (fun c h=>by cases h)
     have htl:=iH (l:=t.kids++t.rest) (k:=k)
     have hall:(mVarsL (t.kids++t.rest)).length≤1000000:=by
       have:=congrArg List.length e
       simp only [List.length_append] at this
       rw [lD,List.length_append]; omega
     have hnn:(([]:List Str)++mVarsL ((t.kids++t.rest).take k)).length≤1000001:=by
       rw [List.length_append]; simp only [aL,bG]; omega
     by_cases hlt:k < (t.kids++t.rest).length
     · have hki:(k:Int) < ((t.kids.length+t.rest.length:Nat):Int):=by rw [List.length_append] at hlt; omega
       have hm:=bE (d:=default) hlt
       have ci:=ih _ hm
       simp only [avn] at ci
       have hsucc:=tR hlt
       have htl2:=iH (l:=t.kids++t.rest) (k:=k+1)
       rw [hsucc,List.length_append] at htl2
       simp -implicitDefEqProofs (disch:=omega) only [zt hki,hgi,go_sem,↓reduceIte,reduceAdd,reduceSub,reduceMul,reduceLeDiff,reduceLT,reduceEqDiff,reduceNeg,Nat.reduceBEq]
       (repeat' (first | refine gT ?_ ?_ | refine gF ?_ ?_ | refine gC ?_ ?_ | ((refine aY (ci) ?_ ?_; (focus (simp -implicitDefEqProofs (disch:=omega) only [zt hki,hgi,zdB,go_sem,↓reduceIte,reduceAdd,reduceSub,reduceMul,reduceLeDiff,reduceLT,reduceEqDiff,reduceNeg,Nat.reduceBEq]; done))); simp -implicitDefEqProofs (disch:=omega) only [zt hki,hgi,go_sem,↓reduceIte,reduceAdd,reduceSub,reduceMul,reduceLeDiff,reduceLT,reduceEqDiff,reduceNeg,Nat.reduceBEq]) | refine aK (by omega) ?_ | (intro hr; have hc:=hr; (try simp only [zdz] at hc); simp -implicitDefEqProofs (disch:=omega) only [hr,zt hki,hgi,go_sem,↓reduceIte,reduceAdd,reduceSub,reduceMul,reduceLeDiff,reduceLT,reduceEqDiff,reduceNeg,Nat.reduceBEq]; (try clear hr))))
       refine eD (more:=[]) (pre:=[.box false [.i .i64 (t).kind,.i .i64 (t).n,.s (t).text,.s (t).sort,.sl ((t).kids.flatMap aA) (t).kids.length,.sl ((t).rest.flatMap aA) (t).rest.length]]) (news:=(jC ((t.kids++t.rest).getD k default)).map .s) (m:=(jC ((t.kids++t.rest).getD k default)).length) (ho.more [.box false [.i .i64 ((t.kids++t.rest).getD k default).kind,.i .i64 ((t.kids++t.rest).getD k default).n,.s ((t.kids++t.rest).getD k default).text,.s ((t.kids++t.rest).getD k default).sort,.sl (((t.kids++t.rest).getD k default).kids.flatMap aA) ((t.kids++t.rest).getD k default).kids.length,.sl (((t.kids++t.rest).getD k default).rest.flatMap aA) ((t.kids++t.rest).getD k default).rest.length]]) rfl (by simp) aSq zo9 sz9 by9 rfl (by decide) (by simp -implicitDefEqProofs (disch:=omega) only [go_sem,↓reduceIte,reduceAdd,reduceSub,reduceMul,reduceLeDiff,reduceLT,reduceEqDiff,reduceNeg,Nat.reduceBEq]) (by simp -implicitDefEqProofs (disch:=omega) only [go_sem,↓reduceIte,reduceAdd,reduceSub,reduceMul,reduceLeDiff,reduceLT,reduceEqDiff,reduceNeg,Nat.reduceBEq]) ⟨by omega,by omega⟩ ?_
       intro out' g' ho' hkeep
       simp -implicitDefEqProofs (disch:=omega) only [go_sem,↓reduceIte,reduceAdd,reduceSub,reduceMul,reduceLeDiff,reduceLT,reduceEqDiff,reduceNeg,Nat.reduceBEq]
       refine ⟨(k+1,out',g'),⟨by dsimp only; omega,?_,(hkp.more _).trans hkeep⟩,by dsimp only; omega,rfl,by simp⟩
       have hX:([]:List Str)++mVarsL ((t.kids++t.rest).take (k+1))=(([]:List Str)++mVarsL ((t.kids++t.rest).take k))++jC ((t.kids++t.rest).getD k default):=by rw [hsucc,bS]
       have ho2:=ho'
       rw [← aV,← List.length_append,← hX] at ho2
       exact ho2
     · have hki:¬ (k:Int) < ((t.kids.length+t.rest.length:Nat):Int):=by rw [List.length_append] at hlt; omega
       rw [aJ (by omega),lD] at ho
       simp -implicitDefEqProofs (disch:=omega) only [zf hki,go_sem,↓reduceIte,reduceAdd,reduceSub,reduceMul,reduceLeDiff,reduceLT,reduceEqDiff,reduceNeg,Nat.reduceBEq]
       rw [e,avn]
       have hf:=oQ (pre:=[.box false [.i .i64 (t).kind,.i .i64 (t).n,.s (t).text,.s (t).sort,.sl ((t).kids.flatMap aA) (t).kids.length,.sl ((t).rest.flatMap aA) (t).rest.length]]) ho iA
       exact hf
   · simp -implicitDefEqProofs (disch:=omega) only [zf h6k,go_sem,↓reduceIte,reduceAdd,reduceSub,reduceMul,reduceLeDiff,reduceLT,reduceEqDiff,reduceNeg,Nat.reduceBEq]
     (repeat' (first | refine gT ?_ ?_ | refine gF ?_ ?_ | refine gC ?_ ?_ | refine aK (by omega) ?_ | (intro hr; have hc:=hr; (try simp only [zdz] at hc); simp -implicitDefEqProofs (disch:=omega) only [hr,zf h6k,go_sem,↓reduceIte,reduceAdd,reduceSub,reduceMul,reduceLeDiff,reduceLT,reduceEqDiff,reduceNeg,Nat.reduceBEq]; (try clear hr))))
     rw [← dN,← List.length_append]
     refine bQ (fun (q:Nat × AV × List AObj)=>[.k,.k,.k,.v (q.2.1),.k,.j,.k,.k,.k,.k,.k,.k,.k,.k,.k,.k,.k,.k,.k,.k,.k,.k,.k,.k,.k,.k,.k,.v (.i .i64 (q.1:Nat)),.j,.j,.j,.j,.j,.j,.j,.j,.k]) (fun q=>(.box false [.i .i64 (t).kind,.i .i64 (t).n,.s (t).text,.s (t).sort,.sl ((t).kids.flatMap aA) (t).kids.length,.sl ((t).rest.flatMap aA) (t).rest.length]::q.2.2)) (fun q=>q.1≤(t.kids++t.rest).length∧eP 1 1 q.2.2 q.2.1 ((([]:List Str)++mVarsL ((t.kids++t.rest).take q.1)).map .s) (([]:List Str)++mVarsL ((t.kids++t.rest).take q.1)).length∧yO [.dead,.arr false 6 ((t.kids++t.rest).flatMap aA)] q.2.2) (fun q=>(t.kids++t.rest).length - q.1) ((0,.e0,[.dead,.arr false 6 ((t.kids++t.rest).flatMap aA)])) ⟨aF _,eR,fun i o h _=>h⟩ rfl (by simp [fD]) ?_
     rintro ⟨k,out,g⟩ j ⟨hk,ho,hkp⟩
     dsimp only at hk ho hkp
     have hgi:=hkp 1 _ rfl (fun c h=>by cases h)
     have htl:=iH (l:=t.kids++t.rest) (k:=k)
     have hall:(mVarsL (t.kids++t.rest)).length≤1000000:=by
       have:=congrArg List.length e
       simp only [List.length_append] at this
       rw [lD,List.length_append]; omega
     have hnn:(([]:List Str)++mVarsL ((t.kids++t.rest).take k)).length≤1000001:=by
       rw [List.length_append]; simp only [aL,bG]; omega
     by_cases hlt:k < (t.kids++t.rest).length
     · have hki:(k:Int) < ((t.kids.length+t.rest.length:Nat):Int):=by rw [List.length_append] at hlt; omega
       have hm:=bE (d:=default) hlt
       have ci:=ih _ hm
       simp only [avn] at ci
       have hsucc:=tR hlt
       have htl2:=iH (l:=t.kids++t.rest) (k:=k+1)
       rw [hsucc,List.length_append] at htl2
       simp -implicitDefEqProofs (disch:=omega) only [zt hki,hgi,go_sem,↓reduceIte,reduceAdd,reduceSub,reduceMul,reduceLeDiff,reduceLT,reduceEqDiff,reduceNeg,Nat.reduceBEq]
       (repeat' (first | refine gT ?_ ?_ | refine gF ?_ ?_ | refine gC ?_ ?_ | ((refine aY (ci) ?_ ?_; (focus (simp -implicitDefEqProofs (disch:=omega) only [zt hki,hgi,zdB,go_sem,↓reduceIte,reduceAdd,reduceSub,reduceMul,reduceLeDiff,reduceLT,reduceEqDiff,reduceNeg,Nat.reduceBEq]; done))); simp -implicitDefEqProofs (disch:=omega) only [zt hki,hgi,go_sem,↓reduceIte,reduceAdd,reduceSub,reduceMul,reduceLeDiff,reduceLT,reduceEqDiff,reduceNeg,Nat.reduceBEq]) | refine aK (by omega) ?_ | (intro hr; have hc:=hr; (try simp only [zdz] at hc); simp -implicitDefEqProofs (disch:=omega) only [hr,zt hki,hgi,go_sem,↓reduceIte,reduceAdd,reduceSub,reduceMul,reduceLeDiff,reduceLT,reduceEqDiff,reduceNeg,Nat.reduceBEq]; (try clear hr))))
       refine eD (more:=[]) (pre:=[.box false [.i .i64 (t).kind,.i .i64 (t).n,.s (t).text,.s (t).sort,.sl ((t).kids.flatMap aA) (t).kids.length,.sl ((t).rest.flatMap aA) (t).rest.length]]) (news:=(jC ((t.kids++t.rest).getD k default)).map .s) (m:=(jC ((t.kids++t.rest).getD k default)).length) (ho.more [.box false [.i .i64 ((t.kids++t.rest).getD k default).kind,.i .i64 ((t.kids++t.rest).getD k default).n,.s ((t.kids++t.rest).getD k default).text,.s ((t.kids++t.rest).getD k default).sort,.sl (((t.kids++t.rest).getD k default).kids.flatMap aA) ((t.kids++t.rest).getD k default).kids.length,.sl (((t.kids++t.rest).getD k default).rest.flatMap aA) ((t.kids++t.rest).getD k default).rest.length]]) rfl (by simp) aSq zo9 sz9 by9 rfl (by decide) (by simp -implicitDefEqProofs (disch:=omega) only [go_sem,↓reduceIte,reduceAdd,reduceSub,reduceMul,reduceLeDiff,reduceLT,reduceEqDiff,reduceNeg,Nat.reduceBEq]) (by simp -implicitDefEqProofs (disch:=omega) only [go_sem,↓reduceIte,reduceAdd,reduceSub,reduceMul,reduceLeDiff,reduceLT,reduceEqDiff,reduceNeg,Nat.reduceBEq]) ⟨by omega,by omega⟩ ?_
       intro out' g' ho' hkeep
       simp -implicitDefEqProofs (disch:=omega) only [go_sem,↓reduceIte,reduceAdd,reduceSub,reduceMul,reduceLeDiff,reduceLT,reduceEqDiff,reduceNeg,Nat.reduceBEq]
       refine ⟨(k+1,out',g'),⟨by dsimp only; omega,?_,(hkp.more _).trans hkeep⟩,by dsimp only; omega,rfl,by simp⟩
       have hX:([]:List Str)++mVarsL ((t.kids++t.rest).take (k+1))=(([]:List Str)++mVarsL ((t.kids++t.rest).take k))++jC ((t.kids++t.rest).getD k default):=by rw [hsucc,bS]
       have ho2:=ho'
       rw [← aV,← List.length_append,← hX] at ho2
       exact ho2
     · have hki:¬ (k:Int) < ((t.kids.length+t.rest.length:Nat):Int):=by rw [List.length_append] at hlt; omega
       rw [aJ (by omega),lD] at ho
       simp -implicitDefEqProofs (disch:=omega) only [zf hki,go_sem,↓reduceIte,reduceAdd,reduceSub,reduceMul,reduceLeDiff,reduceLT,reduceEqDiff,reduceNeg,Nat.reduceBEq]
       rw [e,avn]
       have hf:=oQ (pre:=[.box false [.i .i64 (t).kind,.i .i64 (t).n,.s (t).text,.s (t).sort,.sl ((t).kids.flatMap aA) (t).kids.length,.sl ((t).rest.flatMap aA) (t).rest.length]]) ho iA
       exact hf
theorem bLa:∀ (t:LTerm),OkT t→aN t≤1000000→CT 124 [elT t] (avn (jC t)):=
 dK (Q:=fun t=>OkT t→aN t≤1000000→CT 124 [elT t] (avn (jC t))) fun t hk hr ht hn=>aWp t ht hn (fun k hm=>by
   have e:=aKm t
   rcases bC.1 hm with hm | hm
   · have:=aDq hm; exact hk k hm (ht.kid k hm) (by omega)
   · have:=aDq hm; exact hr k hm (ht.rst k hm) (by omega))
theorem aIx {l:List Str} {k:Nat} (h:k < l.length) (h1:(l.take k).Nodup) (h2:∀ j,j < k→¬ l.getD k default=l.getD j default):(l.take (k+1)).Nodup:=by
 rw [eH (d:=default) h,gU]
 refine ⟨h1,by simp,?_⟩
 intro a ha c hc
 rw [aU.1 hc]
 obtain ⟨j,hj,rfl⟩:=bV.1 ha
 rw [bZ] at hj
 intro e
 have:=h2 j (by omega)
 apply this
 rw [← e,List.getElem_take,dT,aT (by omega)]; rfl
theorem aNx {l:List Str} {j k:Nat} (hk:k < l.length) (hj:j < k) (h:l.getD k default=l.getD j default):¬ l.Nodup:=by
 intro hn
 rw [dT,dT,aT hk,aT (by omega)] at h
 exact (eC.1 hn j k (by omega) hk hj) (show l[j]=l[k] from h.symm)
theorem bLi (t:LTerm) (ht:OkT t) (hn:aN t≤1000000): CT 73 [elT t] (.b (!decide (jC t).Nodup)):=by
 refine aE mixed Tryz.func73 g0 ?_
 · skip
   have c:=bLa t ht hn
   have hvl:=aEb t
   simp only [avn] at c
   generalize jC t=v at *
   (repeat' (first | refine gT ?_ ?_ | refine gF ?_ ?_ | refine gC ?_ ?_ | ((refine aY (c) ?_ ?_; (focus (simp -implicitDefEqProofs (disch:=omega) only [zdB,go_sem,↓reduceIte,reduceAdd,reduceSub,reduceMul,reduceLeDiff,reduceLT,reduceEqDiff,reduceNeg,Nat.reduceBEq]; done))); simp -implicitDefEqProofs (disch:=omega) only [go_sem,↓reduceIte,reduceAdd,reduceSub,reduceMul,reduceLeDiff,reduceLT,reduceEqDiff,reduceNeg,Nat.reduceBEq]) | refine aK (by omega) ?_ | (intro hr; have hc:=hr; (try simp only [zdz] at hc); simp -implicitDefEqProofs (disch:=omega) only [hr,go_sem,↓reduceIte,reduceAdd,reduceSub,reduceMul,reduceLeDiff,reduceLT,reduceEqDiff,reduceNeg,Nat.reduceBEq]; (try clear hr))))
   refine bQ (fun (q:Nat)=>[.k,.k,.j,.k,.j,.j,.k,.k,.k,.k,.v (.i .i64 (q:Nat)),.j,.j,.j,.j,.j,.j,.j,.j,.j,.j,.j,.j,.j,.j,.j,.j,.j]) (fun q=>[.box false [.i .i64 (t).kind,.i .i64 (t).n,.s (t).text,.s (t).sort,.sl ((t).kids.flatMap aA) (t).kids.length,.sl ((t).rest.flatMap aA) (t).rest.length]]) (fun q=>q≤v.length∧(v.take q).Nodup) (fun q=>v.length - q) (0) ⟨aF _,by simp⟩ rfl (by simp [fD]) ?_
   rintro k j ⟨hk,hd⟩
   by_cases hlt:k < v.length
   · have hki:(k:Int) < ((v.length:Nat):Int):=by omega
     simp -implicitDefEqProofs (disch:=omega) only [zt hki,go_sem,↓reduceIte,reduceAdd,reduceSub,reduceMul,reduceLeDiff,reduceLT,reduceEqDiff,reduceNeg,Nat.reduceBEq]
     refine bQ (fun (q:Nat)=>[.k,.k,.j,.k,.k,.v (.i .i64 (q:Nat)),.k,.k,.k,.k,.k,.k,.k,.j,.j,.j,.j,.j,.j,.j,.j,.j,.j,.j,.j,.j,.j,.k]) (fun q=>[.box false [.i .i64 (t).kind,.i .i64 (t).n,.s (t).text,.s (t).sort,.sl ((t).kids.flatMap aA) (t).kids.length,.sl ((t).rest.flatMap aA) (t).rest.length]]) (fun q=>q≤k∧∀ i,i < q→¬ v.getD k default=v.getD i default) (fun q=>k - q) (0) ⟨aF _,fun i h=>by omega⟩ rfl (by simp [fD]) ?_
     rintro i j2 ⟨hi,hne⟩
     by_cases hit:i < k
     · have hii:(i:Int) < ((k:Nat):Int):=by omega
       simp -implicitDefEqProofs (disch:=omega) only [zt hii,go_sem,↓reduceIte,reduceAdd,reduceSub,reduceMul,reduceLeDiff,reduceLT,reduceEqDiff,reduceNeg,Nat.reduceBEq]
       (repeat' (first | refine gT ?_ ?_ | refine gF ?_ ?_ | refine gC ?_ ?_ | refine aK (by omega) ?_ | (intro hr; have hc:=hr; (try simp only [zdz] at hc); simp -implicitDefEqProofs (disch:=omega) only [hr,zt hii,go_sem,↓reduceIte,reduceAdd,reduceSub,reduceMul,reduceLeDiff,reduceLT,reduceEqDiff,reduceNeg,Nat.reduceBEq]; (try clear hr))))
       · exact aG (by rw [zf (aNx hlt hit hc)]; rfl) rfl
       · exact ⟨i+1,⟨by omega,fun a ha=>by
           rcases oX.1 ha with h1 | rfl
           · exact hne a h1
           · exact hc⟩,by omega,rfl⟩
     · have hii:¬ (i:Int) < ((k:Nat):Int):=by omega
       simp -implicitDefEqProofs (disch:=omega) only [zf hii,go_sem,↓reduceIte,reduceAdd,reduceSub,reduceMul,reduceLeDiff,reduceLT,reduceEqDiff,reduceNeg,Nat.reduceBEq]
       obtain rfl:i=k:=by omega
       exact ⟨i+1,⟨by omega,aIx hlt hd hne⟩,by omega,rfl⟩
   · have hki:¬ (k:Int) < ((v.length:Nat):Int):=by omega
     rw [aJ (by omega)] at hd
     simp -implicitDefEqProofs (disch:=omega) only [zf hki,go_sem,↓reduceIte,reduceAdd,reduceSub,reduceMul,reduceLeDiff,reduceLT,reduceEqDiff,reduceNeg,Nat.reduceBEq]
     exact aG (by rw [zt hd]; rfl) rfl
def aXw (t:LTerm):Bool := !yG t && decide (jC t).Nodup
theorem bLp (t:LTerm) (ht:OkT t) (hn:aN t≤1000000): CT 31 [elT t] (.b (aXw t)):=by
 refine aE mixed Tryz.func31 g0 ?_
 · skip
   have c1:=bLj t ht
   have c2:=bLi t ht hn
   (repeat' (first | refine gT ?_ ?_ | refine gF ?_ ?_ | refine gC ?_ ?_ | ((first | (refine aY (c1) ?_ ?_; (focus (simp -implicitDefEqProofs (disch:=omega) only [zdB,go_sem,↓reduceIte,reduceAdd,reduceSub,reduceMul,reduceLeDiff,reduceLT,reduceEqDiff,reduceNeg,Nat.reduceBEq]; done))) | (refine aY (c2) ?_ ?_; (focus (simp -implicitDefEqProofs (disch:=omega) only [zdB,go_sem,↓reduceIte,reduceAdd,reduceSub,reduceMul,reduceLeDiff,reduceLT,reduceEqDiff,reduceNeg,Nat.reduceBEq]; done)))); simp -implicitDefEqProofs (disch:=omega) only [go_sem,↓reduceIte,reduceAdd,reduceSub,reduceMul,reduceLeDiff,reduceLT,reduceEqDiff,reduceNeg,Nat.reduceBEq]) | refine aK (by omega) ?_ | (intro hr; have hc:=hr; (try simp only [zdz] at hc); simp -implicitDefEqProofs (disch:=omega) only [hr,go_sem,↓reduceIte,reduceAdd,reduceSub,reduceMul,reduceLeDiff,reduceLT,reduceEqDiff,reduceNeg,Nat.reduceBEq]; (try clear hr))))
   all_goals exact aG (by rw [aXw]; simp_all) rfl
end Go.Proofs.YtifefbhllfdmlaaGreatDoor

/-
  What functions of the chapter return, as plain functions of what they are given; no condition beyond those that each theorem names.
-/
import Derived.Test.YtifefbhllfdmlaaGreatDoorVcP103
import Derived.Test.YtifefbhllfdmlaaGreatDoorVbP101
set_option maxRecDepth 100000
set_option linter.unusedSimpArgs false
set_option linter.unusedVariables false
set_option maxHeartbeats 4000000
namespace Go.Proofs.YtifefbhllfdmlaaGreatDoor
open Go Go.Vo
open Nat (reduceAdd reduceSub reduceMul reduceLeDiff reduceLT reduceEqDiff)
open Int (reduceNeg)

theorem bEm:∀ t:LTerm,highT t≤nodesT t:=
 dK fun t hk hr=>by
   have L:∀ l:List LTerm,(∀ k ∈ l,highT k≤nodesT k)→highL l≤nodesL l:=by
     intro l
     induction l with
     | nil=>intro _; simp [highL]
     | cons x l ih=>intro h; rw [highL,nodesL]; have:=h x (by simp); have:=ih (fun k hk=>h k (by simp [hk])); omega
   have h1:=L t.kids hk
   rw [qM,gL]; omega
theorem aWb {s:cI} {p t:LTerm} (h:(xT s p t).2=0):wW s t p=true:=by
 rw [xT] at h
 split at h
 · rename_i h0
   split at h
   · simp at h
   · rename_i u l hl
     rw [tF] at h0 hl
     split at h0
     · rename_i hc
       rw [if_pos hc] at hl
       split at h0
       · cases h0
       · rename_i hm
         rw [if_neg hm] at hl
         dsimp only at hl
         rw [aFc]
         exact (C1 (n:=nodesT p) (l:=[[]]) (b:=false) (by rw [show (iB s (nodesT p) p t [[]] false).1=u::l from hl]; simp)).2
     · cases h0
 · rename_i h0; exact absurd h h0
theorem aJm {s:cI} {p t:LTerm} (h:(xT s p t).2=4) (hp:B0 s p=true) (ho:wW s t p=true):aXw p=false:=by
 apply nU
 intro hb
 rw [Bool.not_eq_false] at hb
 rw [aXw,aC,decide_eq_true_eq] at hb
 have hw:=pZ (mQ hp)
 have g:=aAr (s:=s) (n:=nodesT p) (p:=p) (bEm p) hw (by simpa using hb.1) hb.2 t [[]] false (by rw [← aFc]; exact ho) (by simp) (fun u hu x _=>by rw [aU.1 hu]; rfl)
 rw [xT] at h
 split at h
 · rename_i h0
   split at h
   · rename_i hl
     rw [tF] at h0 hl
     split at h0
     · rename_i hc
       rw [if_pos hc] at hl
       split at h0
       · cases h0
       · rename_i hm
         rw [if_neg hm] at hl
         dsimp only at hl
         rcases g with g | g
         · exact hm g
         · exact g.1 hl
     · cases h0
   · simp at h
 · rename_i h0
   rw [tF] at h
   split at h
   · split at h <;> simp at h
   · simp at h
theorem E3 {s:cI} {t:LTerm}:∀ {l:List LTerm} {m:List LTerm} {i:Nat},iO s t (l++m) i=iO s t l i++iO s t m (i+l.length)
 | [],m,i=>rfl
 | p::l,m,i=>by rw [cC,iO,iO,E3,bS,aL,show i+1+l.length=i+(l.length+1) by omega]
theorem aGv {s:cI} {t:LTerm}:∀ {l:List LTerm} {i:Nat} {x:Int},x ∈ iO s t l i→(i:Int)≤x
 | p :: l,i,x,h=>by
   rw [iO] at h
   rcases bC.1 h with h | h
   · split at h
     · rw [aU.1 h]; omega
     · cases h
   · have:=aGv h; omega
theorem bJp {s:cI} {t:LTerm} {l:List LTerm} {i:Nat} (h:i < l.length):(decide ((iO s t (l.take i) 0).length < (iO s t l 0).length) && decide ((iO s t l 0).getD (iO s t (l.take i) 0).length 0=(i:Int)))=wW s t (l.getD i default):=by
 have e:l=l.take i++(l.getD i default::l.drop (i+1)):=by
   rw [dT,aT h,dU,← bR h,eL]
 have hlen:(l.take i).length=i:=by rw [bZ]; omega
 have e2:iO s t l 0=iO s t (l.take i) 0++((if wW s t (l.getD i default)=true then [((i:Nat):Int)] else [])++iO s t (l.drop (i+1)) (i+1)):=by
   conv=>lhs; rw [e]
   rw [E3,iO,hlen,dM]
 generalize hA:iO s t (l.take i) 0=A at *
 generalize hB:iO s t (l.drop (i+1)) (i+1)=B at *
 have hge:∀ x ∈ B,((i+1:Nat):Int)≤x:=fun x hx=>aGv (hB ▸ hx)
 rw [e2]
 rcases gM (wW s t (l.getD i default)) with ho | ho
 · rw [ho,if_pos rfl]
   simp
 · rw [ho,if_neg (by simp),cH]
   cases B with
   | nil=>simp
   | cons x B=>
     have:=hge x (by simp)
     have e3:(A++x::B).getD A.length 0=x:=by simp [List.getD]
     rw [e3,zf (p:=x=(i:Int)) (by omega),Bool.and_false]
theorem aVr {s:cI} {t:LTerm} {l:List LTerm} {i:Nat} (h:i < l.length):(iO s t (l.take (i+1)) 0).length=(iO s t (l.take i) 0).length+(if wW s t (l.getD i default)=true then 1 else 0):=by
 rw [xD h,List.length_append]
 split <;> rfl
@[simp] theorem bHg {s:cI} {t:LTerm} {i:Nat}:iO s t [] i=[]:=rfl
theorem I1 {t:LTerm} (h:gD cP t=true):nodesT t≤2000:=by
 simp only [gD,aC,decide_eq_true_eq] at h; exact h.2
theorem bLv (s : cI) (l:List LTerm) (t:LTerm) (hs:OkS s) (hl:l.length≤1466015503700) (ho:∀ p ∈ l,OkT p) (ht:OkT t): CT 7 [.agg (bB s),avt l,elT t] (.b true):=by
 refine fK (rx:=true) (th:=fun i=>if i=1 then some ⟨none,[],true,true,false,[22],[],0⟩ else none) mixed Tryz.func7 g0 ?_
 · generalize hR:((.b true):AV)=R
   simp -implicitDefEqProofs (disch:=omega) only [Tryz.f7,go_sem,List.replicate,↓reduceIte,reduceAdd,reduceSub,reduceMul,reduceLeDiff,reduceLT,reduceEqDiff,reduceNeg,Nat.reduceBEq,avt]
   subst hR
   have hlt:(l++[t]).length≤1466015503701:=by simp; omega
   have hot:∀ p ∈ l++[t],OkT p:=by
     intro p hp
     rcases bC.1 hp with hp | hp
     · exact ho p hp
     · rw [aU] at hp; exact hp ▸ ht
   have c1:=bLu s (l++[t]) hs hlt hot
   have ca:=bLt
   have e1:(l++[t]).flatMap aA=l.flatMap aA++[.i .i64 (t).kind,.i .i64 (t).n,.s (t).text,.s (t).sort,.sl ((t).kids.flatMap aA) (t).kids.length,.sl ((t).rest.flatMap aA) (t).rest.length]:=by rw [dN,cJ,gK,List.append_nil,aW]; rfl
   have e2:(l++[t]).length=l.length+1:=by simp
   have b1:(l.length * 96≤140737488355328)=True:=eq_true (by omega)
   have b2:(l.length≤140737488355328)=True:=eq_true (by omega)
   have b3:((l.length+1) * 96≤140737488355328)=True:=eq_true (by omega)
   have b4:(l.length+1≤140737488355328)=True:=eq_true (by omega)
   have b5:(l.length≤140737488355327)=True:=eq_true (by omega)
   have b6:∀ n:Nat,(n≤n)=True:=fun n=>eq_true (bA n)
   have q1:(l.flatMap aA).length=l.length * 6:=qD
   have tl1:List.take (l.length * 6) (l.flatMap aA)=l.flatMap aA:=aJ (by omega)
   have tl2:List.take ((l.length+1) * 6) (l.flatMap aA++[.i .i64 (t).kind,.i .i64 (t).n,.s (t).text,.s (t).sort,.sl ((t).kids.flatMap aA) (t).kids.length,.sl ((t).rest.flatMap aA) (t).rest.length])=l.flatMap aA++[.i .i64 (t).kind,.i .i64 (t).n,.s (t).text,.s (t).sort,.sl ((t).kids.flatMap aA) (t).kids.length,.sl ((t).rest.flatMap aA) (t).rest.length]:=aJ (by rw [List.length_append,q1]; simp only [aL,bG]; omega)
   have hps:persL (l.flatMap aA++[.i .i64 (t).kind,.i .i64 (t).n,.s (t).text,.s (t).sort,.sl ((t).kids.flatMap aA) (t).kids.length,.sl ((t).rest.flatMap aA) (t).rest.length])=true:=by simp [hY,fE,persL,pers]
   simp only [avt,e1,e2] at c1
   have b7:((l.length+1) * 6≤l.length * 6+6)=True:=eq_true (by omega)
   rcases gM (few s && bPq 1500 (l++[t])) with h1 | h1
   · rw [h1] at c1
     have hm:=aPv ((aC _ _).mp h1).1
     by_cases h40:40 < l.length
     · have h40i:(40:Int) < ((l.length:Nat):Int):=by omega
       simp -implicitDefEqProofs (disch:=omega) only [b1,b2,b3,b4,b5,b6,b7,q1,tl1,tl2,hps,gE,bF,bP,List.append_nil,go_sem,↓reduceIte,reduceAdd,reduceSub,reduceMul,reduceLeDiff,reduceLT,reduceEqDiff,reduceNeg,Nat.reduceBEq]
       (repeat' (first | refine gT ?_ ?_ | refine gF ?_ ?_ | refine gC ?_ ?_ | ((first | (refine aY (c1) ?_ ?_; (focus (simp -implicitDefEqProofs (disch:=omega) only [b1,b2,b3,b4,b5,b6,b7,q1,tl1,tl2,hps,gE,bF,bP,List.append_nil,zt h40i,zdB,go_sem,↓reduceIte,reduceAdd,reduceSub,reduceMul,reduceLeDiff,reduceLT,reduceEqDiff,reduceNeg,Nat.reduceBEq]; done))) | (refine aY (ca) ?_ ?_; (focus (simp -implicitDefEqProofs (disch:=omega) only [b1,b2,b3,b4,b5,b6,b7,q1,tl1,tl2,hps,gE,bF,bP,List.append_nil,zt h40i,zdB,go_sem,↓reduceIte,reduceAdd,reduceSub,reduceMul,reduceLeDiff,reduceLT,reduceEqDiff,reduceNeg,Nat.reduceBEq]; done)))); simp -implicitDefEqProofs (disch:=omega) only [b1,b2,b3,b4,b5,b6,b7,q1,tl1,tl2,hps,gE,bF,bP,List.append_nil,zt h40i,go_sem,↓reduceIte,reduceAdd,reduceSub,reduceMul,reduceLeDiff,reduceLT,reduceEqDiff,reduceNeg,Nat.reduceBEq]) | refine aK (by omega) ?_ | (intro hr; have hc:=hr; (try simp only [zdz] at hc); simp -implicitDefEqProofs (disch:=omega) only [hr,b1,b2,b3,b4,b5,b6,b7,q1,tl1,tl2,hps,gE,bF,bP,List.append_nil,zt h40i,go_sem,↓reduceIte,reduceAdd,reduceSub,reduceMul,reduceLeDiff,reduceLT,reduceEqDiff,reduceNeg,Nat.reduceBEq]; (try clear hr))))
       all_goals exact aG rfl rfl
     have h40i:¬ (40:Int) < ((l.length:Nat):Int):=by omega
     have d1:=bLq s l t hm hs (by omega) ho ht
     rw [aDd] at d1
     rcases gM (mX s l && (eN s && fY s t)) with hc | hc
     · rw [if_pos hc] at d1
       simp only [aGw,avt] at d1
       simp -implicitDefEqProofs (disch:=omega) only [b1,b2,b3,b4,b5,b6,b7,q1,tl1,tl2,hps,gE,bF,bP,List.append_nil,go_sem,↓reduceIte,reduceAdd,reduceSub,reduceMul,reduceLeDiff,reduceLT,reduceEqDiff,reduceNeg,Nat.reduceBEq]
       (repeat' (first | refine gT ?_ ?_ | refine gF ?_ ?_ | refine gC ?_ ?_ | ((first | (refine aY (c1) ?_ ?_; (focus (simp -implicitDefEqProofs (disch:=omega) only [b1,b2,b3,b4,b5,b6,b7,q1,tl1,tl2,hps,gE,bF,bP,List.append_nil,zf h40i,zdB,go_sem,↓reduceIte,reduceAdd,reduceSub,reduceMul,reduceLeDiff,reduceLT,reduceEqDiff,reduceNeg,Nat.reduceBEq]; done))) | (refine aY (d1) ?_ ?_; (focus (simp -implicitDefEqProofs (disch:=omega) only [b1,b2,b3,b4,b5,b6,b7,q1,tl1,tl2,hps,gE,bF,bP,List.append_nil,zf h40i,zdB,go_sem,↓reduceIte,reduceAdd,reduceSub,reduceMul,reduceLeDiff,reduceLT,reduceEqDiff,reduceNeg,Nat.reduceBEq]; done)))); simp -implicitDefEqProofs (disch:=omega) only [b1,b2,b3,b4,b5,b6,b7,q1,tl1,tl2,hps,gE,bF,bP,List.append_nil,zf h40i,go_sem,↓reduceIte,reduceAdd,reduceSub,reduceMul,reduceLeDiff,reduceLT,reduceEqDiff,reduceNeg,Nat.reduceBEq]) | refine aK (by omega) ?_ | (intro hr; have hc:=hr; (try simp only [zdz] at hc); simp -implicitDefEqProofs (disch:=omega) only [hr,b1,b2,b3,b4,b5,b6,b7,q1,tl1,tl2,hps,gE,bF,bP,List.append_nil,zf h40i,go_sem,↓reduceIte,reduceAdd,reduceSub,reduceMul,reduceLeDiff,reduceLT,reduceEqDiff,reduceNeg,Nat.reduceBEq]; (try clear hr))))
       obtain ⟨hc1,hc2⟩:=(aC _ _).mp hc
       obtain ⟨hv,hlp,hpat⟩:=W2 hc1
       have hpt:fY s t=true:=((aC _ _).mp hc2).2
       have hnt:nodesT t≤2000:=(I1 (by rw [fY,aC] at hpt; exact hpt.1))
       refine fJ (fun (k:Nat)=>[.k,.k,.k,.k,.k,.k,.j,.k,.k,.v (.i .i64 ((iO s t (l.take k) 0).length:Nat)),.j,.j,.j,.j,.j,.k,.k,.k,.k,.k,.k,.k,.k,.k,.k,.k,.k,.k,.k,.k,.k,.k,.k,.k,.k,.k,.k,.k,.k,.k,.k,.k,.v (.i .i64 (k:Nat)),.j,.j,.j,.j,.j,.j,.j,.j,.j,.j,.j,.j,.j,.j,.j,.j,.j,.j,.j,.j,.j,.j,.j,.j,.j,.j,.j,.j,.j,.j,.j,.j,.j,.j,.j,.j,.j,.j,.j,.j,.j,.j,.j,.j,.k,.k,.k,.k,.k,.k,.k]) (fun k=>[.box false (bB s),.box false [.i .i64 (t).kind,.i .i64 (t).n,.s (t).text,.s (t).sort,.sl ((t).kids.flatMap aA) (t).kids.length,.sl ((t).rest.flatMap aA) (t).rest.length]]) (fun k=>k≤l.length) (fun k=>l.length - k) (0) _ (aF _) rfl (by simp [fD]) ?_
       rintro i g j hi
       by_cases hit:i < l.length
       · have hii:(i:Int) < ((l.length:Nat):Int):=by omega
         have hpm:=bE (d:=default) hit
         have hp:=hpat _ hpm
         have hvp:=mQ hp
         have hnp:nodesT (l.getD i default)≤2000:=I1 hvp
         have hh:=bJp (s:=s) (t:=t) hit
         have hht:=aVr (s:=s) (t:=t) hit
         have cF:=bFq s (l.getD i default) t hm hs (ho _ hpm) ht (by omega) (by omega)
         have cB:=bLp (l.getD i default) (ho _ hpm) (by rw [bQb _ (pZ hvp)]; omega)
         have f1:=aWb (s:=s) (p:=l.getD i default) (t:=t)
         have f2:=fun h=>aJm (s:=s) (p:=l.getD i default) (t:=t) h hp
         have hcl:=wC (s:=s) (t:=t) (l:=l) (i:=0)
         have hct:=wC (s:=s) (t:=t) (l:=l.take i) (i:=0)
         rw [bZ] at hct
         generalize xT s (l.getD i default) t=F at *
         obtain ⟨Fu,Fo⟩:=F
         dsimp only at f1 f2
         simp only [avu] at cF
         generalize iO s t (l.take i) 0=A at *
         generalize iO s t l 0=C at *
         by_cases hn:A.length < C.length
         · have hni:((A.length:Nat):Int) < ((C.length:Nat):Int):=by omega
           rw [zt hn,Bool.true_and] at hh
           rcases gM (wW s t (l.getD i default)) with hb | hb
           · have HT:AV.i .i64 (((A.length:Nat):Int)+1)=.i .i64 ((iO s t (l.take (i+1)) 0).length:Nat):=by rw [hht,hb,if_pos rfl]; rfl
             simp -implicitDefEqProofs (disch:=omega) only [zt hii,zt hni,hh,hb,go_sem,↓reduceIte,reduceAdd,reduceSub,reduceMul,reduceLeDiff,reduceLT,reduceEqDiff,reduceNeg,Nat.reduceBEq]
             (repeat' (first | refine gT ?_ ?_ | refine gF ?_ ?_ | refine gC ?_ ?_ | ((first | (refine aY (cF) ?_ ?_; (focus (simp -implicitDefEqProofs (disch:=omega) only [zt hii,zt hni,hh,hb,zdB,go_sem,↓reduceIte,reduceAdd,reduceSub,reduceMul,reduceLeDiff,reduceLT,reduceEqDiff,reduceNeg,Nat.reduceBEq]; done))) | (refine aY (cB) ?_ ?_; (focus (simp -implicitDefEqProofs (disch:=omega) only [zt hii,zt hni,hh,hb,zdB,go_sem,↓reduceIte,reduceAdd,reduceSub,reduceMul,reduceLeDiff,reduceLT,reduceEqDiff,reduceNeg,Nat.reduceBEq]; done)))); simp -implicitDefEqProofs (disch:=omega) only [zt hii,zt hni,hh,hb,go_sem,↓reduceIte,reduceAdd,reduceSub,reduceMul,reduceLeDiff,reduceLT,reduceEqDiff,reduceNeg,Nat.reduceBEq]) | refine aK (by omega) ?_ | (intro hr; have hc:=hr; (try simp only [zdz] at hc); simp -implicitDefEqProofs (disch:=omega) only [hr,zt hii,zt hni,hh,hb,go_sem,↓reduceIte,reduceAdd,reduceSub,reduceMul,reduceLeDiff,reduceLT,reduceEqDiff,reduceNeg,Nat.reduceBEq]; (try clear hr))))
             all_goals first
               | (exfalso; have:=f1 hc; rw [hb] at this; cases this; done)
               | (exfalso; have hz:=f2 (by omega) hb; simp_all; done)
               | (exfalso; have hz:=f1 (by omega); rw [hb] at hz; cases hz; done)
               | exact ⟨i+1,_,by omega,by omega,rfl,HT,by simp⟩
               | exact ⟨i+1,_,by omega,by omega,rfl,by simp,HT⟩
               | exact ⟨i+1,_,by omega,by omega,rfl,HT⟩
           · have HT:AV.i .i64 ((A.length:Nat):Int)=.i .i64 ((iO s t (l.take (i+1)) 0).length:Nat):=by rw [hht,hb,if_neg (by simp)]; rfl
             simp -implicitDefEqProofs (disch:=omega) only [zt hii,zt hni,hh,hb,go_sem,↓reduceIte,reduceAdd,reduceSub,reduceMul,reduceLeDiff,reduceLT,reduceEqDiff,reduceNeg,Nat.reduceBEq]
             (repeat' (first | refine gT ?_ ?_ | refine gF ?_ ?_ | refine gC ?_ ?_ | ((first | (refine aY (cF) ?_ ?_; (focus (simp -implicitDefEqProofs (disch:=omega) only [zt hii,zt hni,hh,hb,zdB,go_sem,↓reduceIte,reduceAdd,reduceSub,reduceMul,reduceLeDiff,reduceLT,reduceEqDiff,reduceNeg,Nat.reduceBEq]; done))) | (refine aY (cB) ?_ ?_; (focus (simp -implicitDefEqProofs (disch:=omega) only [zt hii,zt hni,hh,hb,zdB,go_sem,↓reduceIte,reduceAdd,reduceSub,reduceMul,reduceLeDiff,reduceLT,reduceEqDiff,reduceNeg,Nat.reduceBEq]; done)))); simp -implicitDefEqProofs (disch:=omega) only [zt hii,zt hni,hh,hb,go_sem,↓reduceIte,reduceAdd,reduceSub,reduceMul,reduceLeDiff,reduceLT,reduceEqDiff,reduceNeg,Nat.reduceBEq]) | refine aK (by omega) ?_ | (intro hr; have hc:=hr; (try simp only [zdz] at hc); simp -implicitDefEqProofs (disch:=omega) only [hr,zt hii,zt hni,hh,hb,go_sem,↓reduceIte,reduceAdd,reduceSub,reduceMul,reduceLeDiff,reduceLT,reduceEqDiff,reduceNeg,Nat.reduceBEq]; (try clear hr))))
             all_goals first
               | (exfalso; have:=f1 hc; rw [hb] at this; cases this; done)
               | (exfalso; have hz:=f2 (by omega) hb; simp_all; done)
               | (exfalso; have hz:=f1 (by omega); rw [hb] at hz; cases hz; done)
               | exact ⟨i+1,_,by omega,by omega,rfl,HT,by simp⟩
               | exact ⟨i+1,_,by omega,by omega,rfl,by simp,HT⟩
               | exact ⟨i+1,_,by omega,by omega,rfl,HT⟩
         · have hni:¬ ((A.length:Nat):Int) < ((C.length:Nat):Int):=by omega
           rw [zf hn,Bool.false_and] at hh
           have hb:=hh.symm
           have HT:AV.i .i64 ((A.length:Nat):Int)=.i .i64 ((iO s t (l.take (i+1)) 0).length:Nat):=by rw [hht,hb,if_neg (by simp)]; rfl
           simp -implicitDefEqProofs (disch:=omega) only [zt hii,zf hni,go_sem,↓reduceIte,reduceAdd,reduceSub,reduceMul,reduceLeDiff,reduceLT,reduceEqDiff,reduceNeg,Nat.reduceBEq]
           (repeat' (first | refine gT ?_ ?_ | refine gF ?_ ?_ | refine gC ?_ ?_ | ((first | (refine aY (cF) ?_ ?_; (focus (simp -implicitDefEqProofs (disch:=omega) only [zt hii,zf hni,zdB,go_sem,↓reduceIte,reduceAdd,reduceSub,reduceMul,reduceLeDiff,reduceLT,reduceEqDiff,reduceNeg,Nat.reduceBEq]; done))) | (refine aY (cB) ?_ ?_; (focus (simp -implicitDefEqProofs (disch:=omega) only [zt hii,zf hni,zdB,go_sem,↓reduceIte,reduceAdd,reduceSub,reduceMul,reduceLeDiff,reduceLT,reduceEqDiff,reduceNeg,Nat.reduceBEq]; done)))); simp -implicitDefEqProofs (disch:=omega) only [zt hii,zf hni,go_sem,↓reduceIte,reduceAdd,reduceSub,reduceMul,reduceLeDiff,reduceLT,reduceEqDiff,reduceNeg,Nat.reduceBEq]) | refine aK (by omega) ?_ | (intro hr; have hc:=hr; (try simp only [zdz] at hc); simp -implicitDefEqProofs (disch:=omega) only [hr,zt hii,zf hni,go_sem,↓reduceIte,reduceAdd,reduceSub,reduceMul,reduceLeDiff,reduceLT,reduceEqDiff,reduceNeg,Nat.reduceBEq]; (try clear hr))))
           all_goals first
             | (exfalso; have:=f1 hc; rw [hb] at this; cases this; done)
             | (exfalso; have hz:=f2 (by omega) hb; simp_all; done)
             | (exfalso; have hz:=f1 (by omega); rw [hb] at hz; cases hz; done)
             | exact ⟨i+1,_,by omega,by omega,rfl,HT,by simp⟩
             | exact ⟨i+1,_,by omega,by omega,rfl,by simp,HT⟩
             | exact ⟨i+1,_,by omega,by omega,rfl,HT⟩
       · have hii:¬ (i:Int) < ((l.length:Nat):Int):=by omega
         have hte:l.take i=l:=aJ (by omega)
         simp -implicitDefEqProofs (disch:=omega) only [zf hii,hte,go_sem,↓reduceIte,reduceAdd,reduceSub,reduceMul,reduceLeDiff,reduceLT,reduceEqDiff,reduceNeg,Nat.reduceBEq]
         (repeat' (first | refine gT ?_ ?_ | refine gF ?_ ?_ | refine gC ?_ ?_ | ((refine aY (ca) ?_ ?_; (focus (simp -implicitDefEqProofs (disch:=omega) only [zf hii,hte,eq_self,decide_true,zdB,go_sem,↓reduceIte,reduceAdd,reduceSub,reduceMul,reduceLeDiff,reduceLT,reduceEqDiff,reduceNeg,Nat.reduceBEq]; done))); simp -implicitDefEqProofs (disch:=omega) only [zf hii,hte,eq_self,decide_true,go_sem,↓reduceIte,reduceAdd,reduceSub,reduceMul,reduceLeDiff,reduceLT,reduceEqDiff,reduceNeg,Nat.reduceBEq]) | refine aK (by omega) ?_ | (intro hr; have hc:=hr; (try simp only [zdz] at hc); simp -implicitDefEqProofs (disch:=omega) only [hr,zf hii,hte,eq_self,decide_true,go_sem,↓reduceIte,reduceAdd,reduceSub,reduceMul,reduceLeDiff,reduceLT,reduceEqDiff,reduceNeg,Nat.reduceBEq]; (try clear hr))))
         all_goals exact aG rfl rfl
     · rw [if_neg (by rw [hc]; simp)] at d1
       simp only [aGw,avt] at d1
       simp -implicitDefEqProofs (disch:=omega) only [b1,b2,b3,b4,b5,b6,b7,q1,tl1,tl2,hps,gE,bF,bP,List.append_nil,go_sem,↓reduceIte,reduceAdd,reduceSub,reduceMul,reduceLeDiff,reduceLT,reduceEqDiff,reduceNeg,Nat.reduceBEq]
       (repeat' (first | refine gT ?_ ?_ | refine gF ?_ ?_ | refine gC ?_ ?_ | ((first | (refine aY (c1) ?_ ?_; (focus (simp -implicitDefEqProofs (disch:=omega) only [b1,b2,b3,b4,b5,b6,b7,q1,tl1,tl2,hps,gE,bF,bP,List.append_nil,zf h40i,zdB,go_sem,↓reduceIte,reduceAdd,reduceSub,reduceMul,reduceLeDiff,reduceLT,reduceEqDiff,reduceNeg,Nat.reduceBEq]; done))) | (refine aY (d1) ?_ ?_; (focus (simp -implicitDefEqProofs (disch:=omega) only [b1,b2,b3,b4,b5,b6,b7,q1,tl1,tl2,hps,gE,bF,bP,List.append_nil,zf h40i,zdB,go_sem,↓reduceIte,reduceAdd,reduceSub,reduceMul,reduceLeDiff,reduceLT,reduceEqDiff,reduceNeg,Nat.reduceBEq]; done))) | (refine aY (ca) ?_ ?_; (focus (simp -implicitDefEqProofs (disch:=omega) only [b1,b2,b3,b4,b5,b6,b7,q1,tl1,tl2,hps,gE,bF,bP,List.append_nil,zf h40i,zdB,go_sem,↓reduceIte,reduceAdd,reduceSub,reduceMul,reduceLeDiff,reduceLT,reduceEqDiff,reduceNeg,Nat.reduceBEq]; done)))); simp -implicitDefEqProofs (disch:=omega) only [b1,b2,b3,b4,b5,b6,b7,q1,tl1,tl2,hps,gE,bF,bP,List.append_nil,zf h40i,go_sem,↓reduceIte,reduceAdd,reduceSub,reduceMul,reduceLeDiff,reduceLT,reduceEqDiff,reduceNeg,Nat.reduceBEq]) | refine aK (by omega) ?_ | (intro hr; have hc:=hr; (try simp only [zdz] at hc); simp -implicitDefEqProofs (disch:=omega) only [hr,b1,b2,b3,b4,b5,b6,b7,q1,tl1,tl2,hps,gE,bF,bP,List.append_nil,zf h40i,go_sem,↓reduceIte,reduceAdd,reduceSub,reduceMul,reduceLeDiff,reduceLT,reduceEqDiff,reduceNeg,Nat.reduceBEq]; (try clear hr))))
       all_goals exact aG rfl rfl
   · rw [h1] at c1
     simp -implicitDefEqProofs (disch:=omega) only [b1,b2,b3,b4,b5,b6,b7,q1,tl1,tl2,hps,gE,bF,bP,List.append_nil,go_sem,↓reduceIte,reduceAdd,reduceSub,reduceMul,reduceLeDiff,reduceLT,reduceEqDiff,reduceNeg,Nat.reduceBEq]
     (repeat' (first | refine gT ?_ ?_ | refine gF ?_ ?_ | refine gC ?_ ?_ | ((first | (refine aY (c1) ?_ ?_; (focus (simp -implicitDefEqProofs (disch:=omega) only [b1,b2,b3,b4,b5,b6,b7,q1,tl1,tl2,hps,gE,bF,bP,List.append_nil,zdB,go_sem,↓reduceIte,reduceAdd,reduceSub,reduceMul,reduceLeDiff,reduceLT,reduceEqDiff,reduceNeg,Nat.reduceBEq]; done))) | (refine aY (ca) ?_ ?_; (focus (simp -implicitDefEqProofs (disch:=omega) only [b1,b2,b3,b4,b5,b6,b7,q1,tl1,tl2,hps,gE,bF,bP,List.append_nil,zdB,go_sem,↓reduceIte,reduceAdd,reduceSub,reduceMul,reduceLeDiff,reduceLT,reduceEqDiff,reduceNeg,Nat.reduceBEq]; done)))); simp -implicitDefEqProofs (disch:=omega) only [b1,b2,b3,b4,b5,b6,b7,q1,tl1,tl2,hps,gE,bF,bP,List.append_nil,go_sem,↓reduceIte,reduceAdd,reduceSub,reduceMul,reduceLeDiff,reduceLT,reduceEqDiff,reduceNeg,Nat.reduceBEq]) | refine aK (by omega) ?_ | (intro hr; have hc:=hr; (try simp only [zdz] at hc); simp -implicitDefEqProofs (disch:=omega) only [hr,b1,b2,b3,b4,b5,b6,b7,q1,tl1,tl2,hps,gE,bF,bP,List.append_nil,go_sem,↓reduceIte,reduceAdd,reduceSub,reduceMul,reduceLeDiff,reduceLT,reduceEqDiff,reduceNeg,Nat.reduceBEq]; (try clear hr))))
     all_goals exact aG rfl rfl
end Go.Proofs.YtifefbhllfdmlaaGreatDoor

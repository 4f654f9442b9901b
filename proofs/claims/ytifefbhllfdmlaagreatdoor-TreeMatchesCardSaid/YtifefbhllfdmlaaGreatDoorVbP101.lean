/-
  What functions of the chapter return, as plain functions of what they are given; no condition beyond those that each theorem names.
-/
import Derived.Test.YtifefbhllfdmlaaGreatDoorVaP106
set_option maxRecDepth 100000
set_option linter.unusedSimpArgs false
set_option linter.unusedVariables false
set_option maxHeartbeats 4000000
namespace Go.Proofs.YtifefbhllfdmlaaGreatDoor
open Go Go.Vo
open Nat (reduceAdd reduceSub reduceMul reduceLeDiff reduceLT reduceEqDiff)
open Int (reduceNeg)

theorem bFb {pre g:List AObj} {sz n:Nat} {out:AV} {cells:List AV} {e:Int} (ho:eP sz pre.length g out cells n) (hp:persL cells=true):Fin (pre++g) (.tup [out,.i .i64 e]) (.tup [.sl cells n,.i .i64 e]):=by
 rcases ho with ⟨rfl,rfl,rfl⟩ | ⟨i,rfl,hi,hl⟩
 · exact .inr ⟨⟨rfl,rfl,trivial⟩,by simp [bY,finIdsL],by simp [bY,finIdsL]⟩
 · have e1:nR (pre++g) (.hs (i+pre.length) 0 n false) (.sl cells n):=by
     show AV.sl cells n=gB dep (pre++g) (.hs (i+pre.length) 0 n false)
     have hg:(pre++g)[i+pre.length]? = some (.arr false sz cells):=by
       rw [aH (by omega)]; simpa using hi
     have hd:(cells.drop 0).take (n * sz)=cells:=by rw [cS,aJ (by omega)]
     simp only [gO,pers,wR,hg,hd,hp,if_true,aP,if_false]
     rw [if_pos (by omega)]
   exact .inr ⟨⟨e1,rfl,trivial⟩,by simp [bY,finIdsL],by simp [bY,finIdsL]⟩
theorem W2 {s:cI} {l:List LTerm} (h:mX s l=true):eN s=true∧l.length≤100∧∀ p ∈ l,B0 s p=true:=by
 simp only [mX,aC,decide_eq_true_eq,aR] at h
 exact h
theorem aNv (s:cI) (p t:LTerm) (hm:Small s) (hp:OkT p) (ht:OkT t) (hv:B0 s p=true):CT 59 [ava (dZ p []),.fn 60 [] [.box [dD s] 0,.box (aA t) 0]] (.b (!wW s t p)):=by
 have hh:=I2 (mQ hv)
 have hok:=aLf p hp [] (by simp only [bG]; omega) (by simp)
 have c:=bLm (dZ p []) 60 [] [.box [dD s] 0,.box (aA t) 0] (fun a => !oF s a t) (eK (zP p []) (by omega)) rfl (by simp only [persL,pers,A7,aUj,Bool.and_true]) (fun k hk=>bLl s _ t hm (hok _ (bE hk)).k ht)
 have e:((dZ p []).any fun a => !oF s a t) = !wW s t p:=List.not_all_eq_any_not.symm
 rw [e] at c
 exact c
theorem bLq (s:cI) (l:List LTerm) (t:LTerm) (hm:Small s) (hs:OkS s) (hl:l.length≤1466015503701) (ho:∀ p ∈ l,OkT p) (ht:OkT t): CT 18 [.agg (bB s),avt l,elT t] (aGw (aDd s l t)):=by
 refine cQ mixed Tryz.func18 g0 ?_
 · generalize hR:((aGw (aDd s l t)):AV)=R
   simp -implicitDefEqProofs (disch:=omega) only [Tryz.f18,go_sem,List.replicate,↓reduceIte,reduceAdd,reduceSub,reduceMul,reduceLeDiff,reduceLT,reduceEqDiff,reduceNeg,Nat.reduceBEq,avt]
   have c1:=bLn s l hm hs hl ho
   have c2:=bAe s t hm hs ht
   simp only [avt] at c1
   rcases gM (mX s l) with h1 | h1
   · rw [h1] at c1
     obtain ⟨hv,h100,hpl⟩:=W2 h1
     rcases gM (eN s && fY s t) with h2 | h2
     · rw [h2] at c2
       have c3:=aJs s hm (jP hv)
       (refine zt3 c1 c2 c3 ?_; repeat' first | exact trivial | refine zJ ?_ ?_ | refine zH fun hc=>?_)
       refine bQ (fun (q:Nat × AV × List AObj)=>[.k,.k,.k,.k,.k,.k,.k,.k,.k,.v (q.2.1),.j,.j,.k,.k,.k,.k,.k,.k,.k,.k,.k,.k,.k,.k,.k,.k,.v (.i .i64 (q.1:Nat)),.j,.j,.j,.j,.j,.j,.j,.j,.j,.j,.j,.j,.j,.j,.k]) (fun q=>(.box false (bB s)::.box false [.i .i64 (t).kind,.i .i64 (t).n,.s (t).text,.s (t).sort,.sl ((t).kids.flatMap aA) (t).kids.length,.sl ((t).rest.flatMap aA) (t).rest.length]::.box false [dD s]::q.2.2)) (fun q=>q.1≤l.length∧eP 1 3 q.2.2 q.2.1 (ints (iO s t (l.take q.1) 0)) (iO s t (l.take q.1) 0).length) (fun q=>l.length - q.1) ((0,.e0,[])) ⟨aF _,eR⟩ rfl (by simp [fD]) ?_
       rintro ⟨k,out,g⟩ j ⟨hk,hout⟩
       dsimp only at hk hout
       by_cases hlt:k < l.length
       · have hki:(k:Int) < ((l.length:Nat):Int):=by omega
         have hmm:=bE (d:=default) hlt
         have hp:=hpl _ hmm
         have hpo:=ho _ hmm
         have hh:=I2 (mQ hp)
         have c4:=aAe (l.getD k default) hpo (by omega) (eK (zP _ []) (by omega))
         have c5:=aNv s (l.getD k default) t hm hpo ht hp
         have hlen:=wC (s:=s) (t:=t) (l:=l.take k) (i:=0)
         have htk:=xD (s:=s) (t:=t) (i:=0) hlt
         rw [dM] at htk
         rw [bZ] at hlen
         generalize wW s t (l.getD k default)=ok at *
         generalize dZ (l.getD k default) []=T at *
         simp only [ava,elT,aW,avt] at c4 c5
         refine zh (zt hki) ?_
         (refine zy2 (zt hki) c4 c5 ?_; repeat' first | exact trivial | refine zJ ?_ ?_ | refine zH fun hc=>?_)
         · refine eD (pre:=[_,_,_]) (news:=[.i .i64 (k:Nat)]) (m:=1) hout rfl rfl bYg zo3 sz3 by3 rfl (by decide) (by simp -implicitDefEqProofs (disch:=omega) only [go_sem,↓reduceIte,reduceAdd,reduceSub,reduceMul,reduceLeDiff,reduceLT,reduceEqDiff,reduceNeg,Nat.reduceBEq]) (by simp -implicitDefEqProofs (disch:=omega) only [go_sem,↓reduceIte,reduceAdd,reduceSub,reduceMul,reduceLeDiff,reduceLT,reduceEqDiff,reduceNeg,Nat.reduceBEq]) ⟨by omega,by omega⟩ ?_
           intro out' g' ho' _
           refine zg ?_
           refine ⟨(k+1,out',g'),⟨by dsimp only; omega,?_⟩,by dsimp only; omega,rfl,by simp⟩
           dsimp only
           rw [htk,if_pos hc,ints,aV,List.length_append]
           exact ho'
         · refine ⟨(k+1,out,_),⟨by dsimp only; omega,?_⟩,by dsimp only; omega,rfl,by simp⟩
           dsimp only
           rw [htk,if_neg (by rw [hc]; simp),List.append_nil]
           exact hout.more _
       · have hki:¬ (k:Int) < ((l.length:Nat):Int):=by omega
         have hkt:l.take k=l:=aJ (by omega)
         rw [hkt] at hout
         refine zh (zf hki) ?_
         subst hR
         have he:aDd s l t=(iO s t l 0,0):=by rw [aDd,h1,h2,dY,if_pos rfl]
         rw [he]
         exact bFb (pre:=[_,_,_]) hout iT
     · rw [h2] at c2
       (refine zt2 c1 c2 ?_; repeat' first | exact trivial | refine zJ ?_ ?_ | refine zH fun hc=>?_)
       subst hR
       all_goals exact .inr ⟨by rw [aDd,h2,Bool.and_false,if_neg (by simp)]; exact ⟨rfl,rfl,trivial⟩,eS,fun i hi=>absurd hi (by show ¬ i ∈ []; simp)⟩
   · rw [h1] at c1
     (refine zt1 c1 ?_; repeat' first | exact trivial | refine zJ ?_ ?_ | refine zH fun hc=>?_)
     subst hR
     all_goals exact .inr ⟨by rw [aDd,h1,Bool.false_and,if_neg (by simp)]; exact ⟨rfl,rfl,trivial⟩,eS,fun i hi=>absurd hi (by show ¬ i ∈ []; simp)⟩

end Go.Proofs.YtifefbhllfdmlaaGreatDoor

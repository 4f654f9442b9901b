/-
  Functions of the chapter, as plain functions of what they are given; no condition.
-/
import Derived.Test.YtdjcggcjlphdoaaGreatDoorTeP13
import Derived.Test.YtdjcggcjlphdoaaGreatDoorTeP15
import Derived.Test.YtdjcggcjlphdoaaGreatDoorVaP12
import Derived.Test.YtdjcggcjlphdoaaGreatDoorVaP11
import Derived.Test.YtdjcggcjlphdoaaGreatDoorSoP13
set_option maxRecDepth 100000
set_option linter.unusedSimpArgs false
set_option linter.unusedVariables false
set_option maxHeartbeats 4000000
namespace Go.Proofs.YtdjcggcjlphdoaaGreatDoor
open Go Go.Vo
open Nat (reduceAdd reduceSub reduceMul reduceLeDiff reduceLT reduceEqDiff)
open Int (reduceNeg)

def aNa (s:eD) (t:LTerm):Bool:=(nI s t.text).2.2 && (decide ((nI s t.text).1.args.length=t.kids.length) && aJo t.kids.length (fun i=>aUc s (oF s (t.kids.getD i default)) ((nI s t.text).1.args.getD i [])))
mutual
def wG (s:eD):LTerm→Bool
 | .mk k n x so ks rs=>fitsPL s ks && (if k=6 then jD s so else if k=5 then aNa s (.mk k n x so ks rs) else true)
def fitsPL (s:eD):List LTerm→Bool
 | []=>true
 | k::l=>wG s k && fitsPL s l
end
theorem Z4 {s:eD}:∀ l,fitsPL s l=l.all (wG s)
 | []=>rfl
 | k::l=>by rw [fitsPL,Z4 l]; rfl
theorem aVg (s:eD) (t:LTerm):wG s t=(t.kids.all (wG s) && (if t.kind=6 then jD s t.sort else if t.kind=5 then aNa s t else true)):=by
 cases t; rw [wG,Z4]; rfl
theorem aVr (s:eD) (t:LTerm) (hs:Small s) (ht:OkT t) (ih:∀ k ∈ t.kids,CT 96 [cC s,elT k] (.b (wG s k))): CT 96 [cC s,elT t] (.b (wG s t)):=by
 refine bY cU Tryz.func96 g0 ?_
 · skip
   have e:=aVg s t
   have hk1:=ht.kids
   have c1:=aPp s t.text
   obtain ⟨⟨q,fn,ok⟩,hq⟩:∃ p,nI s t.text=p:=⟨_,rfl⟩
   simp only [aNa,hq] at e
   rw [hq] at c1
   (refine zs0 ?_; repeat' first | exact trivial | refine zJ ?_ ?_ | refine zH fun hc=>?_)
   refine lI (fun (k:Nat)=>(.k::.k::.k::.k::.j::.k::.j::(rp 8 .k (.v (.i .i64 (k:Nat))::(rp 8 .j (rp 49 .k [])))))) (fun k=>[.box false (tmC t)]) (fun k=>k≤t.kids.length∧∀ j,j < k→wG s (t.kids.getD j default)=true) (fun k=>t.kids.length - k) (0) _ ⟨bJ _,fun j h=>by omega⟩ rfl (by simp [gX]) ?_
   rintro k g j ⟨hk,ha⟩
   have o:k < t.kids.length→CT 96 [cC s,elT (t.kids.getD k default)] (.b (wG s (t.kids.getD k default))):=fun h=>ih _ (cQ h)
   refine zg ?_
   (repeat' (first | refine gT ?_ ?_ | refine gF ?_ ?_ | refine gC ?_ ?_ | ((first | (refine bU ((o (by omega))) ?_ ?_; (focus (simp -implicitDefEqProofs (disch:=omega) only [qI,cC,zdB,go_sem,simprocAttr]; done))) | (refine bU (aAc s t.sort) ?_ ?_; (focus (simp -implicitDefEqProofs (disch:=omega) only [qI,cC,zdB,go_sem,simprocAttr]; done))) | (refine bU (c1) ?_ ?_; (focus (simp -implicitDefEqProofs (disch:=omega) only [qI,cC,zdB,go_sem,simprocAttr]; done)))); simp -implicitDefEqProofs (disch:=omega) only [qI,cC,go_sem,simprocAttr]) | refine bG (by omega) ?_ | (intro hr; have hc:=hr; (try simp only [zdz] at hc); simp -implicitDefEqProofs (disch:=omega) only [hr,qI,cC,go_sem,simprocAttr]; (try clear hr))))
   all_goals first
     | exact bR (by rw [e,aAw k (by omega) hc,aP]) rfl
     | exact ⟨k+1,_,⟨by omega,eC ha hc⟩,by omega,rfl,by simp⟩
     | skip
   all_goals rw [yH (fun j hj=>ha j (by omega)),aO] at e
   all_goals first
     | (exfalso; omega)
     | exact bR (by rw [e,if_pos (by assumption)]) rfl
     | exact bR (by rw [e,if_neg (by assumption),if_neg (by assumption)]) rfl
     | exact bR (by rw [e,if_neg (by assumption),if_pos (by omega),show ok=false from hc,aP]) rfl
     | exact bR (by rw [e,if_neg (by assumption),if_pos (by omega),zf (by omega:¬ q.args.length=t.kids.length),aP,aM]) rfl
     | skip
   have hn:q.args.length=t.kids.length:=by omega
   have hok:ok=true:=by assumption
   rw [if_neg (by assumption),if_pos (by omega),zt hn,aO,hok,aO] at e
   refine lI (fun (k:Nat)=>(.k::.k::.k::.k::.j::(rp 5 .k (.j::.j::(rp 44 .k (.v (.i .i64 (k:Nat))::(rp 16 .j []))))))) (fun k=>(.box false (tmC t)::(g++[.box false (eR q)]))) (fun k=>k≤t.kids.length∧∀ j,j < k→aUc s (oF s (t.kids.getD j default)) (q.args.getD j [])=true) (fun k=>t.kids.length - k) (0) [] ⟨bJ _,fun j h=>by omega⟩ (by simp [avs,avb,avi,avo,eR,dD]) (by simp [gX]) ?_
   rintro kk g2 j2 ⟨hkk,ha2⟩
   refine zg ?_
   (refine zt2 (aAf s (t.kids.getD kk default)) (bQe s (oF s (t.kids.getD kk default)) (q.args.getD kk []) hs) ?_; repeat' first | exact trivial | refine zJ ?_ ?_ | refine zH fun hc=>?_)
   all_goals first
     | exact bR (by rw [e,sE kk (by omega) hc]) rfl
     | exact ⟨kk+1,_,⟨by omega,eC ha2 hc⟩,by omega,rfl,by simp⟩
     | exact bR (by rw [e,D6 (fun j hj=>ha2 j (by omega))]) rfl
     | (exfalso; omega)
theorem aZk (s:eD) (hs:Small s):∀ (t:LTerm),OkT t→CT 96 [cC s,elT t] (.b (wG s t)):=
 iR fun t hk _ ht=>aVr s t hs ht (fun k hm=>hk k hm (ht.kid k hm))
def aOm (s:eD) (t:LTerm):Bool:=kV eG t && (kH s && wG s t)
theorem bKh (s:eD) (t:LTerm) (hm:Small s) (hs:OkS s) (ht:OkT t): CT 57 [.agg (dD s),elT t] (.b (aOm s t)):=by
 refine bY cU Tryz.func57 g0 ?_
 · skip
   have c1:=aFz t ht
   have c2:=aIx s hm hs
   rw [aOm]
   rcases mG (kV eG t) with h1 | h1
   · rcases mG (kH s) with h2 | h2
     · rw [h1] at c1; rw [h2] at c2
       (refine zt4 c1 c2 (aAd s hm (iK h2)) (aZk s hm t ht) ?_; repeat' first | exact trivial | refine zJ ?_ ?_ | refine zH fun hc=>?_)
       all_goals exact bR (by rw [h1,h2]; rfl) rfl
     · rw [h1] at c1; rw [h2] at c2
       (refine zt2 c1 c2 ?_; repeat' first | exact trivial | refine zJ ?_ ?_ | refine zH fun hc=>?_)
       all_goals exact bR (by rw [h1,h2]; rfl) rfl
   · rw [h1] at c1
     (refine zt1 c1 ?_; repeat' first | exact trivial | refine zJ ?_ ?_ | refine zH fun hc=>?_)
     all_goals exact bR (by rw [h1]; rfl) rfl
theorem bKg (s:eD) (t:LTerm) (hm:Small s) (hs:OkS s) (ht:OkT t): CT 67 [.agg (dD s),elT t] (.b (kH s && jH s t)):=by
 refine bY cU Tryz.func67 g0 ?_
 · skip
   have c2:=aIx s hm hs
   rcases mG (kH s) with h2 | h2
   · rw [h2] at c2
     (refine zt3 c2 (aAd s hm (iK h2)) (aPr s t hm ht) ?_; repeat' first | exact trivial | refine zJ ?_ ?_ | refine zH fun hc=>?_)
     all_goals exact bR (by rw [h2]; rfl) rfl
   · rw [h2] at c2
     (refine zt1 c2 ?_; repeat' first | exact trivial | refine zJ ?_ ?_ | refine zH fun hc=>?_)
     all_goals exact bR (by rw [h2]; rfl) rfl

def PtR (x y:AObj) (b:Bool) (h:List AObj):Prop:=∃ g,h=x::y::.box false [.b b]::g
theorem bNt (x y:AObj):bFk 100 [.ptr 2 0] 3 (PtR x y) aTl bNl:=by
 refine ⟨?_,?_,?_⟩
 · rintro b h z ⟨g,rfl⟩; exact ⟨g++z,rfl⟩
 · rintro b h ⟨g,rfl⟩; simp
 · rintro b ⟨t,d⟩ l h hP ho ⟨g,rfl⟩
   have hb:=hP (t,d) (by simp)
   refine ⟨hb,fun v hv=>hP v (by simp [hv]),?_⟩
   refine (bUw t d b x y g ho (by have:=hb.2.2; dsimp only at this; omega)).mono ?_
   rintro r h' ⟨rfl,z,rfl⟩
   exact ⟨rfl,⟨g++z,rfl⟩,Y8⟩
def aYa (s:eD) (t:LTerm):Bool:=kV eG t && (wG s t && (!xY (aIp s) false (vis t 1) && xY aTl (decide ((vU t).2=[])) (vis t 1)))
theorem aZj (s:eD) (t:LTerm) (hs:Small s) (ht:OkT t): CT 46 [cC s,elT t] (.b (aYa s t)):=by
 refine bY cU Tryz.func46 g0 ?_
 · skip
   have c1:=aFz t ht
   have c2:=aZk s hs t ht
   rcases mG (kV eG t) with hv | hv
   · have c3:=bKe s t ht hv
     have c4:=bKd t ht hv
     rw [hv] at c1
     rw [aYa,hv,aO]
     rcases mG (wG s t) with hf | hf
     · rw [hf] at c2
       rw [hf,aO]
       rcases mG (xY (aIp s) false (vis t 1)) with hn | hn
       · rw [hn] at c3
         (refine zt3 c1 c2 c3 ?_; repeat' first | exact trivial | refine zJ ?_ ?_ | refine zH fun hc=>?_)
         all_goals exact bR (by rw [hn]; rfl) rfl
       · rw [hn] at c3
         rw [hn,aD,aO]
         generalize vU t=sv at *
         refine zh @nW ?_
         (repeat' (first | refine gT ?_ ?_ | refine gF ?_ ?_ | refine gC ?_ ?_ | ((first | (refine bU (c1) ?_ ?_; (focus (simp -implicitDefEqProofs (disch:=omega) only [nW,aUe,zdB,go_sem,↓reduceIte,reduceAdd,reduceSub,reduceMul,reduceLeDiff,reduceLT,reduceEqDiff,reduceNeg,Nat.reduceBEq]; done))) | (refine bU (c2) ?_ ?_; (focus (simp -implicitDefEqProofs (disch:=omega) only [nW,aUe,zdB,go_sem,↓reduceIte,reduceAdd,reduceSub,reduceMul,reduceLeDiff,reduceLT,reduceEqDiff,reduceNeg,Nat.reduceBEq]; done))) | (refine bU (c3) ?_ ?_; (focus (simp -implicitDefEqProofs (disch:=omega) only [nW,aUe,zdB,go_sem,↓reduceIte,reduceAdd,reduceSub,reduceMul,reduceLeDiff,reduceLT,reduceEqDiff,reduceNeg,Nat.reduceBEq]; done))) | (refine bU (c4) ?_ ?_; (focus (simp -implicitDefEqProofs (disch:=omega) only [nW,aUe,zdB,go_sem,↓reduceIte,reduceAdd,reduceSub,reduceMul,reduceLeDiff,reduceLT,reduceEqDiff,reduceNeg,Nat.reduceBEq]; done)))); simp -implicitDefEqProofs (disch:=omega) only [nW,aUe,go_sem,↓reduceIte,reduceAdd,reduceSub,reduceMul,reduceLeDiff,reduceLT,reduceEqDiff,reduceNeg,Nat.reduceBEq]) | refine bG (by omega) ?_ | (intro hr; have hc:=hr; (try simp only [zdz] at hc); simp -implicitDefEqProofs (disch:=omega) only [hr,nW,aUe,go_sem,↓reduceIte,reduceAdd,reduceSub,reduceMul,reduceLeDiff,reduceLT,reduceEqDiff,reduceNeg,Nat.reduceBEq]; (try clear hr))))
         have cw:=fun (b:Bool)=>bAh (bNt (.box false (tmC t)) (.arr true 6 (tmC t))) (fun a=>⟨_,[],rfl⟩) t ht 1 b [] _ ⟨[],rfl⟩ (aKi (a:=false) hv)
         simp only [elT,aS,avt] at cw
         refine lA (cw _) ?_
         rintro r h' ⟨rfl,⟨g,rfl⟩,_⟩
         refine zg ?_
         exact bR rfl rfl
     · rw [hf] at c2
       (refine zt2 c1 c2 ?_; repeat' first | exact trivial | refine zJ ?_ ?_ | refine zH fun hc=>?_)
       all_goals exact bR (by rw [hf]; rfl) rfl
   · rw [hv] at c1
     (refine zt1 c1 ?_; repeat' first | exact trivial | refine zJ ?_ ?_ | refine zH fun hc=>?_)
     all_goals exact bR (by rw [aYa,hv]; rfl) rfl





def aBy (s:eD) (t:LTerm):Bool:=kH s && aYa s t
theorem aAe (s:eD) (t:LTerm) (hm:Small s) (hs:OkS s) (ht:OkT t): CT 20 [.agg (dD s),elT t] (.b (aBy s t)):=by
 refine gH (rx:=true) (th:=fun _=>none) cU Tryz.func20 g0 ?_
 · simp -implicitDefEqProofs (disch:=omega) only [Tryz.f20,go_sem,List.replicate,simprocAttr]
   have c2:=aIx s hm hs
   have c3:=aZj s t hm ht
   rw [aBy]
   rcases mG (kH s) with h2 | h2
   · rw [h2] at c2
     (refine zt3 c2 (aAd s hm (iK h2)) c3 ?_; repeat' first | exact trivial | refine zJ ?_ ?_ | refine zH fun hc=>?_)
     all_goals exact bR (by rw [h2]; rfl) rfl
   · rw [h2] at c2
     (refine zt1 c2 ?_; repeat' first | exact trivial | refine zJ ?_ ?_ | refine zH fun hc=>?_)
     all_goals exact bR (by rw [h2]; rfl) rfl

theorem vZ {s:eD} {t:LTerm} (h:aBy s t=true):kV eG t=true:=by
 rw [aBy,aYa,aE,aE] at h; exact h.2.1
end Go.Proofs.YtdjcggcjlphdoaaGreatDoor

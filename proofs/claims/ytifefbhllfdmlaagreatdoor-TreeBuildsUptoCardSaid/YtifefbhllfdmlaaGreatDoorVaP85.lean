/-
  What functions of the chapter return, as plain functions of what they are given; no condition beyond those that each theorem names.
-/
import Derived.Test.YtifefbhllfdmlaaGreatDoorTeP83
import Derived.Test.YtifefbhllfdmlaaGreatDoorTeP86
import Derived.Test.YtifefbhllfdmlaaGreatDoorVaP84
import Derived.Test.YtifefbhllfdmlaaGreatDoorVaP83
import Derived.Test.YtifefbhllfdmlaaGreatDoorSoP83
set_option maxRecDepth 100000
set_option linter.unusedSimpArgs false
set_option linter.unusedVariables false
set_option maxHeartbeats 4000000
namespace Go.Proofs.YtifefbhllfdmlaaGreatDoor
open Go Go.Vo
open Nat (reduceAdd reduceSub reduceMul reduceLeDiff reduceLT reduceEqDiff)
open Int (reduceNeg)

def aHf (s:bZ) (t:LTerm):Bool:=(called s t.text).2.2 && (decide ((called s t.text).1.args.length=t.kids.length) && L0 t.kids.length (fun i=>aLq s (kZ s (t.kids.getD i default)) ((called s t.text).1.args.getD i [])))
mutual
def mQ (s:bZ):LTerm→Bool
 | .mk k n x so ks rs=>fitsPL s ks && (if k=6 then existsA s so else if k=5 then aHf s (.mk k n x so ks rs) else true)
def fitsPL (s:bZ):List LTerm→Bool
 | []=>true
 | k::l=>mQ s k && fitsPL s l
end
theorem aBs {s:bZ}:∀ l,fitsPL s l=l.all (mQ s)
 | []=>rfl
 | k::l=>by rw [fitsPL,aBs l]; rfl
theorem S7 (s:bZ) (t:LTerm):mQ s t=(t.kids.all (mQ s) && (if t.kind=6 then existsA s t.sort else if t.kind=5 then aHf s t else true)):=by
 cases t; rw [mQ,aBs]; rfl
theorem aZs (s:bZ) (t:LTerm) (hs:Small s) (ht:OkT t) (ih:∀ k ∈ t.kids,CT 125 [cX s,elT k] (.b (mQ s k))): CT 125 [cX s,elT t] (.b (mQ s t)):=by
 refine aL mixed Tryz.func125 g0 ?_
 · skip
   have e:=S7 s t
   have hk1:=ht.kids
   have c1:=aSy s t.text
   obtain ⟨⟨q,fn,ok⟩,hq⟩:∃ p,called s t.text=p:=⟨_,rfl⟩
   simp only [aHf,hq] at e
   rw [hq] at c1
   (refine zs0 ?_; repeat' first | exact trivial | refine zJ ?_ ?_ | refine zH fun hc=>?_)
   refine eE (fun (k:Nat)=>[.k,.k,.k,.k,.j,.k,.j,.k,.k,.k,.k,.k,.k,.k,.k,.v (.i .i64 (k:Nat)),.j,.j,.j,.j,.j,.j,.j,.j,.k,.k,.k,.k,.k,.k,.k,.k,.k,.k,.k,.k,.k,.k,.k,.k,.k,.k,.k,.k,.k,.k,.k,.k,.k,.k,.k,.k,.k,.k,.k,.k,.k,.k,.k,.k,.k,.k,.k,.k,.k,.k,.k,.k,.k,.k,.k,.k,.k]) (fun k=>[.box false [.i .i64 (t).kind,.i .i64 (t).n,.s (t).text,.s (t).sort,.sl ((t).kids.flatMap aC) (t).kids.length,.sl ((t).rest.flatMap aC) (t).rest.length]]) (fun k=>k≤t.kids.length∧∀ j,j < k→mQ s (t.kids.getD j default)=true) (fun k=>t.kids.length - k) (0) _ ⟨aG _,fun j h=>by omega⟩ rfl (by simp [eN]) ?_
   rintro k g j ⟨hk,ha⟩
   have o:k < t.kids.length→CT 125 [cX s,elT (t.kids.getD k default)] (.b (mQ s (t.kids.getD k default))):=fun h=>ih _ (aU h)
   refine zg ?_
   (repeat' (first | refine gT ?_ ?_ | refine gF ?_ ?_ | refine gC ?_ ?_ | ((first | (refine bF ((o (by omega))) ?_ ?_; (focus (simp -implicitDefEqProofs (disch:=omega) only [rJ,cX,zdB,go_sem,simprocAttr]; done))) | (refine bF (T5 s t.sort) ?_ ?_; (focus (simp -implicitDefEqProofs (disch:=omega) only [rJ,cX,zdB,go_sem,simprocAttr]; done))) | (refine bF (c1) ?_ ?_; (focus (simp -implicitDefEqProofs (disch:=omega) only [rJ,cX,zdB,go_sem,simprocAttr]; done)))); simp -implicitDefEqProofs (disch:=omega) only [rJ,cX,go_sem,simprocAttr]) | refine bB (by omega) ?_ | (intro hr; have hc:=hr; (try simp only [zdz] at hc); simp -implicitDefEqProofs (disch:=omega) only [hr,rJ,cX,go_sem,simprocAttr]; (try clear hr))))
   all_goals first
     | exact aF (by rw [e,wY k (by omega) hc,Bool.false_and]) rfl
     | exact ⟨k+1,_,⟨by omega,bD ha hc⟩,by omega,rfl,by simp⟩
     | skip
   all_goals rw [mU (fun j hj=>ha j (by omega)),Bool.true_and] at e
   all_goals first
     | (exfalso; omega)
     | exact aF (by rw [e,if_pos (by assumption)]) rfl
     | exact aF (by rw [e,if_neg (by assumption),if_neg (by assumption)]) rfl
     | exact aF (by rw [e,if_neg (by assumption),if_pos (by omega),show ok=false from hc,Bool.false_and]) rfl
     | exact aF (by rw [e,if_neg (by assumption),if_pos (by omega),zf (by omega:¬ q.args.length=t.kids.length),Bool.false_and,Bool.and_false]) rfl
     | skip
   have hn:q.args.length=t.kids.length:=by omega
   have hok:ok=true:=by assumption
   rw [if_neg (by assumption),if_pos (by omega),zt hn,Bool.true_and,hok,Bool.true_and] at e
   refine eE (fun (k:Nat)=>[.k,.k,.k,.k,.j,.k,.k,.k,.k,.k,.j,.j,.k,.k,.k,.k,.k,.k,.k,.k,.k,.k,.k,.k,.k,.k,.k,.k,.k,.k,.k,.k,.k,.k,.k,.k,.k,.k,.k,.k,.k,.k,.k,.k,.k,.k,.k,.k,.k,.k,.k,.k,.k,.k,.k,.k,.v (.i .i64 (k:Nat)),.j,.j,.j,.j,.j,.j,.j,.j,.j,.j,.j,.j,.j,.j,.j,.j]) (fun k=>(.box false [.i .i64 (t).kind,.i .i64 (t).n,.s (t).text,.s (t).sort,.sl ((t).kids.flatMap aC) (t).kids.length,.sl ((t).rest.flatMap aC) (t).rest.length]::(g++[.box false (bK q)]))) (fun k=>k≤t.kids.length∧∀ j,j < k→aLq s (kZ s (t.kids.getD j default)) (q.args.getD j [])=true) (fun k=>t.kids.length - k) (0) [] ⟨aG _,fun j h=>by omega⟩ (by simp [avs,avb,avi,avo,bK,aO]) (by simp [eN]) ?_
   rintro kk g2 j2 ⟨hkk,ha2⟩
   refine zg ?_
   (refine zt2 (aTa s (t.kids.getD kk default)) (bWc s (kZ s (t.kids.getD kk default)) (q.args.getD kk []) hs) ?_; repeat' first | exact trivial | refine zJ ?_ ?_ | refine zH fun hc=>?_)
   all_goals first
     | exact aF (by rw [e,gY kk (by omega) hc]) rfl
     | exact ⟨kk+1,_,⟨by omega,bD ha2 hc⟩,by omega,rfl,by simp⟩
     | exact aF (by rw [e,kU (fun j hj=>ha2 j (by omega))]) rfl
     | (exfalso; omega)
theorem bPt (s:bZ) (hs:Small s):∀ (t:LTerm),OkT t→CT 125 [cX s,elT t] (.b (mQ s t)):=
 dO fun t hk _ ht=>aZs s t hs ht (fun k hm=>hk k hm (ht.kid k hm))
theorem aSt (s:bZ) (t:LTerm) (hm:Small s) (hs:OkS s) (ht:OkT t): CT 58 [.agg (aO s),elT t] (.b (dM s && lH s t)):=by
 refine aL mixed Tryz.func58 g0 ?_
 · skip
   have c2:=aMg s hm hs
   rcases eM (dM s) with h2 | h2
   · rw [h2] at c2
     (refine zt3 c2 (aBz s hm (iE h2)) (aTc s t hm ht) ?_; repeat' first | exact trivial | refine zJ ?_ ?_ | refine zH fun hc=>?_)
     all_goals exact aF (by rw [h2]; rfl) rfl
   · rw [h2] at c2
     (refine zt1 c2 ?_; repeat' first | exact trivial | refine zJ ?_ ?_ | refine zH fun hc=>?_)
     all_goals exact aF (by rw [h2]; rfl) rfl

def PtR (x y:AObj) (b:Bool) (h:List AObj):Prop:=∃ g,h=x::y::.box false [.b b]::g
theorem bTr (x y:AObj):bKf 129 [.ptr 2 0] 3 (PtR x y) aXc bTj:=by
 refine ⟨?_,?_,?_⟩
 · rintro b h z ⟨g,rfl⟩; exact ⟨g++z,rfl⟩
 · rintro b h ⟨g,rfl⟩; simp
 · rintro b ⟨t,d⟩ l h hP ho ⟨g,rfl⟩
   have hb:=hP (t,d) (by simp)
   refine ⟨hb,fun v hv=>hP v (by simp [hv]),?_⟩
   refine (cAl t d b x y g ho (by have:=hb.2.2; dsimp only at this; omega)).mono ?_
   rintro r h' ⟨rfl,z,rfl⟩
   exact ⟨rfl,⟨g++z,rfl⟩,aBg⟩
def bCg (s:bZ) (t:LTerm):Bool:=fO nodeB t && (mQ s t && (!yG (aLx s) false (vis t 1) && yG aXc (decide ((rQ t).2=[])) (vis t 1)))
theorem bOr (s:bZ) (t:LTerm) (hs:Small s) (ht:OkT t): CT 76 [cX s,elT t] (.b (bCg s t)):=by
 refine aL mixed Tryz.func76 g0 ?_
 · skip
   have c1:=aTb t ht
   have c2:=bPt s hs t ht
   rcases eM (fO nodeB t) with hv | hv
   · have c3:=bOe s t ht hv
     have c4:=bOd t ht hv
     rw [hv] at c1
     rw [bCg,hv,Bool.true_and]
     rcases eM (mQ s t) with hf | hf
     · rw [hf] at c2
       rw [hf,Bool.true_and]
       rcases eM (yG (aLx s) false (vis t 1)) with hn | hn
       · rw [hn] at c3
         (refine zt3 c1 c2 c3 ?_; repeat' first | exact trivial | refine zJ ?_ ?_ | refine zH fun hc=>?_)
         all_goals exact aF (by rw [hn]; rfl) rfl
       · rw [hn] at c3
         rw [hn,Bool.not_false,Bool.true_and]
         generalize rQ t=sv at *
         refine zh @fU ?_
         (repeat' (first | refine gT ?_ ?_ | refine gF ?_ ?_ | refine gC ?_ ?_ | ((first | (refine bF (c1) ?_ ?_; (focus (simp -implicitDefEqProofs (disch:=omega) only [fU,aXs,zdB,go_sem,↓reduceIte,reduceAdd,reduceSub,reduceMul,reduceLeDiff,reduceLT,reduceEqDiff,reduceNeg,Nat.reduceBEq]; done))) | (refine bF (c2) ?_ ?_; (focus (simp -implicitDefEqProofs (disch:=omega) only [fU,aXs,zdB,go_sem,↓reduceIte,reduceAdd,reduceSub,reduceMul,reduceLeDiff,reduceLT,reduceEqDiff,reduceNeg,Nat.reduceBEq]; done))) | (refine bF (c3) ?_ ?_; (focus (simp -implicitDefEqProofs (disch:=omega) only [fU,aXs,zdB,go_sem,↓reduceIte,reduceAdd,reduceSub,reduceMul,reduceLeDiff,reduceLT,reduceEqDiff,reduceNeg,Nat.reduceBEq]; done))) | (refine bF (c4) ?_ ?_; (focus (simp -implicitDefEqProofs (disch:=omega) only [fU,aXs,zdB,go_sem,↓reduceIte,reduceAdd,reduceSub,reduceMul,reduceLeDiff,reduceLT,reduceEqDiff,reduceNeg,Nat.reduceBEq]; done)))); simp -implicitDefEqProofs (disch:=omega) only [fU,aXs,go_sem,↓reduceIte,reduceAdd,reduceSub,reduceMul,reduceLeDiff,reduceLT,reduceEqDiff,reduceNeg,Nat.reduceBEq]) | refine bB (by omega) ?_ | (intro hr; have hc:=hr; (try simp only [zdz] at hc); simp -implicitDefEqProofs (disch:=omega) only [hr,fU,aXs,go_sem,↓reduceIte,reduceAdd,reduceSub,reduceMul,reduceLeDiff,reduceLT,reduceEqDiff,reduceNeg,Nat.reduceBEq]; (try clear hr))))
         have cw:=fun (b:Bool)=>bEx (bTr (.box false [.i .i64 (t).kind,.i .i64 (t).n,.s (t).text,.s (t).sort,.sl ((t).kids.flatMap aC) (t).kids.length,.sl ((t).rest.flatMap aC) (t).rest.length]) (.arr true 6 [.i .i64 (t).kind,.i .i64 (t).n,.s (t).text,.s (t).sort,.sl ((t).kids.flatMap aC) (t).kids.length,.sl ((t).rest.flatMap aC) (t).rest.length])) (fun a=>⟨_,[],rfl⟩) t ht 1 b [] _ ⟨[],rfl⟩ (aNr (a:=false) hv)
         simp only [elT,bC,avt] at cw
         refine fI (cw _) ?_
         rintro r h' ⟨rfl,⟨g,rfl⟩,_⟩
         refine zg ?_
         exact aF rfl rfl
     · rw [hf] at c2
       (refine zt2 c1 c2 ?_; repeat' first | exact trivial | refine zJ ?_ ?_ | refine zH fun hc=>?_)
       all_goals exact aF (by rw [hf]; rfl) rfl
   · rw [hv] at c1
     (refine zt1 c1 ?_; repeat' first | exact trivial | refine zJ ?_ ?_ | refine zH fun hc=>?_)
     all_goals exact aF (by rw [bCg,hv]; rfl) rfl

theorem bEl {l:List LTerm} {f:LTerm→Bool} {k:Nat} (hk:k < l.length) (h:f (l.getD k default)=true):l.any f=true:=lG.2 ⟨_,aU hk,h⟩
theorem bEk {l:List LTerm} {f:LTerm→Bool} (h:∀ j,j < l.length→f (l.getD j default)=false):l.any f=false:=by
 rw [eW]
 intro x hx
 obtain ⟨j,hj,rfl⟩:=bU.1 hx
 have:=h j hj
 simpa [List.getD,hj] using this
theorem lP {f:Nat→Bool} {k:Nat} (h:∀ j,j < k→f j=false) (hk:f k=false):∀ j,j < k+1→f j=false:=fun j hj=>by
 rcases L3.1 hj with h1 | rfl
 · exact h j h1
 · exact hk
theorem aZl (s:bZ) (t:LTerm) (hm:Small s) (ht:OkT t) (ih:∀ k ∈ t.kids,CT 133 [.agg (aO s),elT k] (.b (pI s k))): CT 133 [.agg (aO s),elT t] (.b (pI s t)):=by
 refine aL mixed Tryz.func133 g0 ?_
 · skip
   have e:=aHz s t
   have hk1:=ht.kids
   have c1:=aJe s.ops t.text (by have:=hm.ops; omega)
   have o:∀ k,k < t.kids.length→CT 133 [.agg (aO s),elT (t.kids.getD k default)] (.b (pI s (t.kids.getD k default))):=fun k h=>ih _ (aU h)
   by_cases h5:t.kind=5
   · cases hf:s.ops.find? fun o=>decide (o.name=t.text) with
     | none=>
       rw [hf] at c1 e
       refine zh (zt h5) ?_
       (repeat' (first | refine gT ?_ ?_ | refine gF ?_ ?_ | refine gC ?_ ?_ | ((refine bF (c1) ?_ ?_; (focus (simp -implicitDefEqProofs (disch:=omega) only [zt h5,gV,zdB,go_sem,simprocAttr]; done))); simp -implicitDefEqProofs (disch:=omega) only [zt h5,gV,go_sem,simprocAttr]) | refine bB (by omega) ?_ | (intro hr; have hc:=hr; (try simp only [zdz] at hc); simp -implicitDefEqProofs (disch:=omega) only [hr,zt h5,gV,go_sem,simprocAttr]; (try clear hr))))
       all_goals exact aF (by rw [e,zt h5]; rfl) rfl
     | some q=>
       rw [hf] at c1 e
       rw [fX,Bool.and_false,cT] at e
       refine zh (zt h5) ?_
       (repeat' (first | refine gT ?_ ?_ | refine gF ?_ ?_ | refine gC ?_ ?_ | ((refine bF (c1) ?_ ?_; (focus (simp -implicitDefEqProofs (disch:=omega) only [zt h5,gV,zdB,go_sem,simprocAttr]; done))); simp -implicitDefEqProofs (disch:=omega) only [zt h5,gV,go_sem,simprocAttr]) | refine bB (by omega) ?_ | (intro hr; have hc:=hr; (try simp only [zdz] at hc); simp -implicitDefEqProofs (disch:=omega) only [hr,zt h5,gV,go_sem,simprocAttr]; (try clear hr))))
       refine eE (fun (k:Nat)=>[.k,.k,.k,.k,.j,.k,.k,.k,.j,.k,.k,.k,.k,.k,.k,.k,.k,.k,.k,.k,.k,.k,.k,.k,.k,.v (.i .i64 (k:Nat)),.j,.j,.j,.j,.j,.j,.j]) (fun k=>[.box false (aO s),.box false [.i .i64 (t).kind,.i .i64 (t).n,.s (t).text,.s (t).sort,.sl ((t).kids.flatMap aC) (t).kids.length,.sl ((t).rest.flatMap aC) (t).rest.length]]) (fun k=>k≤t.kids.length∧∀ j,j < k→pI s (t.kids.getD j default)=false) (fun k=>t.kids.length - k) (0) _ ⟨aG _,fun j h=>by omega⟩ rfl (by simp [eN]) ?_
       rintro k g j ⟨hk,ha⟩
       refine zg ?_
       (refine zt1 (o k) ?_; repeat' first | exact trivial | refine zJ ?_ ?_ | refine zH fun hc=>?_)
       all_goals first
         | exact aF (by rw [e,bEl (by omega) hc]) rfl
         | exact ⟨k+1,_,⟨by omega,lP ha hc⟩,by omega,rfl,by simp⟩
         | exact aF (by rw [e,bEk (fun j hj=>ha j (by omega))]) rfl
         | (exfalso; omega)
   · rw [zf h5,Bool.false_and,cT] at e
     refine zh (zf h5) ?_
     (refine zx0 (zf h5) ?_; repeat' first | exact trivial | refine zJ ?_ ?_ | refine zH fun hc=>?_)
     refine eE (fun (k:Nat)=>[.k,.k,.k,.k,.j,.k,.k,.k,.j,.k,.k,.k,.k,.k,.k,.k,.k,.k,.k,.k,.k,.k,.k,.k,.k,.v (.i .i64 (k:Nat)),.j,.j,.j,.j,.j,.j,.j]) (fun k=>[.box false (aO s),.box false [.i .i64 (t).kind,.i .i64 (t).n,.s (t).text,.s (t).sort,.sl ((t).kids.flatMap aC) (t).kids.length,.sl ((t).rest.flatMap aC) (t).rest.length]]) (fun k=>k≤t.kids.length∧∀ j,j < k→pI s (t.kids.getD j default)=false) (fun k=>t.kids.length - k) (0) _ ⟨aG _,fun j h=>by omega⟩ rfl (by simp [eN]) ?_
     rintro k g j ⟨hk,ha⟩
     refine zg ?_
     (refine zt1 (o k) ?_; repeat' first | exact trivial | refine zJ ?_ ?_ | refine zH fun hc=>?_)
     all_goals first
       | exact aF (by rw [e,bEl (by omega) hc]) rfl
       | exact ⟨k+1,_,⟨by omega,lP ha hc⟩,by omega,rfl,by simp⟩
       | exact aF (by rw [e,bEk (fun j hj=>ha j (by omega))]) rfl
       | (exfalso; omega)
theorem bDg (s:bZ) (hm:Small s):∀ (t:LTerm),OkT t→CT 133 [.agg (aO s),elT t] (.b (pI s t)):=
 dO fun t hk _ ht=>aZl s t hm ht (fun k hmm=>hk k hmm (ht.kid k hmm))
theorem aZk (t:LTerm) (ht:OkT t) (ih:∀ k ∈ t.kids,CT 134 [elT k] (.b (pG k))): CT 134 [elT t] (.b (pG t)):=by
 refine aL mixed Tryz.func134 g0 ?_
 · skip
   have e:=aHw t
   obtain ⟨b8,hb8⟩:∃ b,decide (t.kind=8)=b:=⟨_,rfl⟩
   rw [hb8] at e
   have hk1:=ht.kids
   have o:∀ k,k < t.kids.length→CT 134 [elT (t.kids.getD k default)] (.b (pG (t.kids.getD k default))):=fun k h=>ih _ (aU h)
   have q:∀ k,k < t.kids.length→OkT (t.kids.getD k default):=fun k h=>ht.kid _ (aU h)
   (refine zs0 ?_; repeat' first | exact trivial | refine zJ ?_ ?_ | refine zH fun hc=>?_)
   refine eE (fun (k:Nat)=>[.k,.k,.j,.j,.j,.k,.k,.k,.v (.i .i64 (k:Nat)),.j,.j,.j,.j,.j,.j,.j,.j,.j,.j,.j,.j,.j,.j,.j,.j,.j,.j,.j,.j,.j,.j,.j,.j,.j,.j,.j,.j,.j,.j,.j,.j]) (fun k=>[.box false [.i .i64 (t).kind,.i .i64 (t).n,.s (t).text,.s (t).sort,.sl ((t).kids.flatMap aC) (t).kids.length,.sl ((t).rest.flatMap aC) (t).rest.length]]) (fun k=>k≤t.kids.length∧∀ j,j < k→(pG (t.kids.getD j default) && bCu b8 j (t.kids.getD j default))=true) (fun k=>t.kids.length - k) (0) _ ⟨aG _,fun j h=>by omega⟩ rfl (by simp [eN]) ?_
   rintro k g j ⟨hk,ha⟩
   have hmod:((k:Nat):Int).tmod 2=((k % 2:Nat):Int):=rfl
   refine zh hmod ?_
   (repeat' (first | refine gT ?_ ?_ | refine gF ?_ ?_ | refine gC ?_ ?_ | ((first | (refine bF ((o k (by omega))) ?_ ?_; (focus (simp -implicitDefEqProofs (disch:=omega) only [hmod,Int.reduceEq,zdB,go_sem,simprocAttr]; done))) | refine cF (bEa (t.kids.getD k default)) ?_ | refine cF (T7 (t.kids.getD k default).text (q k (by omega)).text) ?_); simp -implicitDefEqProofs (disch:=omega) only [hmod,Int.reduceEq,go_sem,simprocAttr]) | refine bB (by omega) ?_ | (intro hr; have hc:=hr; (try simp only [zdz] at hc); simp -implicitDefEqProofs (disch:=omega) only [hr,hmod,Int.reduceEq,go_sem,simprocAttr]; (try clear hr))))
   all_goals try simp only [Int.natCast_eq_zero] at *
   all_goals first
     | exact aF (by rw [e,gY k (by omega) (by simp_all [bCu])]) rfl
     | exact ⟨k+1,_,⟨by omega,bD ha (by simp_all [bCu])⟩,by omega,rfl,by simp⟩
     | exact aF (by rw [e,kU (fun j hj=>ha j (by omega))]) rfl
theorem bDf:∀ (t:LTerm),OkT t→CT 134 [elT t] (.b (pG t)):=
 dO fun t hk _ ht=>aZk t ht (fun k hmm=>hk k hmm (ht.kid k hmm))

theorem B5:∀ (t:LTerm) (d e:Int),(vis t d).map (·.1)=(vis t e).map (·.1):=
 dO (Q:=fun t=>∀ d e:Int,(vis t d).map (·.1)=(vis t e).map (·.1)) fun t hk hr d e=>by
   have L:∀ (l:List LTerm) (d e:Int),(∀ k ∈ l,∀ d e:Int,(vis k d).map (·.1)=(vis k e).map (·.1))→(visL l d).map (·.1)=(visL l e).map (·.1):=by
     intro l
     induction l with
     | nil=>intro d e _; rfl
     | cons x l ih=>intro d e h; rw [visL,visL,aV,aV,h x (by simp) d e,ih d e (fun k hk=>h k (by simp [hk]))]
   rw [mZ,mZ,aT,aT,L (t.kids++t.rest) (d+1) (e+1) fun k hm=>by
     rcases bA.1 hm with hm | hm
     · exact hk k hm
     · exact hr k hm]
def tW (l:List LTerm) (t:LTerm):List LTerm:=(J5 t).foldl A3 l
theorem aUx (l:List LTerm) (t:LTerm):tW l t=t.rest.foldl tW (t.kids.foldl tW (if isV t=true then A3 l t else l)):=by
 have L:∀ (ks:List LTerm) (d:Int) (l:List LTerm),(((visL ks d).map (·.1)).filter isV).foldl A3 l=ks.foldl tW l:=by
   intro ks
   induction ks with
   | nil=>intro d l; rfl
   | cons x ks ih=>
     intro d l
     rw [visL,aV,qX,mW,ih,iW,tW,J5,B5 x d 1]
 rw [tW,J5,mZ,kF,aT,aV,cV]
 split
 · rw [iW,qX,mW,L,L]
 · rw [qX,mW,L,L]
def nL (t:LTerm):Prop:=∀ v ∈ vis t 1,(v.1.kind=6→v.1.kids=[]∧v.1.rest=[])∧v.1.kids.length+v.1.rest.length≤1000000
theorem nL.at {t:LTerm} (h:nL t):(t.kind=6→t.kids=[]∧t.rest=[])∧t.kids.length+t.rest.length≤1000000:=h (t,1) (by rw [mZ]; simp)
theorem nL.kid {t k:LTerm} (h:nL t) (hk:k ∈ t.kids++t.rest):nL k:=by
 intro v hv
 have L:∀ (l:List LTerm) (d:Int),k ∈ l→∃ w ∈ visL l d,w.1=v.1:=by
   intro l
   induction l with
   | nil=>intro d h; cases h
   | cons x l ih=>
     intro d h
     rw [visL]
     rcases bT.1 h with rfl | h
     · have hm:v.1 ∈ (vis k d).map (·.1):=by rw [B5 k d 1]; exact dQ.2 ⟨v,hv,rfl⟩
       obtain ⟨w,hw,he⟩:=dQ.1 hm
       exact ⟨w,cQ _ hw,he⟩
     · obtain ⟨w,hw,he⟩:=ih d h
       exact ⟨w,dC _ hw,he⟩
 obtain ⟨w,hw,he⟩:=L (t.kids++t.rest) 2 hk
 rw [← he]
 exact h w (by rw [mZ]; exact kD _ hw)
theorem mK (t:LTerm) (d e:Int):(vis t d).length=(vis t e).length:=by
 have:=congrArg List.length (B5 t d e); simpa using this
theorem bBh {l:List LTerm} {t:LTerm}:(A3 l t).length≤l.length+1:=by unfold A3; split <;> simp
abbrev SoK (l':List LTerm) (h:List AObj):AV→List AObj→Prop:=fun r h'=>dV 6 0 h' r (l'.flatMap aC) l'.length∧lR 0 h h'
theorem so1 (t:LTerm) (l:List LTerm) (out:AV) (h:List AObj) (ht:OkT t) (hol:∀ x ∈ l,OkT x) (hl:l.length≤1000000) (h6:t.kind=6) (h95:¬ t.text=[95]) (ho:dV 6 0 h out (l.flatMap aC) l.length): ACalls Tryz.prog G0 135 [out,elT t] h (SoK (A3 l t) h):=by
 refine dF (rx:=false) (th:=fun _=>none) mixed Tryz.func135 ?_
 · simp -implicitDefEqProofs (disch:=omega) only [Tryz.f135,go_sem,List.replicate,↓reduceIte,reduceAdd,reduceSub,reduceMul,reduceLeDiff,reduceLT,reduceEqDiff,reduceNeg,Nat.reduceBEq]
   have hk0:∀ m:List AObj,lR 0 h (h++m):=fun m=>.app _ _ _
   rcases ho with ⟨rfl,hc,hn⟩ | ⟨i,rfl,hi,hil⟩
   · obtain rfl:l=[]:=List.length_eq_zero_iff.1 hn
     have e:A3 ([]:List LTerm) t=[t]:=by simp [A3]
     rw [e]
     refine zh (zA2 (zt h6) (zf h95)) ?_
     (refine zx0 (zA2 (zt h6) (zf h95)) ?_; repeat' first | exact trivial | refine zJ ?_ ?_ | refine zH fun hc=>?_)
     refine bP (fun (s:Nat)=>[.k,.k,.k,.k,.j,.k,.j,.k,.k,.k,.k,.k,.k,.k,.k,.k,.k,.k,.k,.k,.k,.v (.i .i64 (0:Int)),.j,.j,.j,.j,.j,.j,.j,.j,.k,.k,.k,.k,.k,.k,.k,.k,.k,.k,.k,.k,.k,.k,.k,.k,.k,.k,.k,.k,.k,.k,.k,.k,.k,.k,.k]) (fun s=>(h++[.box false [.i .i64 (t).kind,.i .i64 (t).n,.s (t).text,.s (t).sort,.sl ((t).kids.flatMap aC) (t).kids.length,.sl ((t).rest.flatMap aC) (t).rest.length]])) (fun s=>True) (fun s=>s) (0) trivial rfl (by simp [eN]) ?_
     rintro s j _
     simp -implicitDefEqProofs (disch:=omega) only [go_sem,↓reduceIte,reduceAdd,reduceSub,reduceMul,reduceLeDiff,reduceLT,reduceEqDiff,reduceNeg,Nat.reduceBEq]
     (repeat' (first | refine gT ?_ ?_ | refine gF ?_ ?_ | refine gC ?_ ?_ | refine bB (by omega) ?_ | (intro hr; have hc:=hr; (try simp only [zdz] at hc); simp -implicitDefEqProofs (disch:=omega) only [hr,fU,go_sem,↓reduceIte,reduceAdd,reduceSub,reduceMul,reduceLeDiff,reduceLT,reduceEqDiff,reduceNeg,Nat.reduceBEq]; (try clear hr))))
     all_goals first
       | (exfalso; omega)
       | exact ⟨.inr ⟨h.length+2,rfl,by simp [bC,avt],by simp [bC]⟩,hk0 _⟩
   · have hi2:∀ m:List AObj,(h++m)[i]? = some (.arr false 6 (l.flatMap aC)):=fun m=>by rw [aD (aQ hi)]; exact hi
     refine zh (zA2 (zt h6) (zA2 (zf h95) hi2)) ?_
     (refine zx0 (zA2 (zt h6) (zA2 (zf h95) hi2)) ?_; repeat' first | exact trivial | refine zJ ?_ ?_ | refine zH fun hc=>?_)
     refine bP (fun (s:Nat × List AObj)=>[.k,.k,.k,.k,.j,.k,.j,.k,.k,.k,.k,.k,.k,.k,.k,.k,.k,.k,.k,.k,.k,.v (.i .i64 (s.1:Nat)),.j,.j,.j,.j,.j,.j,.j,.j,.k,.k,.k,.k,.k,.k,.k,.k,.k,.k,.k,.k,.k,.k,.k,.k,.k,.k,.k,.k,.k,.k,.k,.k,.k,.k,.k]) (fun s=>(h++(.box false [.i .i64 (t).kind,.i .i64 (t).n,.s (t).text,.s (t).sort,.sl ((t).kids.flatMap aC) (t).kids.length,.sl ((t).rest.flatMap aC) (t).rest.length]::s.2))) (fun s=>s.1≤l.length∧∀ j,j < s.1→¬ l.getD j default=t) (fun s=>l.length - s.1) ((0,[])) ⟨aG _,fun j h=>by omega⟩ rfl (by simp [eN]) ?_
     rintro ⟨k,z⟩ j ⟨hk,ha⟩
     dsimp only at hk ha
     by_cases hlt:k < l.length
     · have hki:(k:Int) < ((l.length:Nat):Int):=by omega
       have cs:=aJd (l.getD k default) t (hol _ (aU hlt)) ht
       refine zh (zA2 (zt hki) hi2) ?_
       (refine zy1 (zA2 (zt hki) hi2) cs ?_; repeat' first | exact trivial | refine zJ ?_ ?_ | refine zH fun hc=>?_)
       all_goals first
         | exact ⟨(k+1,z++[.box false [.i .i64 (l.getD k default).kind,.i .i64 (l.getD k default).n,.s (l.getD k default).text,.s (l.getD k default).sort,.sl ((l.getD k default).kids.flatMap aC) (l.getD k default).kids.length,.sl ((l.getD k default).rest.flatMap aC) (l.getD k default).rest.length]]),⟨by dsimp only; omega,fun j hj=>(by rcases L3.1 hj with h1 | rfl; exact ha j h1; exact hc)⟩,by dsimp only; omega,by simp,by simp⟩
         | skip
       have e:A3 l t=l:=by unfold A3; rw [if_pos (hc ▸ aU hlt)]
       rw [e]
       exact ⟨.inr ⟨i,rfl,hi2 _,hil⟩,hk0 _⟩
     · have hki:¬ (k:Int) < ((l.length:Nat):Int):=by omega
       have hb1:(l.length+1) * 96≤140737488355328:=by omega
       have hb2:l.length≤140737488355327:=by omega
       have hlt2:=aQ hi
       have hkl:k=l.length:=by omega
       have e:A3 l t=l++[t]:=by
         unfold A3
         rw [if_neg]
         intro hm
         obtain ⟨j,hj,he⟩:=bU.1 hm
         exact ha j (by omega) (by simp [List.getD,hj,he])
       rw [e]
       simp -implicitDefEqProofs (disch:=omega) only [zf hki,hi2,fU,hil,hb1,hb2,aZ,true_and,and_true,go_sem,↓reduceIte,reduceAdd,reduceSub,reduceMul,reduceLeDiff,reduceLT,reduceEqDiff,reduceNeg,Nat.reduceBEq]
       refine ⟨.inr ⟨h.length+(z.length+1+1),by simp,?_,?_⟩,fun i' y _ hy=>?_⟩
       · rw [aK (by simp)]; simp [bC,avt]
       · simp [bC,hil]; omega
       · have hne:i ≠ i':=by rintro rfl; rw [hi] at hy; cases hy
         have hl':=aQ hy
         rw [aD (by simp; omega),dA hne,aD hl']; exact hy
theorem sX {α β:Type} {f:α→β→α} {a:α} {l:List β} {k:Nat} {d:β} (h:k < l.length):(l.take (k+1)).foldl f a=f ((l.take k).foldl f a) (l.getD k d):=by
 rw [rK h,mW]; simp [List.getD,h]
theorem xA {l:List LTerm} {t:LTerm}:(tW l t).length≤l.length+(vis t 1).length:=by
 have L:∀ (m:List LTerm) (l:List LTerm),(m.foldl A3 l).length≤l.length+m.length:=by
   intro m
   induction m with
   | nil=>intro l; simp
   | cons x m ih=>intro l; have:=ih (A3 l x); have:=bBh (l:=l) (t:=x); simp only [iW,aI]; omega
 have:=L (J5 t) l
 have h2:(J5 t).length≤(vis t 1).length:=by
   have:=fK isV ((vis t 1).map (·.1))
   simpa [J5] using this
 unfold tW; omega
theorem V3 {l:List LTerm} {t:LTerm} (hl:∀ x ∈ l,OkT x) (ht:OkT t):∀ x ∈ tW l t,OkT x:=by
 have L:∀ (m l:List LTerm),(∀ x ∈ l,OkT x)→(∀ x ∈ m,OkT x)→∀ x ∈ m.foldl A3 l,OkT x:=by
   intro m
   induction m with
   | nil=>intro l h _; exact h
   | cons y m ih=>
     intro l h hm
     refine ih _ (fun x hx=>?_) (fun x hx=>hm x (by simp [hx]))
     unfold A3 at hx
     split at hx
     · exact h x hx
     · rcases bA.1 hx with hx | hx
       · exact h x hx
       · rw [aS] at hx; rw [hx]; exact hm y (by simp)
 refine L _ _ hl fun x hx=>?_
 have hx:=(eG.1 hx).1
 obtain ⟨v,hv,rfl⟩:=dQ.1 hx
 exact bBx t ht 1 v hv
theorem so2 (t:LTerm) (l:List LTerm) (out:AV) (h:List AObj) (ht:OkT t) (hol:∀ x ∈ l,OkT x) (hvl:nL t) (hl:l.length+(vis t 1).length≤1000000) (hnv:isV t=false) (ho:dV 6 0 h out (l.flatMap aC) l.length) (ih:∀ k ∈ t.kids++t.rest,∀ (l:List LTerm) (out:AV) (h:List AObj),(∀ x ∈ l,OkT x)→l.length+(vis k 1).length≤1000000→dV 6 0 h out (l.flatMap aC) l.length→ACalls Tryz.prog G0 135 [out,elT k] h (SoK (tW l k) h)): ACalls Tryz.prog G0 135 [out,elT t] h (SoK (tW l t) h):=by
 refine dF (rx:=false) (th:=fun _=>none) mixed Tryz.func135 ?_
 · simp -implicitDefEqProofs (disch:=omega) only [Tryz.f135,go_sem,List.replicate,↓reduceIte,reduceAdd,reduceSub,reduceMul,reduceLeDiff,reduceLT,reduceEqDiff,reduceNeg,Nat.reduceBEq]
   have e:=aUx l t
   rw [hnv,if_neg (by simp)] at e
   have hk:=hvl.at.2
   have hcond:(decide (t.kind=6) && !decide (t.text=[95]))=false:=hnv
   rw [mZ,aI,kF,aE,show (1:Int)+1=2 from rfl] at hl
   by_cases h6:t.kind=6
   · have h95:t.text=[95]:=by simpa [h6] using hcond
     refine zh (zA2 (zt h6) (zt h95)) ?_
     (refine zx0 (zA2 (zt h6) (zt h95)) ?_; repeat' first | exact trivial | refine zJ ?_ ?_ | refine zH fun hc=>?_)
     refine bP (fun (s:Nat × List LTerm × AV × List AObj)=>[.v (s.2.2.1),.k,.k,.k,.k,.k,.k,.k,.j,.k,.k,.k,.k,.k,.k,.k,.k,.k,.k,.k,.k,.k,.k,.k,.k,.k,.k,.k,.k,.k,.k,.k,.k,.k,.k,.k,.k,.v (.i .i64 (s.1:Nat)),.j,.j,.j,.j,.j,.j,.j,.k,.k,.k,.k,.k,.k,.k,.k,.k,.k,.k,.k]) (fun s=>s.2.2.2) (fun s=>s.1≤t.kids.length∧(∀ x ∈ s.2.1,OkT x)∧s.2.1.length+(visL (t.kids.drop s.1) 2).length+(visL t.rest 2).length≤1000000∧s.2.1=(t.kids.take s.1).foldl tW l∧dV 6 0 s.2.2.2 s.2.2.1 (s.2.1.flatMap aC) s.2.1.length∧lR 0 (h++[.box false [.i .i64 (t).kind,.i .i64 (t).n,.s (t).text,.s (t).sort,.sl ((t).kids.flatMap aC) (t).kids.length,.sl ((t).rest.flatMap aC) (t).rest.length]]) s.2.2.2) (fun s=>t.kids.length - s.1) ((0,l,out,h++[.box false [.i .i64 (t).kind,.i .i64 (t).n,.s (t).text,.s (t).sort,.sl ((t).kids.flatMap aC) (t).kids.length,.sl ((t).rest.flatMap aC) (t).rest.length]])) ⟨aG _,hol,(by rw [cZ]; dsimp only; omega),rfl,ho.more _,.refl _ _⟩ rfl (by simp [eN]) ?_
     rintro ⟨k,l2,out2,H⟩ j ⟨hkl,ho2,hb2,he2,hi2,hs2⟩
     dsimp only at hkl ho2 hb2 he2 hi2 hs2
     by_cases hlt:k < t.kids.length
     · have hki:(k:Int) < ((t.kids.length:Nat):Int):=by omega
       have hmm:=aU (d:=default) hlt
       rw [xE hlt,aE,mK _ 2 1] at hb2
       have ci:=ih _ (cQ _ hmm) l2 out2 (H++[.box false [.i .i64 (t.kids.getD k default).kind,.i .i64 (t.kids.getD k default).n,.s (t.kids.getD k default).text,.s (t.kids.getD k default).sort,.sl ((t.kids.getD k default).kids.flatMap aC) (t.kids.getD k default).kids.length,.sl ((t.kids.getD k default).rest.flatMap aC) (t.kids.getD k default).rest.length]]) ho2 (by omega) (hi2.more _)
       simp only [elT,bC,avt] at ci
       refine zh (zt hki) ?_
       (refine zx0 (zt hki) ?_; repeat' first | exact trivial | refine zJ ?_ ?_ | refine zH fun hc=>?_)
       refine fI ci ?_
       rintro r h3 ⟨hi3,hs3⟩
       refine zg ?_
       have hw:=xA (l:=l2) (t:=t.kids.getD k default)
       refine ⟨(k+1,tW l2 (t.kids.getD k default),r,h3),⟨by dsimp only; omega,V3 ho2 (ht.kid _ hmm),by dsimp only; omega,?_,hi3,hs2.trans ((lR.app _ _ _).trans hs3)⟩,by dsimp only; omega,rfl,by simp⟩
       dsimp only
       rw [sX (d:=default) hlt,← he2]
     · have hki:¬ (k:Int) < ((t.kids.length:Nat):Int):=by omega
       have hke:t.kids.take k=t.kids:=aH (by omega)
       have hd:(visL (t.kids.drop k) 2).length=0:=by rw [aY (by omega)]; rfl
       rw [hke] at he2
       have hbx:H[h.length]? = some (.box false [.i .i64 (t).kind,.i .i64 (t).n,.s (t).text,.s (t).sort,.sl ((t).kids.flatMap aC) (t).kids.length,.sl ((t).rest.flatMap aC) (t).rest.length]):=hs2 _ _ (aG _) (by simp)
       refine zh (zA2 (zf hki) hbx) ?_
       (refine zx0 (zA2 (zf hki) hbx) ?_; repeat' first | exact trivial | refine zJ ?_ ?_ | refine zH fun hc=>?_)
       refine bP (fun (s:Nat × List LTerm × AV × List AObj)=>[.v (s.2.2.1),.k,.k,.k,.k,.k,.k,.k,.k,.k,.j,.k,.k,.k,.k,.k,.k,.k,.k,.k,.k,.k,.k,.k,.k,.k,.k,.k,.k,.k,.k,.k,.k,.k,.k,.k,.k,.k,.k,.k,.k,.k,.k,.k,.k,.k,.k,.k,.v (.i .i64 (s.1:Nat)),.j,.j,.j,.j,.j,.j,.j,.k]) (fun s=>s.2.2.2) (fun s=>s.1≤t.rest.length∧(∀ x ∈ s.2.1,OkT x)∧s.2.1.length+(visL (t.rest.drop s.1) 2).length≤1000000∧s.2.1=(t.rest.take s.1).foldl tW l2∧dV 6 0 s.2.2.2 s.2.2.1 (s.2.1.flatMap aC) s.2.1.length∧lR 0 (h++[.box false [.i .i64 (t).kind,.i .i64 (t).n,.s (t).text,.s (t).sort,.sl ((t).kids.flatMap aC) (t).kids.length,.sl ((t).rest.flatMap aC) (t).rest.length]]) s.2.2.2) (fun s=>t.rest.length - s.1) ((0,l2,out2,H)) ⟨aG _,ho2,(by rw [cZ]; dsimp only; omega),rfl,hi2,hs2⟩ rfl (by simp [eN]) ?_
       rintro ⟨k3,l3,out3,H3⟩ j3 ⟨hkl3,ho3,hb3,he3,hi3,hs3⟩
       dsimp only at hkl3 ho3 hb3 he3 hi3 hs3
       by_cases hlt3:k3 < t.rest.length
       · have hki3:(k3:Int) < ((t.rest.length:Nat):Int):=by omega
         have hmm:=aU (d:=default) hlt3
         rw [xE hlt3,aE,mK _ 2 1] at hb3
         have ci:=ih _ (dC _ hmm) l3 out3 (H3++[.box false [.i .i64 (t.rest.getD k3 default).kind,.i .i64 (t.rest.getD k3 default).n,.s (t.rest.getD k3 default).text,.s (t.rest.getD k3 default).sort,.sl ((t.rest.getD k3 default).kids.flatMap aC) (t.rest.getD k3 default).kids.length,.sl ((t.rest.getD k3 default).rest.flatMap aC) (t.rest.getD k3 default).rest.length]]) ho3 (by omega) (hi3.more _)
         simp only [elT,bC,avt] at ci
         refine zh (zt hki3) ?_
         (refine zx0 (zt hki3) ?_; repeat' first | exact trivial | refine zJ ?_ ?_ | refine zH fun hc=>?_)
         refine fI ci ?_
         rintro r h4 ⟨hi4,hs4⟩
         refine zg ?_
         have hw:=xA (l:=l3) (t:=t.rest.getD k3 default)
         refine ⟨(k3+1,tW l3 (t.rest.getD k3 default),r,h4),⟨by dsimp only; omega,V3 ho3 (ht.rst _ hmm),by dsimp only; omega,?_,hi4,hs3.trans ((lR.app _ _ _).trans hs4)⟩,by dsimp only; omega,rfl,by simp⟩
         dsimp only
         rw [sX (d:=default) hlt3,← he3]
       · have hki3:¬ (k3:Int) < ((t.rest.length:Nat):Int):=by omega
         have hke3:t.rest.take k3=t.rest:=aH (by omega)
         rw [hke3,he2] at he3
         refine zh (zf hki3) ?_
         (refine zx0 (zf hki3) ?_; repeat' first | exact trivial | refine zJ ?_ ?_ | refine zH fun hc=>?_)
         rw [e,← he3]
         exact ⟨hi3,(lR.app _ _ _).trans hs3⟩
   · refine zh (zf h6) ?_
     (refine zx0 (zf h6) ?_; repeat' first | exact trivial | refine zJ ?_ ?_ | refine zH fun hc=>?_)
     refine bP (fun (s:Nat × List LTerm × AV × List AObj)=>[.v (s.2.2.1),.k,.k,.k,.k,.k,.k,.k,.j,.k,.k,.k,.k,.k,.k,.k,.k,.k,.k,.k,.k,.k,.k,.k,.k,.k,.k,.k,.k,.k,.k,.k,.k,.k,.k,.k,.k,.v (.i .i64 (s.1:Nat)),.j,.j,.j,.j,.j,.j,.j,.k,.k,.k,.k,.k,.k,.k,.k,.k,.k,.k,.k]) (fun s=>s.2.2.2) (fun s=>s.1≤t.kids.length∧(∀ x ∈ s.2.1,OkT x)∧s.2.1.length+(visL (t.kids.drop s.1) 2).length+(visL t.rest 2).length≤1000000∧s.2.1=(t.kids.take s.1).foldl tW l∧dV 6 0 s.2.2.2 s.2.2.1 (s.2.1.flatMap aC) s.2.1.length∧lR 0 (h++[.box false [.i .i64 (t).kind,.i .i64 (t).n,.s (t).text,.s (t).sort,.sl ((t).kids.flatMap aC) (t).kids.length,.sl ((t).rest.flatMap aC) (t).rest.length]]) s.2.2.2) (fun s=>t.kids.length - s.1) ((0,l,out,h++[.box false [.i .i64 (t).kind,.i .i64 (t).n,.s (t).text,.s (t).sort,.sl ((t).kids.flatMap aC) (t).kids.length,.sl ((t).rest.flatMap aC) (t).rest.length]])) ⟨aG _,hol,(by rw [cZ]; dsimp only; omega),rfl,ho.more _,.refl _ _⟩ rfl (by simp [eN]) ?_
     rintro ⟨k,l2,out2,H⟩ j ⟨hkl,ho2,hb2,he2,hi2,hs2⟩
     dsimp only at hkl ho2 hb2 he2 hi2 hs2
     by_cases hlt:k < t.kids.length
     · have hki:(k:Int) < ((t.kids.length:Nat):Int):=by omega
       have hmm:=aU (d:=default) hlt
       rw [xE hlt,aE,mK _ 2 1] at hb2
       have ci:=ih _ (cQ _ hmm) l2 out2 (H++[.box false [.i .i64 (t.kids.getD k default).kind,.i .i64 (t.kids.getD k default).n,.s (t.kids.getD k default).text,.s (t.kids.getD k default).sort,.sl ((t.kids.getD k default).kids.flatMap aC) (t.kids.getD k default).kids.length,.sl ((t.kids.getD k default).rest.flatMap aC) (t.kids.getD k default).rest.length]]) ho2 (by omega) (hi2.more _)
       simp only [elT,bC,avt] at ci
       refine zh (zt hki) ?_
       (refine zx0 (zt hki) ?_; repeat' first | exact trivial | refine zJ ?_ ?_ | refine zH fun hc=>?_)
       refine fI ci ?_
       rintro r h3 ⟨hi3,hs3⟩
       refine zg ?_
       have hw:=xA (l:=l2) (t:=t.kids.getD k default)
       refine ⟨(k+1,tW l2 (t.kids.getD k default),r,h3),⟨by dsimp only; omega,V3 ho2 (ht.kid _ hmm),by dsimp only; omega,?_,hi3,hs2.trans ((lR.app _ _ _).trans hs3)⟩,by dsimp only; omega,rfl,by simp⟩
       dsimp only
       rw [sX (d:=default) hlt,← he2]
     · have hki:¬ (k:Int) < ((t.kids.length:Nat):Int):=by omega
       have hke:t.kids.take k=t.kids:=aH (by omega)
       have hd:(visL (t.kids.drop k) 2).length=0:=by rw [aY (by omega)]; rfl
       rw [hke] at he2
       have hbx:H[h.length]? = some (.box false [.i .i64 (t).kind,.i .i64 (t).n,.s (t).text,.s (t).sort,.sl ((t).kids.flatMap aC) (t).kids.length,.sl ((t).rest.flatMap aC) (t).rest.length]):=hs2 _ _ (aG _) (by simp)
       refine zh (zA2 (zf hki) hbx) ?_
       (refine zx0 (zA2 (zf hki) hbx) ?_; repeat' first | exact trivial | refine zJ ?_ ?_ | refine zH fun hc=>?_)
       refine bP (fun (s:Nat × List LTerm × AV × List AObj)=>[.v (s.2.2.1),.k,.k,.k,.k,.k,.k,.k,.k,.k,.j,.k,.k,.k,.k,.k,.k,.k,.k,.k,.k,.k,.k,.k,.k,.k,.k,.k,.k,.k,.k,.k,.k,.k,.k,.k,.k,.k,.k,.k,.k,.k,.k,.k,.k,.k,.k,.k,.v (.i .i64 (s.1:Nat)),.j,.j,.j,.j,.j,.j,.j,.k]) (fun s=>s.2.2.2) (fun s=>s.1≤t.rest.length∧(∀ x ∈ s.2.1,OkT x)∧s.2.1.length+(visL (t.rest.drop s.1) 2).length≤1000000∧s.2.1=(t.rest.take s.1).foldl tW l2∧dV 6 0 s.2.2.2 s.2.2.1 (s.2.1.flatMap aC) s.2.1.length∧lR 0 (h++[.box false [.i .i64 (t).kind,.i .i64 (t).n,.s (t).text,.s (t).sort,.sl ((t).kids.flatMap aC) (t).kids.length,.sl ((t).rest.flatMap aC) (t).rest.length]]) s.2.2.2) (fun s=>t.rest.length - s.1) ((0,l2,out2,H)) ⟨aG _,ho2,(by rw [cZ]; dsimp only; omega),rfl,hi2,hs2⟩ rfl (by simp [eN]) ?_
       rintro ⟨k3,l3,out3,H3⟩ j3 ⟨hkl3,ho3,hb3,he3,hi3,hs3⟩
       dsimp only at hkl3 ho3 hb3 he3 hi3 hs3
       by_cases hlt3:k3 < t.rest.length
       · have hki3:(k3:Int) < ((t.rest.length:Nat):Int):=by omega
         have hmm:=aU (d:=default) hlt3
         rw [xE hlt3,aE,mK _ 2 1] at hb3
         have ci:=ih _ (dC _ hmm) l3 out3 (H3++[.box false [.i .i64 (t.rest.getD k3 default).kind,.i .i64 (t.rest.getD k3 default).n,.s (t.rest.getD k3 default).text,.s (t.rest.getD k3 default).sort,.sl ((t.rest.getD k3 default).kids.flatMap aC) (t.rest.getD k3 default).kids.length,.sl ((t.rest.getD k3 default).rest.flatMap aC) (t.rest.getD k3 default).rest.length]]) ho3 (by omega) (hi3.more _)
         simp only [elT,bC,avt] at ci
         refine zh (zt hki3) ?_
         (refine zx0 (zt hki3) ?_; repeat' first | exact trivial | refine zJ ?_ ?_ | refine zH fun hc=>?_)
         refine fI ci ?_
         rintro r h4 ⟨hi4,hs4⟩
         refine zg ?_
         have hw:=xA (l:=l3) (t:=t.rest.getD k3 default)
         refine ⟨(k3+1,tW l3 (t.rest.getD k3 default),r,h4),⟨by dsimp only; omega,V3 ho3 (ht.rst _ hmm),by dsimp only; omega,?_,hi4,hs3.trans ((lR.app _ _ _).trans hs4)⟩,by dsimp only; omega,rfl,by simp⟩
         dsimp only
         rw [sX (d:=default) hlt3,← he3]
       · have hki3:¬ (k3:Int) < ((t.rest.length:Nat):Int):=by omega
         have hke3:t.rest.take k3=t.rest:=aH (by omega)
         rw [hke3,he2] at he3
         refine zh (zf hki3) ?_
         (refine zx0 (zf hki3) ?_; repeat' first | exact trivial | refine zJ ?_ ?_ | refine zH fun hc=>?_)
         rw [e,← he3]
         exact ⟨hi3,(lR.app _ _ _).trans hs3⟩
theorem so:∀ (t:LTerm),OkT t→nL t→∀ (l:List LTerm) (out:AV) (h:List AObj),(∀ x ∈ l,OkT x)→l.length+(vis t 1).length≤1000000→dV 6 0 h out (l.flatMap aC) l.length→ACalls Tryz.prog G0 135 [out,elT t] h (SoK (tW l t) h):=
 dO (Q:=fun t=>OkT t→nL t→∀ (l:List LTerm) (out:AV) (h:List AObj),(∀ x ∈ l,OkT x)→l.length+(vis t 1).length≤1000000→dV 6 0 h out (l.flatMap aC) l.length→ACalls Tryz.prog G0 135 [out,elT t] h (SoK (tW l t) h)) fun t hk hr ht hv l out h hol hl ho=>by
   cases hvt:isV t with
   | false=>
     refine so2 t l out h ht hol hv hl hvt ho fun k hm l out h hol hl ho=>?_
     have hvk:=hv.kid hm
     rcases bA.1 hm with hm | hm
     · exact hk k hm (ht.kid k hm) hvk l out h hol hl ho
     · exact hr k hm (ht.rst k hm) hvk l out h hol hl ho
   | true=>
     have h6:t.kind=6:=by have:=hvt; simp only [isV,aA,decide_eq_true_eq] at this; exact this.1
     have h95:¬ t.text=[95]:=by have:=hvt; simp only [isV,aA,bV,decide_eq_false_iff_not] at this; exact this.2
     have e:=aUx l t
     rw [hvt,if_pos rfl,(hv.at.1 h6).1,(hv.at.1 h6).2] at e
     rw [e]
     exact so1 t l out h ht hol (by omega) h6 h95 ho

theorem aNy {l:List LTerm} {k:Nat} (h:k≤l.length):List.take (k * 6) (l.flatMap aC)=(l.take k).flatMap aC:=by
 induction l generalizing k with
 | nil=>simp
 | cons x l ih=>
   cases k with
   | zero=>simp
   | succ k=>
     rw [eO,dJ,dJ,List.take_append,sP,← ih (by simpa using h),aH (by rw [sP]; omega),show (k+1) * 6 - 6=k * 6 by omega]
theorem bOb (l:List LTerm) (hl:l.length≤1000000): CT 136 [avt l] (.b (aVd l)):=by
 refine bQ mixed Tryz.func136 g0 ?_
 · simp -implicitDefEqProofs (disch:=omega) only [Tryz.f136,go_sem,List.replicate,simprocAttr,avt]
   (refine zs0 ?_; repeat' first | exact trivial | refine zJ ?_ ?_ | refine zH fun hc=>?_)
   refine eE (fun (k:Nat)=>[.k,.k,.j,.j,.j,.k,.j,.k,.k,.v (.i .i64 (k:Nat)),.j,.j,.j,.j,.j,.j,.j,.j,.j,.j,.j,.j,.j,.j,.j,.j,.j,.j,.j]) (fun k=>([]:List AObj)) (fun k=>k≤l.length∧∀ i,i < k→(L0 i fun j => !decide ((l.getD i default).text=(l.getD j default).text))=true) (fun k=>l.length - k) (0) _ ⟨aG _,fun j h=>by omega⟩ rfl (by simp [eN]) ?_
   rintro k g j ⟨hk,ha⟩
   by_cases hlt:k < l.length
   · have hki:(k:Int) < ((l.length:Nat):Int):=by omega
     have htk:List.take (k * 6) (l.flatMap aC)=(l.take k).flatMap aC:=aNy (by omega)
     have hlk:(l.take k).length=k:=by rw [dS]; omega
     refine zh (zA2 (zt hki) htk) ?_
     (refine zx0 (zA2 (zt hki) htk) ?_; repeat' first | exact trivial | refine zJ ?_ ?_ | refine zH fun hc=>?_)
     refine bP (fun (s:Nat × List AObj)=>[.k,.k,.j,.k,.k,.k,.j,.k,.k,.k,.k,.k,.k,.k,.k,.k,.k,.k,.v (.i .i64 (s.1:Nat)),.j,.j,.j,.j,.j,.j,.j,.j,.j,.k]) (fun s=>(g++(.box false [.i .i64 (l.getD k default).kind,.i .i64 (l.getD k default).n,.s (l.getD k default).text,.s (l.getD k default).sort,.sl ((l.getD k default).kids.flatMap aC) (l.getD k default).kids.length,.sl ((l.getD k default).rest.flatMap aC) (l.getD k default).rest.length]::s.2))) (fun s=>s.1≤k∧∀ j,j < s.1→(!decide ((l.getD k default).text=(l.getD j default).text))=true) (fun s=>k - s.1) ((0,[])) ⟨aG _,fun j h=>by omega⟩ rfl (by simp [eN]) ?_
     rintro ⟨i,z⟩ j2 ⟨hi,hb⟩
     dsimp only at hi hb
     by_cases hlt2:i < k
     · have hki2:(i:Int) < ((k:Nat):Int):=by omega
       have hil:i < (l.take k).length:=by omega
       have hgd:(l.take k).getD i default=l.getD i default:=by simp [List.getD,hlt2,show i < l.length by omega,eL]
       refine zh (zA2 (zt hki2) (zA2 hlk hgd)) ?_
       (refine zx0 (zA2 (zt hki2) (zA2 hlk hgd)) ?_; repeat' first | exact trivial | refine zJ ?_ ?_ | refine zH fun hc=>?_)
       · have hf:(L0 k fun j => !decide ((l.getD k default).text=(l.getD j default).text))=false:=gY i hlt2 (by rw [zt hc]; rfl)
         exact aF (by rw [aVd,gY k hlt hf]) rfl
       · exact ⟨(i+1,z++[.box false [.i .i64 (l.getD i default).kind,.i .i64 (l.getD i default).n,.s (l.getD i default).text,.s (l.getD i default).sort,.sl ((l.getD i default).kids.flatMap aC) (l.getD i default).kids.length,.sl ((l.getD i default).rest.flatMap aC) (l.getD i default).rest.length]]),⟨by dsimp only; omega,bD hb (by rw [zf hc]; rfl)⟩,by dsimp only; omega,by simp,by simp⟩
     · have hki2:¬ (i:Int) < ((k:Nat):Int):=by omega
       refine zh (zf hki2) ?_
       (refine zx0 (zf hki2) ?_; repeat' first | exact trivial | refine zJ ?_ ?_ | refine zH fun hc=>?_)
       all_goals exact ⟨k+1,_,⟨by omega,bD ha (kU fun j hj=>hb j (by omega))⟩,by omega,rfl,by simp⟩
   · have hki:¬ (k:Int) < ((l.length:Nat):Int):=by omega
     refine zh (zf hki) ?_
     (refine zx0 (zf hki) ?_; repeat' first | exact trivial | refine zJ ?_ ?_ | refine zH fun hc=>?_)
     all_goals exact aF (by rw [aVd,kU (fun i hi=>ha i (by omega))]) rfl
def aEh (l:List LTerm):Bool:=l.all fun v => !decide (v.text=[36])
def bLz (i:Bool) (s:bZ) (t:LTerm):Bool:=i && (!pI s t && (pG t && (aEh (tW [] t) && aVd (tW [] t))))
theorem bSq {l:List LTerm} {f:LTerm→Bool} {k:Nat} (hk:k < l.length) (h:f (l.getD k default)=false):l.all f=false:=fR.2 ⟨_,aU hk,by rw [h]; simp⟩
theorem bJx {l:List LTerm} {f:LTerm→Bool} (h:∀ j,j < l.length→f (l.getD j default)=true):l.all f=true:=by
 rw [aN]
 intro x hx
 obtain ⟨j,hj,rfl⟩:=bU.1 hx
 have:=h j hj
 simpa [List.getD,hj] using this
theorem aZn (s:bZ) (t:LTerm) (hm:Small s) (ht:OkT t) (hv:nL t) (hl:(vis t 1).length≤1000000) (c1:CT 132 [.agg (aO s),elT t] (.b true)) (hf:pI s t=false) (hk:pG t=true): CT 79 [.agg (aO s),elT t] (.b (aEh (tW [] t) && aVd (tW [] t))):=by
 refine aL mixed Tryz.func79 g0 ?_
 · skip
   have c2:=bDg s hm t ht
   have c3:=bDf t ht
   rw [hf] at c2
   rw [hk] at c3
   have cs:=so t ht hv [] .e0 [.box false (aO s),.box false [.i .i64 (t).kind,.i .i64 (t).n,.s (t).text,.s (t).sort,.sl ((t).kids.flatMap aC) (t).kids.length,.sl ((t).rest.flatMap aC) (t).rest.length]] (by simp) (by simpa using hl) jC
   simp only [elT,bC,avt] at cs
   (refine zt3 c1 c2 c3 ?_; repeat' first | exact trivial | refine zJ ?_ ?_ | refine zH fun hc=>?_)
   refine fI cs ?_
   rintro r h' ⟨ho,_⟩
   have hL:(tW [] t).length≤1000000:=by have:=xA (l:=[]) (t:=t); simp at this; omega
   have c4:=bOb (tW [] t) hL
   clear cs c1 c2 c3
   generalize tW [] t=L at *
   rcases ho with ⟨rfl,hc,hn⟩ | ⟨i,rfl,hi,hil⟩
   · obtain rfl:L=[]:=List.length_eq_zero_iff.1 hn
     simp only [avt,jL,aX] at c4
     refine zg ?_
     refine bP (fun (s:Nat)=>[.k,.k,.k,.k,.j,.k,.k,.j,.k,.k,.k,.k,.k,.k,.k,.k,.k,.k,.k,.k,.k,.k,.k,.k,.k,.k,.v (.i .i64 (0:Int)),.j,.j,.j,.j,.j,.j,.j,.k,.k]) (fun s=>h') (fun s=>True) (fun s=>s) (0) trivial rfl (by simp [eN]) ?_
     rintro s j _
     refine zg ?_
     (refine zt1 c4 ?_; repeat' first | exact trivial | refine zJ ?_ ?_ | refine zH fun hc=>?_)
     all_goals first
       | (exfalso; omega)
       | exact aF (by rw [aEh]; rfl) rfl
   · have hi2:∀ m:List AObj,(h'++m)[i]? = some (.arr false 6 (L.flatMap aC)):=fun m=>by rw [aD (aQ hi)]; exact hi
     refine zh hi ?_
     rw [show h'=h'++[] from (List.append_nil h').symm]
     refine bP (fun (s:Nat × List AObj)=>[.k,.k,.k,.k,.j,.k,.k,.j,.k,.k,.k,.k,.k,.k,.k,.k,.k,.k,.k,.k,.k,.k,.k,.k,.k,.k,.v (.i .i64 (s.1:Nat)),.j,.j,.j,.j,.j,.j,.j,.k,.k]) (fun s=>(h'++s.2)) (fun s=>s.1≤L.length∧∀ j,j < s.1→(!decide ((L.getD j default).text=[36]))=true) (fun s=>L.length - s.1) ((0,[])) ⟨aG _,fun j h=>absurd h (Nat.not_lt_zero j)⟩ rfl (by simp [eN]) ?_
     rintro ⟨k,z⟩ j ⟨hk,ha⟩
     dsimp only at hk ha
     by_cases hlt:k < L.length
     · have hki:(k:Int) < ((L.length:Nat):Int):=by omega
       refine zh (zA2 (zt hki) hi2) ?_
       (refine zx0 (zA2 (zt hki) hi2) ?_; repeat' first | exact trivial | refine zJ ?_ ?_ | refine zH fun hc=>?_)
       · have e:aEh L=false:=bSq hlt (by rw [zt hc]; rfl)
         exact aF (by rw [e]; rfl) rfl
       · exact ⟨(k+1,z++[.box false [.i .i64 (L.getD k default).kind,.i .i64 (L.getD k default).n,.s (L.getD k default).text,.s (L.getD k default).sort,.sl ((L.getD k default).kids.flatMap aC) (L.getD k default).kids.length,.sl ((L.getD k default).rest.flatMap aC) (L.getD k default).rest.length]]),⟨by dsimp only; omega,bD ha (by rw [zf hc]; rfl)⟩,by dsimp only; omega,by simp,by simp⟩
     · have hki:¬ (k:Int) < ((L.length:Nat):Int):=by omega
       have htk:List.take (L.length * 6) (L.flatMap aC)=L.flatMap aC:=aH (by omega)
       refine zh (zA2 (zf hki) hi2) ?_
       (refine zy1 (zA2 (zf hki) (zA2 hi2 (zA2 hil (zA2 htk (zA2 @iH aZ))))) c4 ?_; repeat' first | exact trivial | refine zJ ?_ ?_ | refine zH fun hc=>?_)
       all_goals exact aF (by rw [aEh,bJx (fun j hj=>ha j (by omega))]; rfl) rfl
theorem aZo (s:bZ) (t:LTerm) (hm:Small s) (ht:OkT t) (c1:CT 132 [.agg (aO s),elT t] (.b false)): CT 79 [.agg (aO s),elT t] (.b false):=by
 refine aL mixed Tryz.func79 g0 ?_
 · skip
   (refine zt1 c1 ?_; repeat' first | exact trivial | refine zJ ?_ ?_ | refine zH fun hc=>?_)
   all_goals exact aF rfl rfl
theorem aZm (s:bZ) (t:LTerm) (hm:Small s) (ht:OkT t) (c1:CT 132 [.agg (aO s),elT t] (.b true)) (hn:(!pI s t && pG t)=false): CT 79 [.agg (aO s),elT t] (.b false):=by
 refine aL mixed Tryz.func79 g0 ?_
 · skip
   have c2:=bDg s hm t ht
   have c3:=bDf t ht
   rcases eM (pI s t) with hf | hf
   · rw [hf] at c2
     (refine zt2 c1 c2 ?_; repeat' first | exact trivial | refine zJ ?_ ?_ | refine zH fun hc=>?_)
     all_goals exact aF rfl rfl
   · rw [hf] at c2 hn
     have hk:pG t=false:=by simpa using hn
     rw [hk] at c3
     (refine zt3 c1 c2 c3 ?_; repeat' first | exact trivial | refine zJ ?_ ?_ | refine zH fun hc=>?_)
     all_goals exact aF rfl rfl
theorem bOp (i:Bool) (s:bZ) (t:LTerm) (hm:Small s) (ht:OkT t) (hv:i=true→nL t∧(vis t 1).length≤1000000) (c1:CT 132 [.agg (aO s),elT t] (.b i)):CT 79 [.agg (aO s),elT t] (.b (bLz i s t)):=by
 cases i with
 | false=>rw [bLz,Bool.false_and]; exact aZo s t hm ht c1
 | true=>
   rw [bLz,Bool.true_and,← jY]
   rcases eM (!pI s t && pG t) with h | h
   · rw [h,Bool.true_and]
     rw [aA,bV] at h
     exact aZn s t hm ht (hv rfl).1 (hv rfl).2 c1 h.1 h.2
   · rw [h,Bool.false_and]
     exact aZm s t hm ht c1 h

theorem P9 {t:LTerm} (h:eY t false true true false false=true):t.n=0∧t.kids=[]∧t.rest=[]:=by
 simp only [eY,aA,bJ,decide_eq_true_eq,aM,false_or,true_or,and_true] at h
 exact ⟨h.1.1,h.1.2,h.2⟩
structure V9 (v:LTerm):Prop where
 n:v.n=0
 kids:v.kids=[]
 rest:v.rest=[]
 text:v.text ≠ []
theorem aQm {x:Str} (h:dN x=true):x ≠ []:=by
 rintro rfl; simp [dN] at h
theorem aXn {t:LTerm} (h:nodeB t=true) (h6:t.kind=6):V9 t:=by
 have hh:nodeB t=(if vO t.text=true then decide (t.sort=aJu) && eY t false true true false false else dN t.text && dN t.sort && eY t false true true false false):=by simp only [nodeB,h6,Int.reduceEq,if_false,if_true]
 rw [hh] at h
 split at h
 · rename_i ho
   simp only [aA] at h
   obtain ⟨a,b,c⟩:=P9 h.2
   refine ⟨a,b,c,fun e=>?_⟩
   rw [e] at ho; simp [vO] at ho
 · simp only [aA] at h
   obtain ⟨a,b,c⟩:=P9 h.2
   exact ⟨a,b,c,aQm h.1.1⟩
theorem aWl {t r:LTerm} (h:nodeB t=true) (hr:r ∈ t.rest):V9 r:=by
 have h1:=rS h hr
 have z0:∀ {a b c d},eY t a b c d false=true→t.rest=[]:=by
   intro a b c d h
   simp only [eY,aA,bJ,decide_eq_true_eq,aM,false_or] at h
   exact h.2
 have r0:∀ {s},qE t s=true→r.n=0:=by
   intro s h
   simp only [qE,aA,bJ,decide_eq_true_eq] at h
   have hl:0 < t.rest.length:=dZ hr
   rcases h with h | h
   · omega
   · obtain ⟨⟨⟨⟨h1,hk⟩,hn⟩,_⟩,hz⟩:=h
     obtain ⟨x,hx⟩:=aCv.1 h1
     rw [hx] at hr hz
     rw [aS] at hr; subst hr
     exact (P9 hz).1
 refine ⟨?_,h1.2.2.1,h1.2.2.2,aQm h1.2.1⟩
 have hh:=h
 unfold nodeB at hh
 repeat' split at hh
 all_goals try simp only [aA] at hh
 all_goals first
   | exact absurd hr (by rw [z0 hh.2]; simp)
   | exact r0 hh.1
   | exact r0 hh.1.1
   | cases hh
theorem aNq:∀ t:LTerm,wfT nodeB t=true→∀ d:Int,∀ v ∈ vis t d,v.1.kind=6→V9 v.1:=
 dO (Q := fun t=>wfT nodeB t=true→∀ d:Int,∀ v ∈ vis t d,v.1.kind=6→V9 v.1) fun t hk hr hw d v hv h6=>by
   have hw':=oR.1 hw
   rw [mZ,kF,bT,bA] at hv
   rcases hv with rfl | hv | hv
   · exact aXn hw'.1 h6
   · have L:∀ l:List LTerm,(∀ k ∈ l,k ∈ t.kids)→v ∈ visL l (d+1)→V9 v.1:=by
       intro l
       induction l with
       | nil=>intro _ h; cases h
       | cons x l ih=>
         intro hm h
         rw [visL,bA] at h
         rcases h with h | h
         · exact hk x (hm x (by simp)) (hw'.2 x (hm x (by simp))) (d+1) v h h6
         · exact ih (fun k hk=>hm k (by simp [hk])) h
     exact L t.kids (fun _ h=>h) hv
   · have L:∀ l:List LTerm,(∀ k ∈ l,k ∈ t.rest)→v ∈ visL l (d+1)→V9 v.1:=by
       intro l
       induction l with
       | nil=>intro _ h; cases h
       | cons x l ih=>
         intro hm h
         rw [visL,bA] at h
         rcases h with h | h
         · have hx:=rS hw'.1 (hm x (by simp))
           rw [uP hx.2.2.1 hx.2.2.2,aS] at h
           subst h
           exact aWl hw'.1 (hm x (by simp))
         · exact ih (fun k hk=>hm k (by simp [hk])) h
     exact L t.rest (fun _ h=>h) hv
theorem aKf {t:LTerm} (hv:fO nodeB t=true):nL t∧(vis t 1).length≤1000000:=by
 have hP:=aDf hv
 rw [List.append_nil] at hP
 refine ⟨fun v hm=>⟨fun h6=>?_,(hP.2 v hm).2.2⟩,by have:=hP.1; omega⟩
 have:=aNq t (by simp only [fO,aA] at hv; exact hv.1.1) 1 v hm h6
 exact ⟨this.kids,this.rest⟩
theorem aNs {t x:LTerm} (hw:wfT nodeB t=true) (h:x ∈ J5 t):V9 x∧x.kind=6:=by
 have h2:=eG.1 h
 obtain ⟨v,hv,rfl⟩:=dQ.1 h2.1
 have h6:v.1.kind=6:=by have:=h2.2; simp only [isV,aA,decide_eq_true_eq] at this; exact this.1
 exact ⟨aNq t hw 1 v hv h6,h6⟩
theorem bGl {a b:LTerm} (ha:V9 a∧a.kind=6) (hb:V9 b∧b.kind=6) (h:D6 a=D6 b):a=b:=by
 obtain ⟨⟨a1,a2,a3,_⟩,a4⟩:=ha
 obtain ⟨⟨b1,b2,b3,_⟩,b4⟩:=hb
 cases a; cases b
 simp only [D6,LTerm.text,LTerm.sort,aP,LTerm.n,LTerm.kids,LTerm.rest,LTerm.kind] at *
 subst_vars
 rw [h.1,h.2]
theorem aXb (s:bZ) (t:LTerm):bCg s t=bLz (fO nodeB t && mQ s t) s t:=by
 rw [bCg,bLz]
 rcases eM (fO nodeB t) with hv | hv
 · rcases eM (mQ s t) with hf | hf
   · rw [hv,hf]
     simp only [Bool.true_and]
     have hw:wfT nodeB t=true:=by simp only [fO,aA] at hv; exact hv.1.1
     rw [aIc,aHb,cT,aRh s t hw 1,aQv t hw 1]
     have hp:=fun x hx=>aNs (x:=x) hw hx
     have e1:decide ((rQ t).2=[])=aVd (tW [] t):=by
       rw [cI,decide_eq_true_eq,tW,bGs (fun a ha b hb=>bGl (hp a ha) (hp b hb)),rQ,aGk,J5]
       refine bFl fun x hx=>?_
       obtain ⟨v,hv,rfl⟩:=dQ.1 hx
       exact (hp v hv).1.text
     have e2:aEh (tW [] t) = !dol t 1:=by
       have hm:=(V4 (J5 t) [] cR).2
       rw [cI,aEh,aN,bV,dol,eW]
       constructor
       · intro h v hv
         intro q
         simp only [aA,decide_eq_true_eq] at q
         have hx:v.1 ∈ J5 t:=eG.2 ⟨dQ.2 ⟨v,hv,rfl⟩,by simp [isV,q.1,q.2]⟩
         have:=h v.1 ((hm v.1).2 (.inr hx))
         simp [q.2] at this
       · intro h x hx
         have hx:=((hm x).1 hx).resolve_left (by simp)
         have h2:=eG.1 hx
         obtain ⟨v,hv,rfl⟩:=dQ.1 h2.1
         have:=h v hv
         simp only [(hp v.1 hx).2,decide_true,Bool.true_and,decide_eq_true_eq] at this
         simp [this]
     rw [e1,e2]
     cases pI s t <;> cases pG t <;> cases dol t 1 <;> cases aVd (tW [] t) <;> rfl
   · rw [hf]; simp
 · rw [hv]; simp

def xD (s:bZ) (t:LTerm):Bool:=dM s && bCg s t
theorem aCa (s:bZ) (t:LTerm) (hm:Small s) (hs:OkS s) (ht:OkT t): CT 42 [.agg (aO s),elT t] (.b (xD s t)):=by
 refine cY (rx:=true) (th:=fun _=>none) mixed Tryz.func42 g0 ?_
 · simp -implicitDefEqProofs (disch:=omega) only [Tryz.f42,go_sem,List.replicate,simprocAttr]
   have c2:=aMg s hm hs
   have c3:=bOr s t hm ht
   rw [xD]
   rcases eM (dM s) with h2 | h2
   · rw [h2] at c2
     (refine zt3 c2 (aBz s hm (iE h2)) c3 ?_; repeat' first | exact trivial | refine zJ ?_ ?_ | refine zH fun hc=>?_)
     all_goals exact aF (by rw [h2]; rfl) rfl
   · rw [h2] at c2
     (refine zt1 c2 ?_; repeat' first | exact trivial | refine zJ ?_ ?_ | refine zH fun hc=>?_)
     all_goals exact aF (by rw [h2]; rfl) rfl
theorem bDn (s:bZ) (t:LTerm) (hm:Small s) (hs:OkS s) (ht:OkT t) (c1:dM s=true→CT 132 [.agg (aO s),elT t] (.b (fO nodeB t && mQ s t))): CT 45 [.agg (aO s),elT t] (.b (xD s t)):=by
 refine aL mixed Tryz.func45 g0 ?_
 · skip
   have c2:=aTd s hm hs
   rw [xD]
   rcases eM (dM s) with h2 | h2
   · have c3:=bOp _ s t hm ht (fun h=>aKf (by simp only [aA] at h; exact h.1)) (c1 h2)
     rw [← aXb] at c3
     rw [h2] at c2
     (refine zt2 c2 c3 ?_; repeat' first | exact trivial | refine zJ ?_ ?_ | refine zH fun hc=>?_)
     all_goals exact aF (by rw [h2]; rfl) rfl
   · rw [h2] at c2
     (refine zt1 c2 ?_; repeat' first | exact trivial | refine zJ ?_ ?_ | refine zH fun hc=>?_)
     all_goals exact aF (by rw [h2]; rfl) rfl

def tM (s:bZ) (t:LTerm):List LAsk × Int:=if xD s t=true then (cK t [],0) else ([],2)
def I3 (r:List LAsk × Int):AV:=.tup [ava r.1,.i .i64 r.2]
theorem lL {s:bZ} {t:LTerm} (h:xD s t=true):fO nodeB t=true:=by
 rw [xD,bCg,aA,aA] at h; exact h.2.1
theorem oU:∀ (t:LTerm) (p:List Int),(cK t p).length≤nodesT t:=
 dO (Q := fun t=>∀ p:List Int,(cK t p).length≤nodesT t) fun t hk _ p=>by
   have L:∀ (l:List LTerm) (i:Nat),(∀ k ∈ l,∀ p:List Int,(cK k p).length≤nodesT k)→(testsL l p i).length≤nodesL l:=by
     intro l
     induction l with
     | nil=>intro i _; simp [testsL,nodesL]
     | cons x l ih=>intro i h; rw [testsL,nodesL,aE]; have:=h x (by simp) (p++[(i:Int)]); have:=ih (i+1) (fun k hk=>h k (by simp [hk])); omega
   have e:=rX t
   have q:=L t.kids 0 hk
   rw [hX]
   split
   · simp only [aI]; omega
   · split
     · simp only [aI]; omega
     · split
       · simp; omega
       · split
         · split <;> simp; omega
         · simp; omega
theorem bPj (s:bZ) (t:LTerm) (hm:Small s) (hs:OkS s) (ht:OkT t) (c0:dM s=true→CT 132 [.agg (aO s),elT t] (.b (fO nodeB t && mQ s t))): CT 14 [.agg (aO s),elT t] (I3 (tM s t)):=by
 refine bQ mixed Tryz.func14 g0 ?_
 · simp -implicitDefEqProofs (disch:=omega) only [Tryz.f14,go_sem,List.replicate,simprocAttr,I3]
   have c1:=bDn s t hm hs ht c0
   rcases eM (xD s t) with h | h
   · have hv:=lL h
     have hv2:=hv
     simp only [fO,aA,decide_eq_true_eq] at hv2
     have c2:=bDm t ht [] (by simp only [aX]; omega) (dI (oU t []) (by omega))
     simp only [bN,aX] at c2
     rw [h] at c1
     (refine zy2 @ava.eq_1 c1 c2 ?_; repeat' first | exact trivial | refine zJ ?_ ?_ | refine zH fun hc=>?_)
     all_goals exact aF (by rw [tM,if_pos h]) (by simp [pers,persL,ava,rU,mat])
   · rw [h] at c1
     (refine zt1 c1 ?_; repeat' first | exact trivial | refine zJ ?_ ?_ | refine zH fun hc=>?_)
     all_goals exact .inr ⟨by rw [tM,if_neg (by rw [h]; simp)]; exact ⟨rfl,rfl,trivial⟩,cR,fun i hi=>absurd hi (by show ¬ i ∈ []; simp)⟩
end Go.Proofs.YtifefbhllfdmlaaGreatDoor

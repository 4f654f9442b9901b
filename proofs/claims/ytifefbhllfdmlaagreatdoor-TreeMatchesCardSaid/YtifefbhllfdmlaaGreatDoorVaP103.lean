/-
  What functions of the chapter return, as plain functions of what they are given; no condition beyond those that each theorem names.
-/
import Derived.Test.YtifefbhllfdmlaaGreatDoorTeP103
import Derived.Test.YtifefbhllfdmlaaGreatDoorTeP105
import Derived.Test.YtifefbhllfdmlaaGreatDoorVaP102
import Derived.Test.YtifefbhllfdmlaaGreatDoorVaP101
import Derived.Test.YtifefbhllfdmlaaGreatDoorSoP103
set_option maxRecDepth 100000
set_option linter.unusedSimpArgs false
set_option linter.unusedVariables false
set_option maxHeartbeats 4000000
namespace Go.Proofs.YtifefbhllfdmlaaGreatDoor
open Go Go.Vo
open Nat (reduceAdd reduceSub reduceMul reduceLeDiff reduceLT reduceEqDiff)
open Int (reduceNeg)

def aEy (s:cI) (t:LTerm):Bool:=(called s t.text).2.2 && (decide ((called s t.text).1.args.length=t.kids.length) && H4 t.kids.length (fun i=>aOg s (iL s (t.kids.getD i default)) ((called s t.text).1.args.getD i [])))
mutual
def pR (s:cI):LTerm→Bool
 | .mk k n x so ks rs=>fitsPL s ks && (if k=6 then existsA s so else if k=5 then aEy s (.mk k n x so ks rs) else true)
def fitsPL (s:cI):List LTerm→Bool
 | []=>true
 | k::l=>pR s k && fitsPL s l
end
theorem Z1 {s:cI}:∀ l,fitsPL s l=l.all (pR s)
 | []=>rfl
 | k::l=>by rw [fitsPL,Z1 l]; rfl
theorem aFz (s:cI) (t:LTerm):pR s t=(t.kids.all (pR s) && (if t.kind=6 then existsA s t.sort else if t.kind=5 then aEy s t else true)):=by
 cases t; rw [pR,Z1]; rfl
theorem aWv (s:cI) (t:LTerm) (hs:Small s) (ht:OkT t) (ih:∀ k ∈ t.kids,CT 125 [dD s,elT k] (.b (pR s k))): CT 125 [dD s,elT t] (.b (pR s t)):=by
 refine aE mixed Tryz.func125 g0 ?_
 · skip
   have e:=aFz s t
   have hk1:=ht.kids
   have c1:=aQm s t.text
   obtain ⟨⟨q,fn,ok⟩,hq⟩:∃ p,called s t.text=p:=⟨_,rfl⟩
   simp only [aEy,hq] at e
   rw [hq] at c1
   (refine zs0 ?_; repeat' first | exact trivial | refine zJ ?_ ?_ | refine zH fun hc=>?_)
   refine fJ (fun (k:Nat)=>[.k,.k,.k,.k,.j,.k,.j,.k,.k,.k,.k,.k,.k,.k,.k,.v (.i .i64 (k:Nat)),.j,.j,.j,.j,.j,.j,.j,.j,.k,.k,.k,.k,.k,.k,.k,.k,.k,.k,.k,.k,.k,.k,.k,.k,.k,.k,.k,.k,.k,.k,.k,.k,.k,.k,.k,.k,.k,.k,.k,.k,.k,.k,.k,.k,.k,.k,.k,.k,.k,.k,.k,.k,.k,.k,.k,.k,.k]) (fun k=>[.box false [.i .i64 (t).kind,.i .i64 (t).n,.s (t).text,.s (t).sort,.sl ((t).kids.flatMap aA) (t).kids.length,.sl ((t).rest.flatMap aA) (t).rest.length]]) (fun k=>k≤t.kids.length∧∀ j,j < k→pR s (t.kids.getD j default)=true) (fun k=>t.kids.length - k) (0) _ ⟨aF _,fun j h=>by omega⟩ rfl (by simp [fD]) ?_
   rintro k g j ⟨hk,ha⟩
   have o:k < t.kids.length→CT 125 [dD s,elT (t.kids.getD k default)] (.b (pR s (t.kids.getD k default))):=fun h=>ih _ (bE h)
   refine zg ?_
   (repeat' (first | refine gT ?_ ?_ | refine gF ?_ ?_ | refine gC ?_ ?_ | ((first | (refine aY ((o (by omega))) ?_ ?_; (focus (simp -implicitDefEqProofs (disch:=omega) only [rF,dD,zdB,go_sem,simprocAttr]; done))) | (refine aY (O8 s t.sort) ?_ ?_; (focus (simp -implicitDefEqProofs (disch:=omega) only [rF,dD,zdB,go_sem,simprocAttr]; done))) | (refine aY (c1) ?_ ?_; (focus (simp -implicitDefEqProofs (disch:=omega) only [rF,dD,zdB,go_sem,simprocAttr]; done)))); simp -implicitDefEqProofs (disch:=omega) only [rF,dD,go_sem,simprocAttr]) | refine aK (by omega) ?_ | (intro hr; have hc:=hr; (try simp only [zdz] at hc); simp -implicitDefEqProofs (disch:=omega) only [hr,rF,dD,go_sem,simprocAttr]; (try clear hr))))
   all_goals first
     | exact aG (by rw [e,wG k (by omega) hc,Bool.false_and]) rfl
     | exact ⟨k+1,_,⟨by omega,bK ha hc⟩,by omega,rfl,by simp⟩
     | skip
   all_goals rw [oJ (fun j hj=>ha j (by omega)),Bool.true_and] at e
   all_goals first
     | (exfalso; omega)
     | exact aG (by rw [e,if_pos (by assumption)]) rfl
     | exact aG (by rw [e,if_neg (by assumption),if_neg (by assumption)]) rfl
     | exact aG (by rw [e,if_neg (by assumption),if_pos (by omega),show ok=false from hc,Bool.false_and]) rfl
     | exact aG (by rw [e,if_neg (by assumption),if_pos (by omega),zf (by omega:¬ q.args.length=t.kids.length),Bool.false_and,Bool.and_false]) rfl
     | skip
   have hn:q.args.length=t.kids.length:=by omega
   have hok:ok=true:=by assumption
   rw [if_neg (by assumption),if_pos (by omega),zt hn,Bool.true_and,hok,Bool.true_and] at e
   refine fJ (fun (k:Nat)=>[.k,.k,.k,.k,.j,.k,.k,.k,.k,.k,.j,.j,.k,.k,.k,.k,.k,.k,.k,.k,.k,.k,.k,.k,.k,.k,.k,.k,.k,.k,.k,.k,.k,.k,.k,.k,.k,.k,.k,.k,.k,.k,.k,.k,.k,.k,.k,.k,.k,.k,.k,.k,.k,.k,.k,.k,.v (.i .i64 (k:Nat)),.j,.j,.j,.j,.j,.j,.j,.j,.j,.j,.j,.j,.j,.j,.j,.j]) (fun k=>(.box false [.i .i64 (t).kind,.i .i64 (t).n,.s (t).text,.s (t).sort,.sl ((t).kids.flatMap aA) (t).kids.length,.sl ((t).rest.flatMap aA) (t).rest.length]::(g++[.box false (aI q)]))) (fun k=>k≤t.kids.length∧∀ j,j < k→aOg s (iL s (t.kids.getD j default)) (q.args.getD j [])=true) (fun k=>t.kids.length - k) (0) [] ⟨aF _,fun j h=>by omega⟩ (by simp [avs,avb,avi,avo,aI,bB]) (by simp [fD]) ?_
   rintro kk g2 j2 ⟨hkk,ha2⟩
   refine zg ?_
   (refine zt2 (aQo s (t.kids.getD kk default)) (bSt s (iL s (t.kids.getD kk default)) (q.args.getD kk []) hs) ?_; repeat' first | exact trivial | refine zJ ?_ ?_ | refine zH fun hc=>?_)
   all_goals first
     | exact aG (by rw [e,gW kk (by omega) hc]) rfl
     | exact ⟨kk+1,_,⟨by omega,bK ha2 hc⟩,by omega,rfl,by simp⟩
     | exact aG (by rw [e,kL (fun j hj=>ha2 j (by omega))]) rfl
     | (exfalso; omega)
theorem bLy (s:cI) (hs:Small s):∀ (t:LTerm),OkT t→CT 125 [dD s,elT t] (.b (pR s t)):=
 dK fun t hk _ ht=>aWv s t hs ht (fun k hm=>hk k hm (ht.kid k hm))
theorem bAe (s:cI) (t:LTerm) (hm:Small s) (hs:OkS s) (ht:OkT t): CT 58 [.agg (bB s),elT t] (.b (eN s && fY s t)):=by
 refine aE mixed Tryz.func58 g0 ?_
 · skip
   have c2:=aQr s hm hs
   rcases gM (eN s) with h2 | h2
   · rw [h2] at c2
     (refine zt3 c2 (aJs s hm (jP h2)) (aQq s t hm ht) ?_; repeat' first | exact trivial | refine zJ ?_ ?_ | refine zH fun hc=>?_)
     all_goals exact aG (by rw [h2]; rfl) rfl
   · rw [h2] at c2
     (refine zt1 c2 ?_; repeat' first | exact trivial | refine zJ ?_ ?_ | refine zH fun hc=>?_)
     all_goals exact aG (by rw [h2]; rfl) rfl

def PtR (x y:AObj) (b:Bool) (h:List AObj):Prop:=∃ g,h=x::y::.box false [.b b]::g
theorem bQd (x y:AObj):bGx 129 [.ptr 2 0] 3 (PtR x y) aUm bPu:=by
 refine ⟨?_,?_,?_⟩
 · rintro b h z ⟨g,rfl⟩; exact ⟨g++z,rfl⟩
 · rintro b h ⟨g,rfl⟩; simp
 · rintro b ⟨t,d⟩ l h hP ho ⟨g,rfl⟩
   have hb:=hP (t,d) (by simp)
   refine ⟨hb,fun v hv=>hP v (by simp [hv]),?_⟩
   refine (bXe t d b x y g ho (by have:=hb.2.2; dsimp only at this; omega)).mono ?_
   rintro r h' ⟨rfl,z,rfl⟩
   exact ⟨rfl,⟨g++z,rfl⟩,Y2⟩
def bDb (s:cI) (t:LTerm):Bool:=gD cP t && (pR s t && (!xL (aJi s) false (vis t 1) && xL aUm (decide ((rO t).2=[])) (vis t 1)))
theorem bLh (s:cI) (t:LTerm) (hs:Small s) (ht:OkT t): CT 76 [dD s,elT t] (.b (bDb s t)):=by
 refine aE mixed Tryz.func76 g0 ?_
 · skip
   have c1:=aQp t ht
   have c2:=bLy s hs t ht
   rcases gM (gD cP t) with hv | hv
   · have c3:=bKz s t ht hv
     have c4:=bKy t ht hv
     rw [hv] at c1
     rw [bDb,hv,Bool.true_and]
     rcases gM (pR s t) with hf | hf
     · rw [hf] at c2
       rw [hf,Bool.true_and]
       rcases gM (xL (aJi s) false (vis t 1)) with hn | hn
       · rw [hn] at c3
         (refine zt3 c1 c2 c3 ?_; repeat' first | exact trivial | refine zJ ?_ ?_ | refine zH fun hc=>?_)
         all_goals exact aG (by rw [hn]; rfl) rfl
       · rw [hn] at c3
         rw [hn,Bool.not_false,Bool.true_and]
         generalize rO t=sv at *
         refine zh @gE ?_
         (repeat' (first | refine gT ?_ ?_ | refine gF ?_ ?_ | refine gC ?_ ?_ | ((first | (refine aY (c1) ?_ ?_; (focus (simp -implicitDefEqProofs (disch:=omega) only [gE,aVb,zdB,go_sem,↓reduceIte,reduceAdd,reduceSub,reduceMul,reduceLeDiff,reduceLT,reduceEqDiff,reduceNeg,Nat.reduceBEq]; done))) | (refine aY (c2) ?_ ?_; (focus (simp -implicitDefEqProofs (disch:=omega) only [gE,aVb,zdB,go_sem,↓reduceIte,reduceAdd,reduceSub,reduceMul,reduceLeDiff,reduceLT,reduceEqDiff,reduceNeg,Nat.reduceBEq]; done))) | (refine aY (c3) ?_ ?_; (focus (simp -implicitDefEqProofs (disch:=omega) only [gE,aVb,zdB,go_sem,↓reduceIte,reduceAdd,reduceSub,reduceMul,reduceLeDiff,reduceLT,reduceEqDiff,reduceNeg,Nat.reduceBEq]; done))) | (refine aY (c4) ?_ ?_; (focus (simp -implicitDefEqProofs (disch:=omega) only [gE,aVb,zdB,go_sem,↓reduceIte,reduceAdd,reduceSub,reduceMul,reduceLeDiff,reduceLT,reduceEqDiff,reduceNeg,Nat.reduceBEq]; done)))); simp -implicitDefEqProofs (disch:=omega) only [gE,aVb,go_sem,↓reduceIte,reduceAdd,reduceSub,reduceMul,reduceLeDiff,reduceLT,reduceEqDiff,reduceNeg,Nat.reduceBEq]) | refine aK (by omega) ?_ | (intro hr; have hc:=hr; (try simp only [zdz] at hc); simp -implicitDefEqProofs (disch:=omega) only [hr,gE,aVb,go_sem,↓reduceIte,reduceAdd,reduceSub,reduceMul,reduceLeDiff,reduceLT,reduceEqDiff,reduceNeg,Nat.reduceBEq]; (try clear hr))))
         have cw:=fun (b:Bool)=>bBn (bQd (.box false [.i .i64 (t).kind,.i .i64 (t).n,.s (t).text,.s (t).sort,.sl ((t).kids.flatMap aA) (t).kids.length,.sl ((t).rest.flatMap aA) (t).rest.length]) (.arr true 6 [.i .i64 (t).kind,.i .i64 (t).n,.s (t).text,.s (t).sort,.sl ((t).kids.flatMap aA) (t).kids.length,.sl ((t).rest.flatMap aA) (t).rest.length])) (fun a=>⟨_,[],rfl⟩) t ht 1 b [] _ ⟨[],rfl⟩ (aKy (a:=false) hv)
         simp only [elT,aW,avt] at cw
         refine eZ (cw _) ?_
         rintro r h' ⟨rfl,⟨g,rfl⟩,_⟩
         refine zg ?_
         exact aG rfl rfl
     · rw [hf] at c2
       (refine zt2 c1 c2 ?_; repeat' first | exact trivial | refine zJ ?_ ?_ | refine zH fun hc=>?_)
       all_goals exact aG (by rw [hf]; rfl) rfl
   · rw [hv] at c1
     (refine zt1 c1 ?_; repeat' first | exact trivial | refine zJ ?_ ?_ | refine zH fun hc=>?_)
     all_goals exact aG (by rw [bDb,hv]; rfl) rfl

theorem aRx {l:List LTerm} {f:LTerm→Bool} {k:Nat} (hk:k < l.length) (h:f (l.getD k default)=true):l.any f=true:=uD.2 ⟨_,bE hk,h⟩
theorem aRw {l:List LTerm} {f:LTerm→Bool} (h:∀ j,j < l.length→f (l.getD j default)=false):l.any f=false:=by
 rw [mP]
 intro x hx
 obtain ⟨j,hj,rfl⟩:=bV.1 hx
 have:=h j hj
 simpa [List.getD,hj] using this
theorem lG {f:Nat→Bool} {k:Nat} (h:∀ j,j < k→f j=false) (hk:f k=false):∀ j,j < k+1→f j=false:=fun j hj=>by
 rcases oX.1 hj with h1 | rfl
 · exact h j h1
 · exact hk
theorem aWo (s:cI) (t:LTerm) (hm:Small s) (ht:OkT t) (ih:∀ k ∈ t.kids,CT 133 [.agg (bB s),elT k] (.b (pO s k))): CT 133 [.agg (bB s),elT t] (.b (pO s t)):=by
 refine aE mixed Tryz.func133 g0 ?_
 · skip
   have e:=aFs s t
   have hk1:=ht.kids
   have c1:=aGt s.ops t.text (by have:=hm.ops; omega)
   have o:∀ k,k < t.kids.length→CT 133 [.agg (bB s),elT (t.kids.getD k default)] (.b (pO s (t.kids.getD k default))):=fun k h=>ih _ (bE h)
   by_cases h5:t.kind=5
   · cases hf:s.ops.find? fun o=>decide (o.name=t.text) with
     | none=>
       rw [hf] at c1 e
       refine zh (zt h5) ?_
       (repeat' (first | refine gT ?_ ?_ | refine gF ?_ ?_ | refine gC ?_ ?_ | ((refine aY (c1) ?_ ?_; (focus (simp -implicitDefEqProofs (disch:=omega) only [zt h5,gR,zdB,go_sem,simprocAttr]; done))); simp -implicitDefEqProofs (disch:=omega) only [zt h5,gR,go_sem,simprocAttr]) | refine aK (by omega) ?_ | (intro hr; have hc:=hr; (try simp only [zdz] at hc); simp -implicitDefEqProofs (disch:=omega) only [hr,zt h5,gR,go_sem,simprocAttr]; (try clear hr))))
       all_goals exact aG (by rw [e,zt h5]; rfl) rfl
     | some q=>
       rw [hf] at c1 e
       rw [iG,Bool.and_false,cO] at e
       refine zh (zt h5) ?_
       (repeat' (first | refine gT ?_ ?_ | refine gF ?_ ?_ | refine gC ?_ ?_ | ((refine aY (c1) ?_ ?_; (focus (simp -implicitDefEqProofs (disch:=omega) only [zt h5,gR,zdB,go_sem,simprocAttr]; done))); simp -implicitDefEqProofs (disch:=omega) only [zt h5,gR,go_sem,simprocAttr]) | refine aK (by omega) ?_ | (intro hr; have hc:=hr; (try simp only [zdz] at hc); simp -implicitDefEqProofs (disch:=omega) only [hr,zt h5,gR,go_sem,simprocAttr]; (try clear hr))))
       refine fJ (fun (k:Nat)=>[.k,.k,.k,.k,.j,.k,.k,.k,.j,.k,.k,.k,.k,.k,.k,.k,.k,.k,.k,.k,.k,.k,.k,.k,.k,.v (.i .i64 (k:Nat)),.j,.j,.j,.j,.j,.j,.j]) (fun k=>[.box false (bB s),.box false [.i .i64 (t).kind,.i .i64 (t).n,.s (t).text,.s (t).sort,.sl ((t).kids.flatMap aA) (t).kids.length,.sl ((t).rest.flatMap aA) (t).rest.length]]) (fun k=>k≤t.kids.length∧∀ j,j < k→pO s (t.kids.getD j default)=false) (fun k=>t.kids.length - k) (0) _ ⟨aF _,fun j h=>by omega⟩ rfl (by simp [fD]) ?_
       rintro k g j ⟨hk,ha⟩
       refine zg ?_
       (refine zt1 (o k) ?_; repeat' first | exact trivial | refine zJ ?_ ?_ | refine zH fun hc=>?_)
       all_goals first
         | exact aG (by rw [e,aRx (by omega) hc]) rfl
         | exact ⟨k+1,_,⟨by omega,lG ha hc⟩,by omega,rfl,by simp⟩
         | exact aG (by rw [e,aRw (fun j hj=>ha j (by omega))]) rfl
         | (exfalso; omega)
   · rw [zf h5,Bool.false_and,cO] at e
     refine zh (zf h5) ?_
     (refine zx0 (zf h5) ?_; repeat' first | exact trivial | refine zJ ?_ ?_ | refine zH fun hc=>?_)
     refine fJ (fun (k:Nat)=>[.k,.k,.k,.k,.j,.k,.k,.k,.j,.k,.k,.k,.k,.k,.k,.k,.k,.k,.k,.k,.k,.k,.k,.k,.k,.v (.i .i64 (k:Nat)),.j,.j,.j,.j,.j,.j,.j]) (fun k=>[.box false (bB s),.box false [.i .i64 (t).kind,.i .i64 (t).n,.s (t).text,.s (t).sort,.sl ((t).kids.flatMap aA) (t).kids.length,.sl ((t).rest.flatMap aA) (t).rest.length]]) (fun k=>k≤t.kids.length∧∀ j,j < k→pO s (t.kids.getD j default)=false) (fun k=>t.kids.length - k) (0) _ ⟨aF _,fun j h=>by omega⟩ rfl (by simp [fD]) ?_
     rintro k g j ⟨hk,ha⟩
     refine zg ?_
     (refine zt1 (o k) ?_; repeat' first | exact trivial | refine zJ ?_ ?_ | refine zH fun hc=>?_)
     all_goals first
       | exact aG (by rw [e,aRx (by omega) hc]) rfl
       | exact ⟨k+1,_,⟨by omega,lG ha hc⟩,by omega,rfl,by simp⟩
       | exact aG (by rw [e,aRw (fun j hj=>ha j (by omega))]) rfl
       | (exfalso; omega)
theorem bAc (s:cI) (hm:Small s):∀ (t:LTerm),OkT t→CT 133 [.agg (bB s),elT t] (.b (pO s t)):=
 dK fun t hk _ ht=>aWo s t hm ht (fun k hmm=>hk k hmm (ht.kid k hmm))
theorem aWn (t:LTerm) (ht:OkT t) (ih:∀ k ∈ t.kids,CT 134 [elT k] (.b (pM k))): CT 134 [elT t] (.b (pM t)):=by
 refine aE mixed Tryz.func134 g0 ?_
 · skip
   have e:=aFq t
   obtain ⟨b8,hb8⟩:∃ b,decide (t.kind=8)=b:=⟨_,rfl⟩
   rw [hb8] at e
   have hk1:=ht.kids
   have o:∀ k,k < t.kids.length→CT 134 [elT (t.kids.getD k default)] (.b (pM (t.kids.getD k default))):=fun k h=>ih _ (bE h)
   have q:∀ k,k < t.kids.length→OkT (t.kids.getD k default):=fun k h=>ht.kid _ (bE h)
   (refine zs0 ?_; repeat' first | exact trivial | refine zJ ?_ ?_ | refine zH fun hc=>?_)
   refine fJ (fun (k:Nat)=>[.k,.k,.j,.j,.j,.k,.k,.k,.v (.i .i64 (k:Nat)),.j,.j,.j,.j,.j,.j,.j,.j,.j,.j,.j,.j,.j,.j,.j,.j,.j,.j,.j,.j,.j,.j,.j,.j,.j,.j,.j,.j,.j,.j,.j,.j]) (fun k=>[.box false [.i .i64 (t).kind,.i .i64 (t).n,.s (t).text,.s (t).sort,.sl ((t).kids.flatMap aA) (t).kids.length,.sl ((t).rest.flatMap aA) (t).rest.length]]) (fun k=>k≤t.kids.length∧∀ j,j < k→(pM (t.kids.getD j default) && aZq b8 j (t.kids.getD j default))=true) (fun k=>t.kids.length - k) (0) _ ⟨aF _,fun j h=>by omega⟩ rfl (by simp [fD]) ?_
   rintro k g j ⟨hk,ha⟩
   have hmod:((k:Nat):Int).tmod 2=((k % 2:Nat):Int):=rfl
   refine zh hmod ?_
   (repeat' (first | refine gT ?_ ?_ | refine gF ?_ ?_ | refine gC ?_ ?_ | ((first | (refine aY ((o k (by omega))) ?_ ?_; (focus (simp -implicitDefEqProofs (disch:=omega) only [hmod,Int.reduceEq,zdB,go_sem,simprocAttr]; done))) | refine cF (bAr (t.kids.getD k default)) ?_ | refine cF (O9 (t.kids.getD k default).text (q k (by omega)).text) ?_); simp -implicitDefEqProofs (disch:=omega) only [hmod,Int.reduceEq,go_sem,simprocAttr]) | refine aK (by omega) ?_ | (intro hr; have hc:=hr; (try simp only [zdz] at hc); simp -implicitDefEqProofs (disch:=omega) only [hr,hmod,Int.reduceEq,go_sem,simprocAttr]; (try clear hr))))
   all_goals try simp only [Int.natCast_eq_zero] at *
   all_goals first
     | exact aG (by rw [e,gW k (by omega) (by simp_all [aZq])]) rfl
     | exact ⟨k+1,_,⟨by omega,bK ha (by simp_all [aZq])⟩,by omega,rfl,by simp⟩
     | exact aG (by rw [e,kL (fun j hj=>ha j (by omega))]) rfl
theorem bAb:∀ (t:LTerm),OkT t→CT 134 [elT t] (.b (pM t)):=
 dK fun t hk _ ht=>aWn t ht (fun k hmm=>hk k hmm (ht.kid k hmm))

theorem zO:∀ (t:LTerm) (d e:Int),(vis t d).map (·.1)=(vis t e).map (·.1):=
 dK (Q:=fun t=>∀ d e:Int,(vis t d).map (·.1)=(vis t e).map (·.1)) fun t hk hr d e=>by
   have L:∀ (l:List LTerm) (d e:Int),(∀ k ∈ l,∀ d e:Int,(vis k d).map (·.1)=(vis k e).map (·.1))→(visL l d).map (·.1)=(visL l e).map (·.1):=by
     intro l
     induction l with
     | nil=>intro d e _; rfl
     | cons x l ih=>intro d e h; rw [visL,visL,aV,aV,h x (by simp) d e,ih d e (fun k hk=>h k (by simp [hk]))]
   rw [mT,mT,aZ,aZ,L (t.kids++t.rest) (d+1) (e+1) fun k hm=>by
     rcases bC.1 hm with hm | hm
     · exact hk k hm
     · exact hr k hm]
def tJ (l:List LTerm) (t:LTerm):List LTerm:=(G4 t).foldl zE l
theorem aSg (l:List LTerm) (t:LTerm):tJ l t=t.rest.foldl tJ (t.kids.foldl tJ (if isV t=true then zE l t else l)):=by
 have L:∀ (ks:List LTerm) (d:Int) (l:List LTerm),(((visL ks d).map (·.1)).filter isV).foldl zE l=ks.foldl tJ l:=by
   intro ks
   induction ks with
   | nil=>intro d l; rfl
   | cons x ks ih=>
     intro d l
     rw [visL,aV,zK,mO,ih,iW,tJ,G4,zO x d 1]
 rw [tJ,G4,mT,jZ,aZ,aV,fV]
 split
 · rw [iW,zK,mO,L,L]
 · rw [zK,mO,L,L]
def nL (t:LTerm):Prop:=∀ v ∈ vis t 1,(v.1.kind=6→v.1.kids=[]∧v.1.rest=[])∧v.1.kids.length+v.1.rest.length≤1000000
theorem nL.at {t:LTerm} (h:nL t):(t.kind=6→t.kids=[]∧t.rest=[])∧t.kids.length+t.rest.length≤1000000:=h (t,1) (by rw [mT]; simp)
theorem nL.kid {t k:LTerm} (h:nL t) (hk:k ∈ t.kids++t.rest):nL k:=by
 intro v hv
 have L:∀ (l:List LTerm) (d:Int),k ∈ l→∃ w ∈ visL l d,w.1=v.1:=by
   intro l
   induction l with
   | nil=>intro d h; cases h
   | cons x l ih=>
     intro d h
     rw [visL]
     rcases cD.1 h with rfl | h
     · have hm:v.1 ∈ (vis k d).map (·.1):=by rw [zO k d 1]; exact dQ.2 ⟨v,hv,rfl⟩
       obtain ⟨w,hw,he⟩:=dQ.1 hm
       exact ⟨w,cM _ hw,he⟩
     · obtain ⟨w,hw,he⟩:=ih d h
       exact ⟨w,cX _ hw,he⟩
 obtain ⟨w,hw,he⟩:=L (t.kids++t.rest) 2 hk
 rw [← he]
 exact h w (by rw [mT]; exact jV _ hw)
theorem mI (t:LTerm) (d e:Int):(vis t d).length=(vis t e).length:=by
 have:=congrArg List.length (zO t d e); simpa using this
theorem aYe {l:List LTerm} {t:LTerm}:(zE l t).length≤l.length+1:=by unfold zE; split <;> simp
abbrev SoK (l':List LTerm) (h:List AObj):AV→List AObj→Prop:=fun r h'=>eP 6 0 h' r (l'.flatMap aA) l'.length∧lI 0 h h'
theorem so1 (t:LTerm) (l:List LTerm) (out:AV) (h:List AObj) (ht:OkT t) (hol:∀ x ∈ l,OkT x) (hl:l.length≤1000000) (h6:t.kind=6) (h95:¬ t.text=[95]) (ho:eP 6 0 h out (l.flatMap aA) l.length): ACalls Tryz.prog G0 135 [out,elT t] h (SoK (zE l t) h):=by
 refine cY (rx:=false) (th:=fun _=>none) mixed Tryz.func135 ?_
 · simp -implicitDefEqProofs (disch:=omega) only [Tryz.f135,go_sem,List.replicate,↓reduceIte,reduceAdd,reduceSub,reduceMul,reduceLeDiff,reduceLT,reduceEqDiff,reduceNeg,Nat.reduceBEq]
   have hk0:∀ m:List AObj,lI 0 h (h++m):=fun m=>.app _ _ _
   rcases ho with ⟨rfl,hc,hn⟩ | ⟨i,rfl,hi,hil⟩
   · obtain rfl:l=[]:=List.length_eq_zero_iff.1 hn
     have e:zE ([]:List LTerm) t=[t]:=by simp [zE]
     rw [e]
     refine zh (zA2 (zt h6) (zf h95)) ?_
     (refine zx0 (zA2 (zt h6) (zf h95)) ?_; repeat' first | exact trivial | refine zJ ?_ ?_ | refine zH fun hc=>?_)
     refine bQ (fun (s:Nat)=>[.k,.k,.k,.k,.j,.k,.j,.k,.k,.k,.k,.k,.k,.k,.k,.k,.k,.k,.k,.k,.k,.v (.i .i64 (0:Int)),.j,.j,.j,.j,.j,.j,.j,.j,.k,.k,.k,.k,.k,.k,.k,.k,.k,.k,.k,.k,.k,.k,.k,.k,.k,.k,.k,.k,.k,.k,.k,.k,.k,.k,.k]) (fun s=>(h++[.box false [.i .i64 (t).kind,.i .i64 (t).n,.s (t).text,.s (t).sort,.sl ((t).kids.flatMap aA) (t).kids.length,.sl ((t).rest.flatMap aA) (t).rest.length]])) (fun s=>True) (fun s=>s) (0) trivial rfl (by simp [fD]) ?_
     rintro s j _
     simp -implicitDefEqProofs (disch:=omega) only [go_sem,↓reduceIte,reduceAdd,reduceSub,reduceMul,reduceLeDiff,reduceLT,reduceEqDiff,reduceNeg,Nat.reduceBEq]
     (repeat' (first | refine gT ?_ ?_ | refine gF ?_ ?_ | refine gC ?_ ?_ | refine aK (by omega) ?_ | (intro hr; have hc:=hr; (try simp only [zdz] at hc); simp -implicitDefEqProofs (disch:=omega) only [hr,gE,go_sem,↓reduceIte,reduceAdd,reduceSub,reduceMul,reduceLeDiff,reduceLT,reduceEqDiff,reduceNeg,Nat.reduceBEq]; (try clear hr))))
     all_goals first
       | (exfalso; omega)
       | exact ⟨.inr ⟨h.length+2,rfl,by simp [aW,avt],by simp [aW]⟩,hk0 _⟩
   · have hi2:∀ m:List AObj,(h++m)[i]? = some (.arr false 6 (l.flatMap aA)):=fun m=>by rw [aD (aO hi)]; exact hi
     refine zh (zA2 (zt h6) (zA2 (zf h95) hi2)) ?_
     (refine zx0 (zA2 (zt h6) (zA2 (zf h95) hi2)) ?_; repeat' first | exact trivial | refine zJ ?_ ?_ | refine zH fun hc=>?_)
     refine bQ (fun (s:Nat × List AObj)=>[.k,.k,.k,.k,.j,.k,.j,.k,.k,.k,.k,.k,.k,.k,.k,.k,.k,.k,.k,.k,.k,.v (.i .i64 (s.1:Nat)),.j,.j,.j,.j,.j,.j,.j,.j,.k,.k,.k,.k,.k,.k,.k,.k,.k,.k,.k,.k,.k,.k,.k,.k,.k,.k,.k,.k,.k,.k,.k,.k,.k,.k,.k]) (fun s=>(h++(.box false [.i .i64 (t).kind,.i .i64 (t).n,.s (t).text,.s (t).sort,.sl ((t).kids.flatMap aA) (t).kids.length,.sl ((t).rest.flatMap aA) (t).rest.length]::s.2))) (fun s=>s.1≤l.length∧∀ j,j < s.1→¬ l.getD j default=t) (fun s=>l.length - s.1) ((0,[])) ⟨aF _,fun j h=>by omega⟩ rfl (by simp [fD]) ?_
     rintro ⟨k,z⟩ j ⟨hk,ha⟩
     dsimp only at hk ha
     by_cases hlt:k < l.length
     · have hki:(k:Int) < ((l.length:Nat):Int):=by omega
       have cs:=aGs (l.getD k default) t (hol _ (bE hlt)) ht
       refine zh (zA2 (zt hki) hi2) ?_
       (refine zy1 (zA2 (zt hki) hi2) cs ?_; repeat' first | exact trivial | refine zJ ?_ ?_ | refine zH fun hc=>?_)
       all_goals first
         | exact ⟨(k+1,z++[.box false [.i .i64 (l.getD k default).kind,.i .i64 (l.getD k default).n,.s (l.getD k default).text,.s (l.getD k default).sort,.sl ((l.getD k default).kids.flatMap aA) (l.getD k default).kids.length,.sl ((l.getD k default).rest.flatMap aA) (l.getD k default).rest.length]]),⟨by dsimp only; omega,fun j hj=>(by rcases oX.1 hj with h1 | rfl; exact ha j h1; exact hc)⟩,by dsimp only; omega,by simp,by simp⟩
         | skip
       have e:zE l t=l:=by unfold zE; rw [if_pos (hc ▸ bE hlt)]
       rw [e]
       exact ⟨.inr ⟨i,rfl,hi2 _,hil⟩,hk0 _⟩
     · have hki:¬ (k:Int) < ((l.length:Nat):Int):=by omega
       have hb1:(l.length+1) * 96≤140737488355328:=by omega
       have hb2:l.length≤140737488355327:=by omega
       have hlt2:=aO hi
       have hkl:k=l.length:=by omega
       have e:zE l t=l++[t]:=by
         unfold zE
         rw [if_neg]
         intro hm
         obtain ⟨j,hj,he⟩:=bV.1 hm
         exact ha j (by omega) (by simp [List.getD,hj,he])
       rw [e]
       simp -implicitDefEqProofs (disch:=omega) only [zf hki,hi2,gE,hil,hb1,hb2,bA,true_and,and_true,go_sem,↓reduceIte,reduceAdd,reduceSub,reduceMul,reduceLeDiff,reduceLT,reduceEqDiff,reduceNeg,Nat.reduceBEq]
       refine ⟨.inr ⟨h.length+(z.length+1+1),by simp,?_,?_⟩,fun i' y _ hy=>?_⟩
       · rw [aH (by simp)]; simp [aW,avt]
       · simp [aW,hil]; omega
       · have hne:i ≠ i':=by rintro rfl; rw [hi] at hy; cases hy
         have hl':=aO hy
         rw [aD (by simp; omega),dC hne,aD hl']; exact hy
theorem sO {α β:Type} {f:α→β→α} {a:α} {l:List β} {k:Nat} {d:β} (h:k < l.length):(l.take (k+1)).foldl f a=f ((l.take k).foldl f a) (l.getD k d):=by
 rw [rH h,mO]; simp [List.getD,h]
theorem wI {l:List LTerm} {t:LTerm}:(tJ l t).length≤l.length+(vis t 1).length:=by
 have L:∀ (m:List LTerm) (l:List LTerm),(m.foldl zE l).length≤l.length+m.length:=by
   intro m
   induction m with
   | nil=>intro l; simp
   | cons x m ih=>intro l; have:=ih (zE l x); have:=aYe (l:=l) (t:=x); simp only [iW,aL]; omega
 have:=L (G4 t) l
 have h2:(G4 t).length≤(vis t 1).length:=by
   have:=List.length_filter_le isV ((vis t 1).map (·.1))
   simpa [G4] using this
 unfold tJ; omega
theorem Q2 {l:List LTerm} {t:LTerm} (hl:∀ x ∈ l,OkT x) (ht:OkT t):∀ x ∈ tJ l t,OkT x:=by
 have L:∀ (m l:List LTerm),(∀ x ∈ l,OkT x)→(∀ x ∈ m,OkT x)→∀ x ∈ m.foldl zE l,OkT x:=by
   intro m
   induction m with
   | nil=>intro l h _; exact h
   | cons y m ih=>
     intro l h hm
     refine ih _ (fun x hx=>?_) (fun x hx=>hm x (by simp [hx]))
     unfold zE at hx
     split at hx
     · exact h x hx
     · rcases bC.1 hx with hx | hx
       · exact h x hx
       · rw [aU] at hx; rw [hx]; exact hm y (by simp)
 refine L _ _ hl fun x hx=>?_
 have hx:=(qV.1 hx).1
 obtain ⟨v,hv,rfl⟩:=dQ.1 hx
 exact aYt t ht 1 v hv
theorem so2 (t:LTerm) (l:List LTerm) (out:AV) (h:List AObj) (ht:OkT t) (hol:∀ x ∈ l,OkT x) (hvl:nL t) (hl:l.length+(vis t 1).length≤1000000) (hnv:isV t=false) (ho:eP 6 0 h out (l.flatMap aA) l.length) (ih:∀ k ∈ t.kids++t.rest,∀ (l:List LTerm) (out:AV) (h:List AObj),(∀ x ∈ l,OkT x)→l.length+(vis k 1).length≤1000000→eP 6 0 h out (l.flatMap aA) l.length→ACalls Tryz.prog G0 135 [out,elT k] h (SoK (tJ l k) h)): ACalls Tryz.prog G0 135 [out,elT t] h (SoK (tJ l t) h):=by
 refine cY (rx:=false) (th:=fun _=>none) mixed Tryz.func135 ?_
 · simp -implicitDefEqProofs (disch:=omega) only [Tryz.f135,go_sem,List.replicate,↓reduceIte,reduceAdd,reduceSub,reduceMul,reduceLeDiff,reduceLT,reduceEqDiff,reduceNeg,Nat.reduceBEq]
   have e:=aSg l t
   rw [hnv,if_neg (by simp)] at e
   have hk:=hvl.at.2
   have hcond:(decide (t.kind=6) && !decide (t.text=[95]))=false:=hnv
   rw [mT,aL,jZ,List.length_append,show (1:Int)+1=2 from rfl] at hl
   by_cases h6:t.kind=6
   · have h95:t.text=[95]:=by simpa [h6] using hcond
     refine zh (zA2 (zt h6) (zt h95)) ?_
     (refine zx0 (zA2 (zt h6) (zt h95)) ?_; repeat' first | exact trivial | refine zJ ?_ ?_ | refine zH fun hc=>?_)
     refine bQ (fun (s:Nat × List LTerm × AV × List AObj)=>[.v (s.2.2.1),.k,.k,.k,.k,.k,.k,.k,.j,.k,.k,.k,.k,.k,.k,.k,.k,.k,.k,.k,.k,.k,.k,.k,.k,.k,.k,.k,.k,.k,.k,.k,.k,.k,.k,.k,.k,.v (.i .i64 (s.1:Nat)),.j,.j,.j,.j,.j,.j,.j,.k,.k,.k,.k,.k,.k,.k,.k,.k,.k,.k,.k]) (fun s=>s.2.2.2) (fun s=>s.1≤t.kids.length∧(∀ x ∈ s.2.1,OkT x)∧s.2.1.length+(visL (t.kids.drop s.1) 2).length+(visL t.rest 2).length≤1000000∧s.2.1=(t.kids.take s.1).foldl tJ l∧eP 6 0 s.2.2.2 s.2.2.1 (s.2.1.flatMap aA) s.2.1.length∧lI 0 (h++[.box false [.i .i64 (t).kind,.i .i64 (t).n,.s (t).text,.s (t).sort,.sl ((t).kids.flatMap aA) (t).kids.length,.sl ((t).rest.flatMap aA) (t).rest.length]]) s.2.2.2) (fun s=>t.kids.length - s.1) ((0,l,out,h++[.box false [.i .i64 (t).kind,.i .i64 (t).n,.s (t).text,.s (t).sort,.sl ((t).kids.flatMap aA) (t).kids.length,.sl ((t).rest.flatMap aA) (t).rest.length]])) ⟨aF _,hol,(by rw [cS]; dsimp only; omega),rfl,ho.more _,.refl _ _⟩ rfl (by simp [fD]) ?_
     rintro ⟨k,l2,out2,H⟩ j ⟨hkl,ho2,hb2,he2,hi2,hs2⟩
     dsimp only at hkl ho2 hb2 he2 hi2 hs2
     by_cases hlt:k < t.kids.length
     · have hki:(k:Int) < ((t.kids.length:Nat):Int):=by omega
       have hmm:=bE (d:=default) hlt
       rw [wM hlt,List.length_append,mI _ 2 1] at hb2
       have ci:=ih _ (cM _ hmm) l2 out2 (H++[.box false [.i .i64 (t.kids.getD k default).kind,.i .i64 (t.kids.getD k default).n,.s (t.kids.getD k default).text,.s (t.kids.getD k default).sort,.sl ((t.kids.getD k default).kids.flatMap aA) (t.kids.getD k default).kids.length,.sl ((t.kids.getD k default).rest.flatMap aA) (t.kids.getD k default).rest.length]]) ho2 (by omega) (hi2.more _)
       simp only [elT,aW,avt] at ci
       refine zh (zt hki) ?_
       (refine zx0 (zt hki) ?_; repeat' first | exact trivial | refine zJ ?_ ?_ | refine zH fun hc=>?_)
       refine eZ ci ?_
       rintro r h3 ⟨hi3,hs3⟩
       refine zg ?_
       have hw:=wI (l:=l2) (t:=t.kids.getD k default)
       refine ⟨(k+1,tJ l2 (t.kids.getD k default),r,h3),⟨by dsimp only; omega,Q2 ho2 (ht.kid _ hmm),by dsimp only; omega,?_,hi3,hs2.trans ((lI.app _ _ _).trans hs3)⟩,by dsimp only; omega,rfl,by simp⟩
       dsimp only
       rw [sO (d:=default) hlt,← he2]
     · have hki:¬ (k:Int) < ((t.kids.length:Nat):Int):=by omega
       have hke:t.kids.take k=t.kids:=aJ (by omega)
       have hd:(visL (t.kids.drop k) 2).length=0:=by rw [bJ (by omega)]; rfl
       rw [hke] at he2
       have hbx:H[h.length]? = some (.box false [.i .i64 (t).kind,.i .i64 (t).n,.s (t).text,.s (t).sort,.sl ((t).kids.flatMap aA) (t).kids.length,.sl ((t).rest.flatMap aA) (t).rest.length]):=hs2 _ _ (aF _) (by simp)
       refine zh (zA2 (zf hki) hbx) ?_
       (refine zx0 (zA2 (zf hki) hbx) ?_; repeat' first | exact trivial | refine zJ ?_ ?_ | refine zH fun hc=>?_)
       refine bQ (fun (s:Nat × List LTerm × AV × List AObj)=>[.v (s.2.2.1),.k,.k,.k,.k,.k,.k,.k,.k,.k,.j,.k,.k,.k,.k,.k,.k,.k,.k,.k,.k,.k,.k,.k,.k,.k,.k,.k,.k,.k,.k,.k,.k,.k,.k,.k,.k,.k,.k,.k,.k,.k,.k,.k,.k,.k,.k,.k,.v (.i .i64 (s.1:Nat)),.j,.j,.j,.j,.j,.j,.j,.k]) (fun s=>s.2.2.2) (fun s=>s.1≤t.rest.length∧(∀ x ∈ s.2.1,OkT x)∧s.2.1.length+(visL (t.rest.drop s.1) 2).length≤1000000∧s.2.1=(t.rest.take s.1).foldl tJ l2∧eP 6 0 s.2.2.2 s.2.2.1 (s.2.1.flatMap aA) s.2.1.length∧lI 0 (h++[.box false [.i .i64 (t).kind,.i .i64 (t).n,.s (t).text,.s (t).sort,.sl ((t).kids.flatMap aA) (t).kids.length,.sl ((t).rest.flatMap aA) (t).rest.length]]) s.2.2.2) (fun s=>t.rest.length - s.1) ((0,l2,out2,H)) ⟨aF _,ho2,(by rw [cS]; dsimp only; omega),rfl,hi2,hs2⟩ rfl (by simp [fD]) ?_
       rintro ⟨k3,l3,out3,H3⟩ j3 ⟨hkl3,ho3,hb3,he3,hi3,hs3⟩
       dsimp only at hkl3 ho3 hb3 he3 hi3 hs3
       by_cases hlt3:k3 < t.rest.length
       · have hki3:(k3:Int) < ((t.rest.length:Nat):Int):=by omega
         have hmm:=bE (d:=default) hlt3
         rw [wM hlt3,List.length_append,mI _ 2 1] at hb3
         have ci:=ih _ (cX _ hmm) l3 out3 (H3++[.box false [.i .i64 (t.rest.getD k3 default).kind,.i .i64 (t.rest.getD k3 default).n,.s (t.rest.getD k3 default).text,.s (t.rest.getD k3 default).sort,.sl ((t.rest.getD k3 default).kids.flatMap aA) (t.rest.getD k3 default).kids.length,.sl ((t.rest.getD k3 default).rest.flatMap aA) (t.rest.getD k3 default).rest.length]]) ho3 (by omega) (hi3.more _)
         simp only [elT,aW,avt] at ci
         refine zh (zt hki3) ?_
         (refine zx0 (zt hki3) ?_; repeat' first | exact trivial | refine zJ ?_ ?_ | refine zH fun hc=>?_)
         refine eZ ci ?_
         rintro r h4 ⟨hi4,hs4⟩
         refine zg ?_
         have hw:=wI (l:=l3) (t:=t.rest.getD k3 default)
         refine ⟨(k3+1,tJ l3 (t.rest.getD k3 default),r,h4),⟨by dsimp only; omega,Q2 ho3 (ht.rst _ hmm),by dsimp only; omega,?_,hi4,hs3.trans ((lI.app _ _ _).trans hs4)⟩,by dsimp only; omega,rfl,by simp⟩
         dsimp only
         rw [sO (d:=default) hlt3,← he3]
       · have hki3:¬ (k3:Int) < ((t.rest.length:Nat):Int):=by omega
         have hke3:t.rest.take k3=t.rest:=aJ (by omega)
         rw [hke3,he2] at he3
         refine zh (zf hki3) ?_
         (refine zx0 (zf hki3) ?_; repeat' first | exact trivial | refine zJ ?_ ?_ | refine zH fun hc=>?_)
         rw [e,← he3]
         exact ⟨hi3,(lI.app _ _ _).trans hs3⟩
   · refine zh (zf h6) ?_
     (refine zx0 (zf h6) ?_; repeat' first | exact trivial | refine zJ ?_ ?_ | refine zH fun hc=>?_)
     refine bQ (fun (s:Nat × List LTerm × AV × List AObj)=>[.v (s.2.2.1),.k,.k,.k,.k,.k,.k,.k,.j,.k,.k,.k,.k,.k,.k,.k,.k,.k,.k,.k,.k,.k,.k,.k,.k,.k,.k,.k,.k,.k,.k,.k,.k,.k,.k,.k,.k,.v (.i .i64 (s.1:Nat)),.j,.j,.j,.j,.j,.j,.j,.k,.k,.k,.k,.k,.k,.k,.k,.k,.k,.k,.k]) (fun s=>s.2.2.2) (fun s=>s.1≤t.kids.length∧(∀ x ∈ s.2.1,OkT x)∧s.2.1.length+(visL (t.kids.drop s.1) 2).length+(visL t.rest 2).length≤1000000∧s.2.1=(t.kids.take s.1).foldl tJ l∧eP 6 0 s.2.2.2 s.2.2.1 (s.2.1.flatMap aA) s.2.1.length∧lI 0 (h++[.box false [.i .i64 (t).kind,.i .i64 (t).n,.s (t).text,.s (t).sort,.sl ((t).kids.flatMap aA) (t).kids.length,.sl ((t).rest.flatMap aA) (t).rest.length]]) s.2.2.2) (fun s=>t.kids.length - s.1) ((0,l,out,h++[.box false [.i .i64 (t).kind,.i .i64 (t).n,.s (t).text,.s (t).sort,.sl ((t).kids.flatMap aA) (t).kids.length,.sl ((t).rest.flatMap aA) (t).rest.length]])) ⟨aF _,hol,(by rw [cS]; dsimp only; omega),rfl,ho.more _,.refl _ _⟩ rfl (by simp [fD]) ?_
     rintro ⟨k,l2,out2,H⟩ j ⟨hkl,ho2,hb2,he2,hi2,hs2⟩
     dsimp only at hkl ho2 hb2 he2 hi2 hs2
     by_cases hlt:k < t.kids.length
     · have hki:(k:Int) < ((t.kids.length:Nat):Int):=by omega
       have hmm:=bE (d:=default) hlt
       rw [wM hlt,List.length_append,mI _ 2 1] at hb2
       have ci:=ih _ (cM _ hmm) l2 out2 (H++[.box false [.i .i64 (t.kids.getD k default).kind,.i .i64 (t.kids.getD k default).n,.s (t.kids.getD k default).text,.s (t.kids.getD k default).sort,.sl ((t.kids.getD k default).kids.flatMap aA) (t.kids.getD k default).kids.length,.sl ((t.kids.getD k default).rest.flatMap aA) (t.kids.getD k default).rest.length]]) ho2 (by omega) (hi2.more _)
       simp only [elT,aW,avt] at ci
       refine zh (zt hki) ?_
       (refine zx0 (zt hki) ?_; repeat' first | exact trivial | refine zJ ?_ ?_ | refine zH fun hc=>?_)
       refine eZ ci ?_
       rintro r h3 ⟨hi3,hs3⟩
       refine zg ?_
       have hw:=wI (l:=l2) (t:=t.kids.getD k default)
       refine ⟨(k+1,tJ l2 (t.kids.getD k default),r,h3),⟨by dsimp only; omega,Q2 ho2 (ht.kid _ hmm),by dsimp only; omega,?_,hi3,hs2.trans ((lI.app _ _ _).trans hs3)⟩,by dsimp only; omega,rfl,by simp⟩
       dsimp only
       rw [sO (d:=default) hlt,← he2]
     · have hki:¬ (k:Int) < ((t.kids.length:Nat):Int):=by omega
       have hke:t.kids.take k=t.kids:=aJ (by omega)
       have hd:(visL (t.kids.drop k) 2).length=0:=by rw [bJ (by omega)]; rfl
       rw [hke] at he2
       have hbx:H[h.length]? = some (.box false [.i .i64 (t).kind,.i .i64 (t).n,.s (t).text,.s (t).sort,.sl ((t).kids.flatMap aA) (t).kids.length,.sl ((t).rest.flatMap aA) (t).rest.length]):=hs2 _ _ (aF _) (by simp)
       refine zh (zA2 (zf hki) hbx) ?_
       (refine zx0 (zA2 (zf hki) hbx) ?_; repeat' first | exact trivial | refine zJ ?_ ?_ | refine zH fun hc=>?_)
       refine bQ (fun (s:Nat × List LTerm × AV × List AObj)=>[.v (s.2.2.1),.k,.k,.k,.k,.k,.k,.k,.k,.k,.j,.k,.k,.k,.k,.k,.k,.k,.k,.k,.k,.k,.k,.k,.k,.k,.k,.k,.k,.k,.k,.k,.k,.k,.k,.k,.k,.k,.k,.k,.k,.k,.k,.k,.k,.k,.k,.k,.v (.i .i64 (s.1:Nat)),.j,.j,.j,.j,.j,.j,.j,.k]) (fun s=>s.2.2.2) (fun s=>s.1≤t.rest.length∧(∀ x ∈ s.2.1,OkT x)∧s.2.1.length+(visL (t.rest.drop s.1) 2).length≤1000000∧s.2.1=(t.rest.take s.1).foldl tJ l2∧eP 6 0 s.2.2.2 s.2.2.1 (s.2.1.flatMap aA) s.2.1.length∧lI 0 (h++[.box false [.i .i64 (t).kind,.i .i64 (t).n,.s (t).text,.s (t).sort,.sl ((t).kids.flatMap aA) (t).kids.length,.sl ((t).rest.flatMap aA) (t).rest.length]]) s.2.2.2) (fun s=>t.rest.length - s.1) ((0,l2,out2,H)) ⟨aF _,ho2,(by rw [cS]; dsimp only; omega),rfl,hi2,hs2⟩ rfl (by simp [fD]) ?_
       rintro ⟨k3,l3,out3,H3⟩ j3 ⟨hkl3,ho3,hb3,he3,hi3,hs3⟩
       dsimp only at hkl3 ho3 hb3 he3 hi3 hs3
       by_cases hlt3:k3 < t.rest.length
       · have hki3:(k3:Int) < ((t.rest.length:Nat):Int):=by omega
         have hmm:=bE (d:=default) hlt3
         rw [wM hlt3,List.length_append,mI _ 2 1] at hb3
         have ci:=ih _ (cX _ hmm) l3 out3 (H3++[.box false [.i .i64 (t.rest.getD k3 default).kind,.i .i64 (t.rest.getD k3 default).n,.s (t.rest.getD k3 default).text,.s (t.rest.getD k3 default).sort,.sl ((t.rest.getD k3 default).kids.flatMap aA) (t.rest.getD k3 default).kids.length,.sl ((t.rest.getD k3 default).rest.flatMap aA) (t.rest.getD k3 default).rest.length]]) ho3 (by omega) (hi3.more _)
         simp only [elT,aW,avt] at ci
         refine zh (zt hki3) ?_
         (refine zx0 (zt hki3) ?_; repeat' first | exact trivial | refine zJ ?_ ?_ | refine zH fun hc=>?_)
         refine eZ ci ?_
         rintro r h4 ⟨hi4,hs4⟩
         refine zg ?_
         have hw:=wI (l:=l3) (t:=t.rest.getD k3 default)
         refine ⟨(k3+1,tJ l3 (t.rest.getD k3 default),r,h4),⟨by dsimp only; omega,Q2 ho3 (ht.rst _ hmm),by dsimp only; omega,?_,hi4,hs3.trans ((lI.app _ _ _).trans hs4)⟩,by dsimp only; omega,rfl,by simp⟩
         dsimp only
         rw [sO (d:=default) hlt3,← he3]
       · have hki3:¬ (k3:Int) < ((t.rest.length:Nat):Int):=by omega
         have hke3:t.rest.take k3=t.rest:=aJ (by omega)
         rw [hke3,he2] at he3
         refine zh (zf hki3) ?_
         (refine zx0 (zf hki3) ?_; repeat' first | exact trivial | refine zJ ?_ ?_ | refine zH fun hc=>?_)
         rw [e,← he3]
         exact ⟨hi3,(lI.app _ _ _).trans hs3⟩
theorem so:∀ (t:LTerm),OkT t→nL t→∀ (l:List LTerm) (out:AV) (h:List AObj),(∀ x ∈ l,OkT x)→l.length+(vis t 1).length≤1000000→eP 6 0 h out (l.flatMap aA) l.length→ACalls Tryz.prog G0 135 [out,elT t] h (SoK (tJ l t) h):=
 dK (Q:=fun t=>OkT t→nL t→∀ (l:List LTerm) (out:AV) (h:List AObj),(∀ x ∈ l,OkT x)→l.length+(vis t 1).length≤1000000→eP 6 0 h out (l.flatMap aA) l.length→ACalls Tryz.prog G0 135 [out,elT t] h (SoK (tJ l t) h)) fun t hk hr ht hv l out h hol hl ho=>by
   cases hvt:isV t with
   | false=>
     refine so2 t l out h ht hol hv hl hvt ho fun k hm l out h hol hl ho=>?_
     have hvk:=hv.kid hm
     rcases bC.1 hm with hm | hm
     · exact hk k hm (ht.kid k hm) hvk l out h hol hl ho
     · exact hr k hm (ht.rst k hm) hvk l out h hol hl ho
   | true=>
     have h6:t.kind=6:=by have:=hvt; simp only [isV,aC,decide_eq_true_eq] at this; exact this.1
     have h95:¬ t.text=[95]:=by have:=hvt; simp only [isV,aC,cG,decide_eq_false_iff_not] at this; exact this.2
     have e:=aSg l t
     rw [hvt,if_pos rfl,(hv.at.1 h6).1,(hv.at.1 h6).2] at e
     rw [e]
     exact so1 t l out h ht hol (by omega) h6 h95 ho

theorem aLl {l:List LTerm} {k:Nat} (h:k≤l.length):List.take (k * 6) (l.flatMap aA)=(l.take k).flatMap aA:=by
 induction l generalizing k with
 | nil=>simp
 | cons x l ih=>
   cases k with
   | zero=>simp
   | succ k=>
     rw [cV,cJ,cJ,List.take_append,nW,← ih (by simpa using h),aJ (by rw [nW]; omega),show (k+1) * 6 - 6=k * 6 by omega]
theorem bKw (l:List LTerm) (hl:l.length≤1000000): CT 136 [avt l] (.b (aSl l)):=by
 refine cQ mixed Tryz.func136 g0 ?_
 · simp -implicitDefEqProofs (disch:=omega) only [Tryz.f136,go_sem,List.replicate,simprocAttr,avt]
   (refine zs0 ?_; repeat' first | exact trivial | refine zJ ?_ ?_ | refine zH fun hc=>?_)
   refine fJ (fun (k:Nat)=>[.k,.k,.j,.j,.j,.k,.j,.k,.k,.v (.i .i64 (k:Nat)),.j,.j,.j,.j,.j,.j,.j,.j,.j,.j,.j,.j,.j,.j,.j,.j,.j,.j,.j]) (fun k=>([]:List AObj)) (fun k=>k≤l.length∧∀ i,i < k→(H4 i fun j => !decide ((l.getD i default).text=(l.getD j default).text))=true) (fun k=>l.length - k) (0) _ ⟨aF _,fun j h=>by omega⟩ rfl (by simp [fD]) ?_
   rintro k g j ⟨hk,ha⟩
   by_cases hlt:k < l.length
   · have hki:(k:Int) < ((l.length:Nat):Int):=by omega
     have htk:List.take (k * 6) (l.flatMap aA)=(l.take k).flatMap aA:=aLl (by omega)
     have hlk:(l.take k).length=k:=by rw [bZ]; omega
     refine zh (zA2 (zt hki) htk) ?_
     (refine zx0 (zA2 (zt hki) htk) ?_; repeat' first | exact trivial | refine zJ ?_ ?_ | refine zH fun hc=>?_)
     refine bQ (fun (s:Nat × List AObj)=>[.k,.k,.j,.k,.k,.k,.j,.k,.k,.k,.k,.k,.k,.k,.k,.k,.k,.k,.v (.i .i64 (s.1:Nat)),.j,.j,.j,.j,.j,.j,.j,.j,.j,.k]) (fun s=>(g++(.box false [.i .i64 (l.getD k default).kind,.i .i64 (l.getD k default).n,.s (l.getD k default).text,.s (l.getD k default).sort,.sl ((l.getD k default).kids.flatMap aA) (l.getD k default).kids.length,.sl ((l.getD k default).rest.flatMap aA) (l.getD k default).rest.length]::s.2))) (fun s=>s.1≤k∧∀ j,j < s.1→(!decide ((l.getD k default).text=(l.getD j default).text))=true) (fun s=>k - s.1) ((0,[])) ⟨aF _,fun j h=>by omega⟩ rfl (by simp [fD]) ?_
     rintro ⟨i,z⟩ j2 ⟨hi,hb⟩
     dsimp only at hi hb
     by_cases hlt2:i < k
     · have hki2:(i:Int) < ((k:Nat):Int):=by omega
       have hil:i < (l.take k).length:=by omega
       have hgd:(l.take k).getD i default=l.getD i default:=by simp [List.getD,hlt2,show i < l.length by omega,eG]
       refine zh (zA2 (zt hki2) (zA2 hlk hgd)) ?_
       (refine zx0 (zA2 (zt hki2) (zA2 hlk hgd)) ?_; repeat' first | exact trivial | refine zJ ?_ ?_ | refine zH fun hc=>?_)
       · have hf:(H4 k fun j => !decide ((l.getD k default).text=(l.getD j default).text))=false:=gW i hlt2 (by rw [zt hc]; rfl)
         exact aG (by rw [aSl,gW k hlt hf]) rfl
       · exact ⟨(i+1,z++[.box false [.i .i64 (l.getD i default).kind,.i .i64 (l.getD i default).n,.s (l.getD i default).text,.s (l.getD i default).sort,.sl ((l.getD i default).kids.flatMap aA) (l.getD i default).kids.length,.sl ((l.getD i default).rest.flatMap aA) (l.getD i default).rest.length]]),⟨by dsimp only; omega,bK hb (by rw [zf hc]; rfl)⟩,by dsimp only; omega,by simp,by simp⟩
     · have hki2:¬ (i:Int) < ((k:Nat):Int):=by omega
       refine zh (zf hki2) ?_
       (refine zx0 (zf hki2) ?_; repeat' first | exact trivial | refine zJ ?_ ?_ | refine zH fun hc=>?_)
       all_goals exact ⟨k+1,_,⟨by omega,bK ha (kL fun j hj=>hb j (by omega))⟩,by omega,rfl,by simp⟩
   · have hki:¬ (k:Int) < ((l.length:Nat):Int):=by omega
     refine zh (zf hki) ?_
     (refine zx0 (zf hki) ?_; repeat' first | exact trivial | refine zJ ?_ ?_ | refine zH fun hc=>?_)
     all_goals exact aG (by rw [aSl,kL (fun i hi=>ha i (by omega))]) rfl
def aCe (l:List LTerm):Bool:=l.all fun v => !decide (v.text=[36])
def bIu (i:Bool) (s:cI) (t:LTerm):Bool:=i && (!pO s t && (pM t && (aCe (tJ [] t) && aSl (tJ [] t))))
theorem bOy {l:List LTerm} {f:LTerm→Bool} {k:Nat} (hk:k < l.length) (h:f (l.getD k default)=false):l.all f=false:=H6.2 ⟨_,bE hk,by rw [h]; simp⟩
theorem bGr {l:List LTerm} {f:LTerm→Bool} (h:∀ j,j < l.length→f (l.getD j default)=true):l.all f=true:=by
 rw [aR]
 intro x hx
 obtain ⟨j,hj,rfl⟩:=bV.1 hx
 have:=h j hj
 simpa [List.getD,hj] using this
theorem aWr (s:cI) (t:LTerm) (hm:Small s) (ht:OkT t) (hv:nL t) (hl:(vis t 1).length≤1000000) (c1:CT 132 [.agg (bB s),elT t] (.b true)) (hf:pO s t=false) (hk:pM t=true): CT 79 [.agg (bB s),elT t] (.b (aCe (tJ [] t) && aSl (tJ [] t))):=by
 refine aE mixed Tryz.func79 g0 ?_
 · skip
   have c2:=bAc s hm t ht
   have c3:=bAb t ht
   rw [hf] at c2
   rw [hk] at c3
   have cs:=so t ht hv [] .e0 [.box false (bB s),.box false [.i .i64 (t).kind,.i .i64 (t).n,.s (t).text,.s (t).sort,.sl ((t).kids.flatMap aA) (t).kids.length,.sl ((t).rest.flatMap aA) (t).rest.length]] (by simp) (by simpa using hl) eR
   simp only [elT,aW,avt] at cs
   (refine zt3 c1 c2 c3 ?_; repeat' first | exact trivial | refine zJ ?_ ?_ | refine zH fun hc=>?_)
   refine eZ cs ?_
   rintro r h' ⟨ho,_⟩
   have hL:(tJ [] t).length≤1000000:=by have:=wI (l:=[]) (t:=t); simp at this; omega
   have c4:=bKw (tJ [] t) hL
   clear cs c1 c2 c3
   generalize tJ [] t=L at *
   rcases ho with ⟨rfl,hc,hn⟩ | ⟨i,rfl,hi,hil⟩
   · obtain rfl:L=[]:=List.length_eq_zero_iff.1 hn
     simp only [avt,gK,bG] at c4
     refine zg ?_
     refine bQ (fun (s:Nat)=>[.k,.k,.k,.k,.j,.k,.k,.j,.k,.k,.k,.k,.k,.k,.k,.k,.k,.k,.k,.k,.k,.k,.k,.k,.k,.k,.v (.i .i64 (0:Int)),.j,.j,.j,.j,.j,.j,.j,.k,.k]) (fun s=>h') (fun s=>True) (fun s=>s) (0) trivial rfl (by simp [fD]) ?_
     rintro s j _
     refine zg ?_
     (refine zt1 c4 ?_; repeat' first | exact trivial | refine zJ ?_ ?_ | refine zH fun hc=>?_)
     all_goals first
       | (exfalso; omega)
       | exact aG (by rw [aCe]; rfl) rfl
   · have hi2:∀ m:List AObj,(h'++m)[i]? = some (.arr false 6 (L.flatMap aA)):=fun m=>by rw [aD (aO hi)]; exact hi
     refine zh hi ?_
     rw [show h'=h'++[] from (List.append_nil h').symm]
     refine bQ (fun (s:Nat × List AObj)=>[.k,.k,.k,.k,.j,.k,.k,.j,.k,.k,.k,.k,.k,.k,.k,.k,.k,.k,.k,.k,.k,.k,.k,.k,.k,.k,.v (.i .i64 (s.1:Nat)),.j,.j,.j,.j,.j,.j,.j,.k,.k]) (fun s=>(h'++s.2)) (fun s=>s.1≤L.length∧∀ j,j < s.1→(!decide ((L.getD j default).text=[36]))=true) (fun s=>L.length - s.1) ((0,[])) ⟨aF _,fun j h=>absurd h (Nat.not_lt_zero j)⟩ rfl (by simp [fD]) ?_
     rintro ⟨k,z⟩ j ⟨hk,ha⟩
     dsimp only at hk ha
     by_cases hlt:k < L.length
     · have hki:(k:Int) < ((L.length:Nat):Int):=by omega
       refine zh (zA2 (zt hki) hi2) ?_
       (refine zx0 (zA2 (zt hki) hi2) ?_; repeat' first | exact trivial | refine zJ ?_ ?_ | refine zH fun hc=>?_)
       · have e:aCe L=false:=bOy hlt (by rw [zt hc]; rfl)
         exact aG (by rw [e]; rfl) rfl
       · exact ⟨(k+1,z++[.box false [.i .i64 (L.getD k default).kind,.i .i64 (L.getD k default).n,.s (L.getD k default).text,.s (L.getD k default).sort,.sl ((L.getD k default).kids.flatMap aA) (L.getD k default).kids.length,.sl ((L.getD k default).rest.flatMap aA) (L.getD k default).rest.length]]),⟨by dsimp only; omega,bK ha (by rw [zf hc]; rfl)⟩,by dsimp only; omega,by simp,by simp⟩
     · have hki:¬ (k:Int) < ((L.length:Nat):Int):=by omega
       have htk:List.take (L.length * 6) (L.flatMap aA)=L.flatMap aA:=aJ (by omega)
       refine zh (zA2 (zf hki) hi2) ?_
       (refine zy1 (zA2 (zf hki) (zA2 hi2 (zA2 hil (zA2 htk (zA2 @fE bA))))) c4 ?_; repeat' first | exact trivial | refine zJ ?_ ?_ | refine zH fun hc=>?_)
       all_goals exact aG (by rw [aCe,bGr (fun j hj=>ha j (by omega))]; rfl) rfl
theorem aWs (s:cI) (t:LTerm) (hm:Small s) (ht:OkT t) (c1:CT 132 [.agg (bB s),elT t] (.b false)): CT 79 [.agg (bB s),elT t] (.b false):=by
 refine aE mixed Tryz.func79 g0 ?_
 · skip
   (refine zt1 c1 ?_; repeat' first | exact trivial | refine zJ ?_ ?_ | refine zH fun hc=>?_)
   all_goals exact aG rfl rfl
theorem aWq (s:cI) (t:LTerm) (hm:Small s) (ht:OkT t) (c1:CT 132 [.agg (bB s),elT t] (.b true)) (hn:(!pO s t && pM t)=false): CT 79 [.agg (bB s),elT t] (.b false):=by
 refine aE mixed Tryz.func79 g0 ?_
 · skip
   have c2:=bAc s hm t ht
   have c3:=bAb t ht
   rcases gM (pO s t) with hf | hf
   · rw [hf] at c2
     (refine zt2 c1 c2 ?_; repeat' first | exact trivial | refine zJ ?_ ?_ | refine zH fun hc=>?_)
     all_goals exact aG rfl rfl
   · rw [hf] at c2 hn
     have hk:pM t=false:=by simpa using hn
     rw [hk] at c3
     (refine zt3 c1 c2 c3 ?_; repeat' first | exact trivial | refine zJ ?_ ?_ | refine zH fun hc=>?_)
     all_goals exact aG rfl rfl
theorem bLf (i:Bool) (s:cI) (t:LTerm) (hm:Small s) (ht:OkT t) (hv:i=true→nL t∧(vis t 1).length≤1000000) (c1:CT 132 [.agg (bB s),elT t] (.b i)):CT 79 [.agg (bB s),elT t] (.b (bIu i s t)):=by
 cases i with
 | false=>rw [bIu,Bool.false_and]; exact aWs s t hm ht c1
 | true=>
   rw [bIu,Bool.true_and,← kW]
   rcases gM (!pO s t && pM t) with h | h
   · rw [h,Bool.true_and]
     rw [aC,cG] at h
     exact aWr s t hm ht (hv rfl).1 (hv rfl).2 c1 h.1 h.2
   · rw [h,Bool.false_and]
     exact aWq s t hm ht c1 h

theorem M3 {t:LTerm} (h:eY t false true true false false=true):t.n=0∧t.kids=[]∧t.rest=[]:=by
 simp only [eY,aC,bH,decide_eq_true_eq,aP,false_or,true_or,and_true] at h
 exact ⟨h.1.1,h.1.2,h.2⟩
structure Q8 (v:LTerm):Prop where
 n:v.n=0
 kids:v.kids=[]
 rest:v.rest=[]
 text:v.text ≠ []
theorem aOb {x:Str} (h:dP x=true):x ≠ []:=by
 rintro rfl; simp [dP] at h
theorem aUw {t:LTerm} (h:cP t=true) (h6:t.kind=6):Q8 t:=by
 have hh:cP t=(if vB t.text=true then decide (t.sort=P9) && eY t false true true false false else dP t.text && dP t.sort && eY t false true true false false):=by simp only [cP,h6,Int.reduceEq,if_false,if_true]
 rw [hh] at h
 split at h
 · rename_i ho
   simp only [aC] at h
   obtain ⟨a,b,c⟩:=M3 h.2
   refine ⟨a,b,c,fun e=>?_⟩
   rw [e] at ho; simp [vB] at ho
 · simp only [aC] at h
   obtain ⟨a,b,c⟩:=M3 h.2
   exact ⟨a,b,c,aOb h.1.1⟩
theorem aTr {t r:LTerm} (h:cP t=true) (hr:r ∈ t.rest):Q8 r:=by
 have h1:=rP h hr
 have z0:∀ {a b c d},eY t a b c d false=true→t.rest=[]:=by
   intro a b c d h
   simp only [eY,aC,bH,decide_eq_true_eq,aP,false_or] at h
   exact h.2
 have r0:∀ {s},mV t s=true→r.n=0:=by
   intro s h
   simp only [mV,aC,bH,decide_eq_true_eq] at h
   have hl:0 < t.rest.length:=aAz hr
   rcases h with h | h
   · omega
   · obtain ⟨⟨⟨⟨h1,hk⟩,hn⟩,_⟩,hz⟩:=h
     obtain ⟨x,hx⟩:=rK.1 h1
     rw [hx] at hr hz
     rw [aU] at hr; subst hr
     exact (M3 hz).1
 refine ⟨?_,h1.2.2.1,h1.2.2.2,aOb h1.2.1⟩
 have hh:=h
 unfold cP at hh
 repeat' split at hh
 all_goals try simp only [aC] at hh
 all_goals first
   | exact absurd hr (by rw [z0 hh.2]; simp)
   | exact r0 hh.1
   | exact r0 hh.1.1
   | cases hh
theorem aKx:∀ t:LTerm,wfT cP t=true→∀ d:Int,∀ v ∈ vis t d,v.1.kind=6→Q8 v.1:=
 dK (Q := fun t=>wfT cP t=true→∀ d:Int,∀ v ∈ vis t d,v.1.kind=6→Q8 v.1) fun t hk hr hw d v hv h6=>by
   have hw':=mE.1 hw
   rw [mT,jZ,cD,bC] at hv
   rcases hv with rfl | hv | hv
   · exact aUw hw'.1 h6
   · have L:∀ l:List LTerm,(∀ k ∈ l,k ∈ t.kids)→v ∈ visL l (d+1)→Q8 v.1:=by
       intro l
       induction l with
       | nil=>intro _ h; cases h
       | cons x l ih=>
         intro hm h
         rw [visL,bC] at h
         rcases h with h | h
         · exact hk x (hm x (by simp)) (hw'.2 x (hm x (by simp))) (d+1) v h h6
         · exact ih (fun k hk=>hm k (by simp [hk])) h
     exact L t.kids (fun _ h=>h) hv
   · have L:∀ l:List LTerm,(∀ k ∈ l,k ∈ t.rest)→v ∈ visL l (d+1)→Q8 v.1:=by
       intro l
       induction l with
       | nil=>intro _ h; cases h
       | cons x l ih=>
         intro hm h
         rw [visL,bC] at h
         rcases h with h | h
         · have hx:=rP hw'.1 (hm x (by simp))
           rw [uG hx.2.2.1 hx.2.2.2,aU] at h
           subst h
           exact aTr hw'.1 (hm x (by simp))
         · exact ih (fun k hk=>hm k (by simp [hk])) h
     exact L t.rest (fun _ h=>h) hv
theorem aHt {t:LTerm} (hv:gD cP t=true):nL t∧(vis t 1).length≤1000000:=by
 have hP:=aBh hv
 rw [List.append_nil] at hP
 refine ⟨fun v hm=>⟨fun h6=>?_,(hP.2 v hm).2.2⟩,by have:=hP.1; omega⟩
 have:=aKx t (by simp only [gD,aC] at hv; exact hv.1.1) 1 v hm h6
 exact ⟨this.kids,this.rest⟩
theorem aKz {t x:LTerm} (hw:wfT cP t=true) (h:x ∈ G4 t):Q8 x∧x.kind=6:=by
 have h2:=qV.1 h
 obtain ⟨v,hv,rfl⟩:=dQ.1 h2.1
 have h6:v.1.kind=6:=by have:=h2.2; simp only [isV,aC,decide_eq_true_eq] at this; exact this.1
 exact ⟨aKx t hw 1 v hv h6,h6⟩
theorem bDc {a b:LTerm} (ha:Q8 a∧a.kind=6) (hb:Q8 b∧b.kind=6) (h:B4 a=B4 b):a=b:=by
 obtain ⟨⟨a1,a2,a3,_⟩,a4⟩:=ha
 obtain ⟨⟨b1,b2,b3,_⟩,b4⟩:=hb
 cases a; cases b
 simp only [B4,LTerm.text,LTerm.sort,aM,LTerm.n,LTerm.kids,LTerm.rest,LTerm.kind] at *
 subst_vars
 rw [h.1,h.2]
theorem aUl (s:cI) (t:LTerm):bDb s t=bIu (gD cP t && pR s t) s t:=by
 rw [bDb,bIu]
 rcases gM (gD cP t) with hv | hv
 · rcases gM (pR s t) with hf | hf
   · rw [hv,hf]
     simp only [Bool.true_and]
     have hw:wfT cP t=true:=by simp only [gD,aC] at hv; exact hv.1.1
     rw [aFw,aEu,cO,aPb s t hw 1,aOt t hw 1]
     have hp:=fun x hx=>aKz (x:=x) hw hx
     have e1:decide ((rO t).2=[])=aSl (tJ [] t):=by
       rw [cT,decide_eq_true_eq,tJ,bDj (fun a ha b hb=>bDc (hp a ha) (hp b hb)),rO,aEh,G4]
       refine bBz fun x hx=>?_
       obtain ⟨v,hv,rfl⟩:=dQ.1 hx
       exact (hp v hv).1.text
     have e2:aCe (tJ [] t) = !dol t 1:=by
       have hm:=(Q3 (G4 t) [] eS).2
       rw [cT,aCe,aR,cG,dol,mP]
       constructor
       · intro h v hv
         intro q
         simp only [aC,decide_eq_true_eq] at q
         have hx:v.1 ∈ G4 t:=qV.2 ⟨dQ.2 ⟨v,hv,rfl⟩,by simp [isV,q.1,q.2]⟩
         have:=h v.1 ((hm v.1).2 (.inr hx))
         simp [q.2] at this
       · intro h x hx
         have hx:=((hm x).1 hx).resolve_left (by simp)
         have h2:=qV.1 hx
         obtain ⟨v,hv,rfl⟩:=dQ.1 h2.1
         have:=h v hv
         simp only [(hp v.1 hx).2,decide_true,Bool.true_and,decide_eq_true_eq] at this
         simp [this]
     rw [e1,e2]
     cases pO s t <;> cases pM t <;> cases dol t 1 <;> cases aSl (tJ [] t) <;> rfl
   · rw [hf]; simp
 · rw [hv]; simp

def B0 (s:cI) (t:LTerm):Bool:=eN s && bDb s t
theorem aAf (s:cI) (t:LTerm) (hm:Small s) (hs:OkS s) (ht:OkT t): CT 42 [.agg (bB s),elT t] (.b (B0 s t)):=by
 refine fK (rx:=true) (th:=fun _=>none) mixed Tryz.func42 g0 ?_
 · simp -implicitDefEqProofs (disch:=omega) only [Tryz.f42,go_sem,List.replicate,simprocAttr]
   have c2:=aQr s hm hs
   have c3:=bLh s t hm ht
   rw [B0]
   rcases gM (eN s) with h2 | h2
   · rw [h2] at c2
     (refine zt3 c2 (aJs s hm (jP h2)) c3 ?_; repeat' first | exact trivial | refine zJ ?_ ?_ | refine zH fun hc=>?_)
     all_goals exact aG (by rw [h2]; rfl) rfl
   · rw [h2] at c2
     (refine zt1 c2 ?_; repeat' first | exact trivial | refine zJ ?_ ?_ | refine zH fun hc=>?_)
     all_goals exact aG (by rw [h2]; rfl) rfl
theorem bLo (s:cI) (t:LTerm) (hm:Small s) (hs:OkS s) (ht:OkT t) (c1:eN s=true→CT 132 [.agg (bB s),elT t] (.b (gD cP t && pR s t))): CT 45 [.agg (bB s),elT t] (.b (B0 s t)):=by
 refine aE mixed Tryz.func45 g0 ?_
 · skip
   have c2:=bTe s hm hs
   rw [B0]
   rcases gM (eN s) with h2 | h2
   · have c3:=bLf _ s t hm ht (fun h=>aHt (by simp only [aC] at h; exact h.1)) (c1 h2)
     rw [← aUl] at c3
     rw [h2] at c2
     (refine zt2 c2 c3 ?_; repeat' first | exact trivial | refine zJ ?_ ?_ | refine zH fun hc=>?_)
     all_goals exact aG (by rw [h2]; rfl) rfl
   · rw [h2] at c2
     (refine zt1 c2 ?_; repeat' first | exact trivial | refine zJ ?_ ?_ | refine zH fun hc=>?_)
     all_goals exact aG (by rw [h2]; rfl) rfl

def T1 (s:cI) (t:LTerm):List kD × Int:=if B0 s t=true then (dZ t [],0) else ([],2)
def aHe (r:List kD × Int):AV:=.tup [ava r.1,.i .i64 r.2]
theorem mQ {s:cI} {t:LTerm} (h:B0 s t=true):gD cP t=true:=by
 rw [B0,bDb,aC,aC] at h; exact h.2.1
theorem zP:∀ (t:LTerm) (p:List Int),(dZ t p).length≤nodesT t:=
 dK (Q := fun t=>∀ p:List Int,(dZ t p).length≤nodesT t) fun t hk _ p=>by
   have L:∀ (l:List LTerm) (i:Nat),(∀ k ∈ l,∀ p:List Int,(dZ k p).length≤nodesT k)→(testsL l p i).length≤nodesL l:=by
     intro l
     induction l with
     | nil=>intro i _; simp [testsL,nodesL]
     | cons x l ih=>intro i h; rw [testsL,nodesL,List.length_append]; have:=h x (by simp) (p++[(i:Int)]); have:=ih (i+1) (fun k hk=>h k (by simp [hk])); omega
   have e:=gL t
   have q:=L t.kids 0 hk
   rw [lL]
   split
   · simp only [aL]; omega
   · split
     · simp only [aL]; omega
     · split
       · simp; omega
       · split
         · split <;> simp; omega
         · simp; omega
end Go.Proofs.YtifefbhllfdmlaaGreatDoor

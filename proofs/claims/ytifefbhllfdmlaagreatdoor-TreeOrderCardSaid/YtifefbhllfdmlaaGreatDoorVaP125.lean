/-
  What functions of the chapter return, as plain functions of what they are given; no condition beyond those that each theorem names.
-/
import Derived.Test.YtifefbhllfdmlaaGreatDoorTeP123
import Derived.Test.YtifefbhllfdmlaaGreatDoorTeP126
import Derived.Test.YtifefbhllfdmlaaGreatDoorVaP124
import Derived.Test.YtifefbhllfdmlaaGreatDoorVaP123
import Derived.Test.YtifefbhllfdmlaaGreatDoorSoP123
set_option maxRecDepth 100000
set_option linter.unusedSimpArgs false
set_option linter.unusedVariables false
set_option maxHeartbeats 4000000
namespace Go.Proofs.YtifefbhllfdmlaaGreatDoor
open Go Go.Vo
open Nat (reduceAdd reduceSub reduceMul reduceLeDiff reduceLT reduceEqDiff)
open Int (reduceNeg)

def aKf (s:dF) (t:LTerm):Bool:=(mX s t.text).2.2 && (decide ((mX s t.text).1.args.length=t.kids.length) && aUd t.kids.length (fun i=>aRc s (B3 s (t.kids.getD i default)) ((mX s t.text).1.args.getD i [])))
mutual
def rW (s:dF):LTerm→Bool
 | .mk k n x so ks rs=>fitsPL s ks && (if k=6 then iI s so else if k=5 then aKf s (.mk k n x so ks rs) else true)
def fitsPL (s:dF):List LTerm→Bool
 | []=>true
 | k::l=>rW s k && fitsPL s l
end
theorem T0 {s:dF}:∀ l,fitsPL s l=l.all (rW s)
 | []=>rfl
 | k::l=>by rw [fitsPL,T0 l]; rfl
theorem aCs (s:dF) (t:LTerm):rW s t=(t.kids.all (rW s) && (if t.kind=6 then iI s t.sort else if t.kind=5 then aKf s t else true)):=by
 cases t; rw [rW,T0]; rfl
theorem aSs (s:dF) (t:LTerm) (hs:Small s) (ht:OkT t) (ih:∀ k ∈ t.kids,CT 125 [cU s,elT k] (.b (rW s k))): CT 125 [cU s,elT t] (.b (rW s t)):=by
 refine aQ mixed Tryz.func125 g0 ?_
 · skip
   have e:=aCs s t
   have hk1:=ht.kids
   have c1:=aMo s t.text
   obtain ⟨⟨q,fn,ok⟩,hq⟩:∃ p,mX s t.text=p:=⟨_,rfl⟩
   simp only [aKf,hq] at e
   rw [hq] at c1
   (refine zs0 ?_; repeat' first | exact trivial | refine zJ ?_ ?_ | refine zH fun hc=>?_)
   refine jW (fun (k:Nat)=>[.k,.k,.k,.k,.j,.k,.j,.k,.k,.k,.k,.k,.k,.k,.k,.v (.i .i64 (k:Nat)),.j,.j,.j,.j,.j,.j,.j,.j,.k,.k,.k,.k,.k,.k,.k,.k,.k,.k,.k,.k,.k,.k,.k,.k,.k,.k,.k,.k,.k,.k,.k,.k,.k,.k,.k,.k,.k,.k,.k,.k,.k,.k,.k,.k,.k,.k,.k,.k,.k,.k,.k,.k,.k,.k,.k,.k,.k]) (fun k=>[.box false [.i .i64 (t).kind,.i .i64 (t).n,.s (t).text,.s (t).sort,.sl ((t).kids.flatMap aE) (t).kids.length,.sl ((t).rest.flatMap aE) (t).rest.length]]) (fun k=>k≤t.kids.length∧∀ j,j < k→rW s (t.kids.getD j default)=true) (fun k=>t.kids.length - k) (0) _ ⟨aT _,fun j h=>by omega⟩ rfl (by simp [iL]) ?_
   rintro k g j ⟨hk,ha⟩
   have o:k < t.kids.length→CT 125 [cU s,elT (t.kids.getD k default)] (.b (rW s (t.kids.getD k default))):=fun h=>ih _ (cC h)
   refine zg ?_
   (repeat' (first | refine gT ?_ ?_ | refine gF ?_ ?_ | refine gC ?_ ?_ | ((first | (refine bI ((o (by omega))) ?_ ?_; (focus (simp -implicitDefEqProofs (disch:=omega) only [oY,cU,zdB,go_sem,simprocAttr]; done))) | (refine bI (J1 s t.sort) ?_ ?_; (focus (simp -implicitDefEqProofs (disch:=omega) only [oY,cU,zdB,go_sem,simprocAttr]; done))) | (refine bI (c1) ?_ ?_; (focus (simp -implicitDefEqProofs (disch:=omega) only [oY,cU,zdB,go_sem,simprocAttr]; done)))); simp -implicitDefEqProofs (disch:=omega) only [oY,cU,go_sem,simprocAttr]) | refine bM (by omega) ?_ | (intro hr; have hc:=hr; (try simp only [zdz] at hc); simp -implicitDefEqProofs (disch:=omega) only [hr,oY,cU,go_sem,simprocAttr]; (try clear hr))))
   all_goals first
     | exact aP (by rw [e,V4 k (by omega) hc,aS]) rfl
     | exact ⟨k+1,_,⟨by omega,dS ha hc⟩,by omega,rfl,by simp⟩
     | skip
   all_goals rw [wX (fun j hj=>ha j (by omega)),aM] at e
   all_goals first
     | (exfalso; omega)
     | exact aP (by rw [e,if_pos (by assumption)]) rfl
     | exact aP (by rw [e,if_neg (by assumption),if_neg (by assumption)]) rfl
     | exact aP (by rw [e,if_neg (by assumption),if_pos (by omega),show ok=false from hc,aS]) rfl
     | exact aP (by rw [e,if_neg (by assumption),if_pos (by omega),zf (by omega:¬ q.args.length=t.kids.length),aS,aW]) rfl
     | skip
   have hn:q.args.length=t.kids.length:=by omega
   have hok:ok=true:=by assumption
   rw [if_neg (by assumption),if_pos (by omega),zt hn,aM,hok,aM] at e
   refine jW (fun (k:Nat)=>[.k,.k,.k,.k,.j,.k,.k,.k,.k,.k,.j,.j,.k,.k,.k,.k,.k,.k,.k,.k,.k,.k,.k,.k,.k,.k,.k,.k,.k,.k,.k,.k,.k,.k,.k,.k,.k,.k,.k,.k,.k,.k,.k,.k,.k,.k,.k,.k,.k,.k,.k,.k,.k,.k,.k,.k,.v (.i .i64 (k:Nat)),.j,.j,.j,.j,.j,.j,.j,.j,.j,.j,.j,.j,.j,.j,.j,.j]) (fun k=>(.box false [.i .i64 (t).kind,.i .i64 (t).n,.s (t).text,.s (t).sort,.sl ((t).kids.flatMap aE) (t).kids.length,.sl ((t).rest.flatMap aE) (t).rest.length]::(g++[.box false (dA q)]))) (fun k=>k≤t.kids.length∧∀ j,j < k→aRc s (B3 s (t.kids.getD j default)) (q.args.getD j [])=true) (fun k=>t.kids.length - k) (0) [] ⟨aT _,fun j h=>by omega⟩ (by simp [avs,avb,avi,avo,dA,cB]) (by simp [iL]) ?_
   rintro kk g2 j2 ⟨hkk,ha2⟩
   refine zg ?_
   (refine zt2 (aMq s (t.kids.getD kk default)) (bMb s (B3 s (t.kids.getD kk default)) (q.args.getD kk []) hs) ?_; repeat' first | exact trivial | refine zJ ?_ ?_ | refine zH fun hc=>?_)
   all_goals first
     | exact aP (by rw [e,qW kk (by omega) hc]) rfl
     | exact ⟨kk+1,_,⟨by omega,dS ha2 hc⟩,by omega,rfl,by simp⟩
     | exact aP (by rw [e,zU (fun j hj=>ha2 j (by omega))]) rfl
     | (exfalso; omega)
theorem bGg (s:dF) (hs:Small s):∀ (t:LTerm),OkT t→CT 125 [cU s,elT t] (.b (rW s t)):=
 fR fun t hk _ ht=>aSs s t hs ht (fun k hm=>hk k hm (ht.kid k hm))
theorem aMl (s:dF) (t:LTerm) (hm:Small s) (hs:OkS s) (ht:OkT t): CT 58 [.agg (cB s),elT t] (.b (gK s && nK s t)):=by
 refine aQ mixed Tryz.func58 g0 ?_
 · skip
   have c2:=aGd s hm hs
   rcases iC (gK s) with h2 | h2
   · rw [h2] at c2
     (refine zt3 c2 (T5 s hm (iB h2)) (aMs s t hm ht) ?_; repeat' first | exact trivial | refine zJ ?_ ?_ | refine zH fun hc=>?_)
     all_goals exact aP (by rw [h2]; rfl) rfl
   · rw [h2] at c2
     (refine zt1 c2 ?_; repeat' first | exact trivial | refine zJ ?_ ?_ | refine zH fun hc=>?_)
     all_goals exact aP (by rw [h2]; rfl) rfl

def PtR (x y:AObj) (b:Bool) (h:List AObj):Prop:=∃ g,h=x::y::.box false [.b b]::g
theorem bJq (x y:AObj):bBw 129 [.ptr 2 0] 3 (PtR x y) bDq bJi:=by
 refine ⟨?_,?_,?_⟩
 · rintro b h z ⟨g,rfl⟩; exact ⟨g++z,rfl⟩
 · rintro b h ⟨g,rfl⟩; simp
 · rintro b ⟨t,d⟩ l h hP ho ⟨g,rfl⟩
   have hb:=hP (t,d) (by simp)
   refine ⟨hb,fun v hv=>hP v (by simp [hv]),?_⟩
   refine (bQh t d b x y g ho (by have:=hb.2.2; dsimp only at this; omega)).mono ?_
   rintro r h' ⟨rfl,z,rfl⟩
   exact ⟨rfl,⟨g++z,rfl⟩,S0⟩
def bCc (s:dF) (t:LTerm):Bool:=jQ nodeB t && (rW s t && (!L9 (aSe s) false (vis t 1) && L9 bDq (decide ((uF t).2=[])) (vis t 1)))
theorem bFs (s:dF) (t:LTerm) (hs:Small s) (ht:OkT t): CT 76 [cU s,elT t] (.b (bCc s t)):=by
 refine aQ mixed Tryz.func76 g0 ?_
 · skip
   have c1:=aMr t ht
   have c2:=bGg s hs t ht
   rcases iC (jQ nodeB t) with hv | hv
   · have c3:=bFk s t ht hv
     have c4:=bFj t ht hv
     rw [hv] at c1
     rw [bCc,hv,aM]
     rcases iC (rW s t) with hf | hf
     · rw [hf] at c2
       rw [hf,aM]
       rcases iC (L9 (aSe s) false (vis t 1)) with hn | hn
       · rw [hn] at c3
         (refine zt3 c1 c2 c3 ?_; repeat' first | exact trivial | refine zJ ?_ ?_ | refine zH fun hc=>?_)
         all_goals exact aP (by rw [hn]; rfl) rfl
       · rw [hn] at c3
         rw [hn,bY,aM]
         generalize uF t=sv at *
         refine zh @gI ?_
         (repeat' (first | refine gT ?_ ?_ | refine gF ?_ ?_ | refine gC ?_ ?_ | ((first | (refine bI (c1) ?_ ?_; (focus (simp -implicitDefEqProofs (disch:=omega) only [gI,aRd,zdB,go_sem,↓reduceIte,reduceAdd,reduceSub,reduceMul,reduceLeDiff,reduceLT,reduceEqDiff,reduceNeg,Nat.reduceBEq]; done))) | (refine bI (c2) ?_ ?_; (focus (simp -implicitDefEqProofs (disch:=omega) only [gI,aRd,zdB,go_sem,↓reduceIte,reduceAdd,reduceSub,reduceMul,reduceLeDiff,reduceLT,reduceEqDiff,reduceNeg,Nat.reduceBEq]; done))) | (refine bI (c3) ?_ ?_; (focus (simp -implicitDefEqProofs (disch:=omega) only [gI,aRd,zdB,go_sem,↓reduceIte,reduceAdd,reduceSub,reduceMul,reduceLeDiff,reduceLT,reduceEqDiff,reduceNeg,Nat.reduceBEq]; done))) | (refine bI (c4) ?_ ?_; (focus (simp -implicitDefEqProofs (disch:=omega) only [gI,aRd,zdB,go_sem,↓reduceIte,reduceAdd,reduceSub,reduceMul,reduceLeDiff,reduceLT,reduceEqDiff,reduceNeg,Nat.reduceBEq]; done)))); simp -implicitDefEqProofs (disch:=omega) only [gI,aRd,go_sem,↓reduceIte,reduceAdd,reduceSub,reduceMul,reduceLeDiff,reduceLT,reduceEqDiff,reduceNeg,Nat.reduceBEq]) | refine bM (by omega) ?_ | (intro hr; have hc:=hr; (try simp only [zdz] at hc); simp -implicitDefEqProofs (disch:=omega) only [hr,gI,aRd,go_sem,↓reduceIte,reduceAdd,reduceSub,reduceMul,reduceLeDiff,reduceLT,reduceEqDiff,reduceNeg,Nat.reduceBEq]; (try clear hr))))
         have cw:=fun (b:Bool)=>aXd (bJq (.box false [.i .i64 (t).kind,.i .i64 (t).n,.s (t).text,.s (t).sort,.sl ((t).kids.flatMap aE) (t).kids.length,.sl ((t).rest.flatMap aE) (t).rest.length]) (.arr true 6 [.i .i64 (t).kind,.i .i64 (t).n,.s (t).text,.s (t).sort,.sl ((t).kids.flatMap aE) (t).kids.length,.sl ((t).rest.flatMap aE) (t).rest.length])) (fun a=>⟨_,[],rfl⟩) t ht 1 b [] _ ⟨[],rfl⟩ (aHp (a:=false) hv)
         simp only [elT,bT,avt] at cw
         refine gB (cw _) ?_
         rintro r h' ⟨rfl,⟨g,rfl⟩,_⟩
         refine zg ?_
         exact aP rfl rfl
     · rw [hf] at c2
       (refine zt2 c1 c2 ?_; repeat' first | exact trivial | refine zJ ?_ ?_ | refine zH fun hc=>?_)
       all_goals exact aP (by rw [hf]; rfl) rfl
   · rw [hv] at c1
     (refine zt1 c1 ?_; repeat' first | exact trivial | refine zJ ?_ ?_ | refine zH fun hc=>?_)
     all_goals exact aP (by rw [bCc,hv]; rfl) rfl

theorem rY {f:Nat→Bool} {k:Nat} (h:∀ j,j < k→f j=false) (hk:f k=false):∀ j,j < k+1→f j=false:=fun j hj=>by
 rcases Nat.lt_succ_iff_lt_or_eq.1 hj with h1 | rfl
 · exact h j h1
 · exact hk




def A8 (s:dF) (t:LTerm):Bool:=gK s && bCc s t
theorem T6 (s:dF) (t:LTerm) (hm:Small s) (hs:OkS s) (ht:OkT t): CT 42 [.agg (cB s),elT t] (.b (A8 s t)):=by
 refine eD (rx:=true) (th:=fun _=>none) mixed Tryz.func42 g0 ?_
 · simp -implicitDefEqProofs (disch:=omega) only [Tryz.f42,go_sem,List.replicate,simprocAttr]
   have c2:=aGd s hm hs
   have c3:=bFs s t hm ht
   rw [A8]
   rcases iC (gK s) with h2 | h2
   · rw [h2] at c2
     (refine zt3 c2 (T5 s hm (iB h2)) c3 ?_; repeat' first | exact trivial | refine zJ ?_ ?_ | refine zH fun hc=>?_)
     all_goals exact aP (by rw [h2]; rfl) rfl
   · rw [h2] at c2
     (refine zt1 c2 ?_; repeat' first | exact trivial | refine zJ ?_ ?_ | refine zH fun hc=>?_)
     all_goals exact aP (by rw [h2]; rfl) rfl

def O2 (s:dF) (t:LTerm):List LAsk × Int:=if A8 s t=true then (dI t [],0) else ([],2)
def aDv (r:List LAsk × Int):AV:=.tup [ava r.1,.i .i64 r.2]
theorem lY {s:dF} {t:LTerm} (h:A8 s t=true):jQ nodeB t=true:=by
 rw [A8,bCc,aB,aB] at h; exact h.2.1
theorem pC:∀ (t:LTerm) (p:List Int),(dI t p).length≤nodesT t:=
 fR (Q := fun t=>∀ p:List Int,(dI t p).length≤nodesT t) fun t hk _ p=>by
   have L:∀ (l:List LTerm) (i:Nat),(∀ k ∈ l,∀ p:List Int,(dI k p).length≤nodesT k)→(testsL l p i).length≤nodesL l:=by
     intro l
     induction l with
     | nil=>intro i _; simp [testsL,nodesL]
     | cons x l ih=>intro i h; rw [testsL,nodesL,aG]; have:=h x (by simp) (p++[(i:Int)]); have:=ih (i+1) (fun k hk=>h k (by simp [hk])); omega
   have e:=pQ t
   have q:=L t.kids 0 hk
   rw [jR]
   split
   · simp only [aD]; omega
   · split
     · simp only [aD]; omega
     · split
       · simp; omega
       · split
         · split <;> simp; omega
         · simp; omega
end Go.Proofs.YtifefbhllfdmlaaGreatDoor

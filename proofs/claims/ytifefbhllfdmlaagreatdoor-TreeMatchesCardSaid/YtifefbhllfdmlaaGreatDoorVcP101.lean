/-
  What functions of the chapter return, as plain functions of what they are given; no condition beyond those that each theorem names.
-/
import Derived.Test.YtifefbhllfdmlaaGreatDoorVaP106
set_option maxRecDepth 100000
set_option linter.unusedSimpArgs false
set_option linter.unusedVariables false
set_option maxHeartbeats 4000000
namespace Go.Proofs.YtifefbhllfdmlaaGreatDoor
open Go Go.Vo
open Nat (reduceAdd reduceSub reduceMul reduceLeDiff reduceLT reduceEqDiff)
open Int (reduceNeg)

abbrev LPr:=Str × LTerm
abbrev LSub:=List LPr
def prT (p:LPr):List AV:=.s p.1::aA p.2
def avu (u:LSub):AV:=.sl (u.flatMap prT) u.length
def avw (l:List LSub):AV:=.sl (l.map avu) l.length
theorem V6 (p:LPr):(prT p).length=7:=by rw [prT,aW]; rfl
theorem aZc (p:LPr):persL (prT p)=true:=by rw [prT,persL,aUj]; rfl
theorem qJ {u:LSub}:persL (u.flatMap prT)=true:=kX fun x _=>aZc x
section
variable {k:Nat} {u:LSub}
theorem bIs (h:k < u.length):((u.flatMap prT).drop (k * 7)).take 7=prT (u.getD k default):=by
 rw [qO V6]
 simp [h,List.getD]
theorem bDa (h:k < u.length):(u.flatMap prT)[k * 7]? = some (.s (u.getD k default).1):=by
 have:=aFy V6 u k (j:=0) (by omega)
 simpa [h,List.getD,prT] using this
theorem tO:(u.flatMap prT).length=u.length * 7:=oG V6 u
theorem bCz:(u.flatMap prT).take (k * 7)=(u.take k).flatMap prT:=vU V6 u k
theorem aNa:(u.flatMap prT).drop (k * 7)=(u.drop k).flatMap prT:=vV V6 u k
end
attribute [go_sem] bIs bDa tO bCz qJ aZc
theorem aNc (u:LSub):pers (avu u)=true:=qJ
theorem iM {l:List LSub}:persL (l.map avu)=true:=by
 induction l with
 | nil=>rfl
 | cons u l ih=>rw [aZ,persL,aNc,ih]; rfl
theorem iK (l:List LSub):pers (avw l)=true:=iM
def mOf (u:LSub) (x:Str):Option LTerm:=(u.find? fun p=>decide (p.1=x)).map (·.2)
def X6 (o:Option LTerm):AV:=match o with
 | some t=>.tup [elT t,.b true]
 | none=>.tup [elT zT,.b false]
theorem aVc {u:LSub} {x:Str} {k:Nat} (h:k < u.length) (h1:∀ j,j < k→¬ (u.getD j default).1=x) (h2:(u.getD k default).1=x):mOf u x=some (u.getD k default).2:=by
 induction u generalizing k with
 | nil=>cases h
 | cons p u ih=>
   rw [mOf,xJ]
   cases k with
   | zero=>rw [zt (by simpa using h2)]; rfl
   | succ k=>
     have:=h1 0 (by omega)
     rw [zf (by simpa using this)]
     have:=ih (k:=k) (by simpa using h) (fun j hj=>by simpa using h1 (j+1) (by omega)) (by simpa using h2)
     rw [mOf] at this
     rw [aSj]; exact this
theorem aVd {u:LSub} {x:Str} (h1:∀ j,j < u.length→¬ (u.getD j default).1=x):mOf u x=none:=by
 induction u with
 | nil=>rfl
 | cons p u ih=>
   rw [mOf,xJ]
   have:=h1 0 (by simp)
   rw [zf (by simpa using this)]
   have:=ih (fun j hj=>by simpa using h1 (j+1) (by simpa using hj))
   rwa [mOf] at this
theorem bAa (u:LSub) (x:Str) (hu:u.length≤1000000000): CT 250 [avu u,.s x] (X6 (mOf u x)):=by
 refine cQ mixed Tryz.func250 g0 ?_
 · generalize hR:((X6 (mOf u x)):AV)=R
   simp -implicitDefEqProofs (disch:=omega) only [Tryz.f250,go_sem,List.replicate,↓reduceIte,reduceAdd,reduceSub,reduceMul,reduceLeDiff,reduceLT,reduceEqDiff,reduceNeg,Nat.reduceBEq,avu]
   refine bQ (fun (q:Nat × List AObj)=>[.k,.k,.k,.k,.k,.j,.k,.j,.k,.k,.v (.i .i64 (q.1:Nat)),.j,.j,.j,.j,.j,.j,.j,.j,.j,.j,.k]) (fun q=>(.box false [.i .i64 0,.i .i64 0,.s [],.s [],.e0,.e0]::q.2)) (fun q=>q.1≤u.length∧∀ j,j < q.1→¬ (u.getD j default).1=x) (fun q=>u.length - q.1) ((0,[])) ⟨aF _,fun j h=>by omega⟩ rfl (by simp [fD]) ?_
   rintro ⟨k,g⟩ j ⟨hk,ha⟩
   dsimp only at hk ha
   by_cases hlt:k < u.length
   · have hki:(k:Int) < ((u.length:Nat):Int):=by omega
     simp -implicitDefEqProofs (disch:=omega) only [zt hki,prT,aW,go_sem,↓reduceIte,reduceAdd,reduceSub,reduceMul,reduceLeDiff,reduceLT,reduceEqDiff,reduceNeg,Nat.reduceBEq]
     (repeat' (first | refine gT ?_ ?_ | refine gF ?_ ?_ | refine gC ?_ ?_ | refine aK (by omega) ?_ | (intro hr; have hc:=hr; (try simp only [zdz] at hc); simp -implicitDefEqProofs (disch:=omega) only [hr,zt hki,prT,aW,go_sem,↓reduceIte,reduceAdd,reduceSub,reduceMul,reduceLeDiff,reduceLT,reduceEqDiff,reduceNeg,Nat.reduceBEq]; (try clear hr))))
     · subst hR
       rw [aVc hlt ha hc,X6,elT,aW]
       exact aG rfl (by simp [pers,persL,avt,fE])
     · exact ⟨(k+1,_),⟨by dsimp only; omega,fun j hj=>(by rcases oX.1 hj with h1 | rfl; exact ha j h1; exact hc)⟩,by dsimp only; omega,rfl,by simp⟩
   · have hki:¬ (k:Int) < ((u.length:Nat):Int):=by omega
     simp -implicitDefEqProofs (disch:=omega) only [zf hki,go_sem,↓reduceIte,reduceAdd,reduceSub,reduceMul,reduceLeDiff,reduceLT,reduceEqDiff,reduceNeg,Nat.reduceBEq]
     subst hR
     rw [aVd (fun j hj=>ha j (by omega)),X6,elT,aW]
     exact .inr ⟨by exact ⟨⟨rfl,rfl,rfl,rfl,rfl,rfl,trivial⟩,rfl,trivial⟩,eS,fun i hi=>absurd hi (by show ¬ i ∈ []; simp)⟩

def gtS (a b:Str):Bool := !(Op.bytesLess a b || decide (a=b))
def aIz (u:LSub) (x:Str):Nat→Nat
 | 0=>0
 | k+1=>if gtS (u.getD k default).1 x=true then aIz u x k else k+1
def aOn (u:LSub) (x:Str) (t:LTerm):LSub:=u.take (aIz u x u.length)++(x,t)::u.drop (aIz u x u.length)
def kA (s:cI) (v t:LTerm) (u:LSub):List LSub:=
 if jE s (iL s t) v.sort=true then (if v.text=[95] then [u] else match mOf u v.text with
   | some o=>if o=t then [u] else []
   | none=>[aOn u v.text t]) else []
abbrev MR:=List LSub × Bool
def pK (b:Bool) (l:List LSub):MR:=if 1000 < l.length then ([],true) else (l,b)
def jN (s:cI) (p t:LTerm) (u:LSub):List LSub:=if p.kind=6 then kA s p t u else if p=t then [u] else []
def C4 (s:cI) (p t:LTerm) (l:List LSub) (b:Bool):MR:=pK b (l.flatMap (jN s p t))
structure jG where
 u:LSub
 left:List LTerm
instance:Inhabited jG:=⟨⟨[],[]⟩⟩
def X7 (l:List LTerm) (i:Nat):List LTerm:=l.take i++l.drop (i+2)
section
variable (A:LTerm→LTerm→List LSub→Bool→MR) (s:cI)
def oV:List LTerm→List LTerm→List LSub→Bool→MR
 | p::ps,t::ts,l,b=>oV ps ts (A p t l b).1 (A p t l b).2
 | _,_,l,b=>(l,b)
def nB (key:LTerm) (w:jG) (k:Nat):List LSub:=
 match (if key.kind=6 then mOf w.u key.text else some key) with
 | none=>kA s key (w.left.getD (2 * k) default) w.u
 | some a=>if a=w.left.getD (2 * k) default then [w.u] else []
def aOm (key value:LTerm) (w:jG) (k:Nat) (b:Bool):List jG × Bool:=
 ((A value (w.left.getD (2 * k+1) default) (nB s key w k) b).1.map fun u=>⟨u,X7 w.left (2 * k)⟩,(A value (w.left.getD (2 * k+1) default) (nB s key w k) b).2)
def lV (key value:LTerm) (w:jG):Nat→Bool→List jG × Bool
 | 0,b=>([],b)
 | k+1,b=>((lV key value w k b).1++(aOm A s key value w k (lV key value w k b).2).1,(aOm A s key value w k (lV key value w k b).2).2)
def kS (key value:LTerm):List jG→Bool→List jG × Bool
 | [],b=>([],b)
 | w::ws,b=>((lV A s key value w (w.left.length / 2) b).1++(kS key value ws (lV A s key value w (w.left.length / 2) b).2).1,(kS key value ws (lV A s key value w (w.left.length / 2) b).2).2)
def pL (key value:LTerm) (ws:List jG) (b:Bool):List jG × Bool:=
 if 1000 < (kS A s key value ws b).1.length then ([],true) else kS A s key value ws b
def lO (p:LTerm):Nat→List jG × Bool→List jG × Bool
 | 0,r=>r
 | k+1,r=>pL A s (p.kids.getD (2 * k) default) (p.kids.getD (2 * k+1) default) (lO p k r).1 (lO p k r).2
def J6 (p:LTerm) (w:jG):List LSub:=
 if 0 < p.rest.length then kA s (p.rest.getD 0 default) (.mk 8 0 [] [] w.left []) w.u else if w.left.length=0 then [w.u] else []
def tE (p t:LTerm) (l:List LSub) (b:Bool):MR:=
 pK (lO A s p (p.kids.length / 2) (l.map (jG.mk · t.kids),b)).2 ((lO A s p (p.kids.length / 2) (l.map (jG.mk · t.kids),b)).1.flatMap (J6 s p))
end
def iB (s:cI):Nat→LTerm→LTerm→List LSub→Bool→MR
 | 0,_,_,_,b=>([],b)
 | n + 1,p,t,l,b=>
   if p.kind=5 then (if t.kind=5∧t.text=p.text∧t.kids.length=p.kids.length then oV (iB s n) p.kids t.kids l b else ([],b))
   else if p.kind=7 then (if t.kind=7∧p.kids.length≤t.kids.length∧(p.rest.length=0→t.kids.length≤p.kids.length) then
       (if 0 < p.rest.length then C4 s (p.rest.getD 0 default) (.mk 7 0 [] [] (t.kids.drop p.kids.length) []) (oV (iB s n) p.kids (t.kids.take p.kids.length) l b).1 (oV (iB s n) p.kids (t.kids.take p.kids.length) l b).2
        else oV (iB s n) p.kids (t.kids.take p.kids.length) l b) else ([],b))
   else if p.kind=8 then (if t.kind=8 then tE (iB s n) s p t l b else ([],b))
   else C4 s p t l b

mutual
def mOk (s:cI):LTerm→LTerm→Bool
 | .mk k n x so ks rs,t=>
   if k=5 then decide (t.kind=5) && (decide (t.text=x) && (decide (t.kids.length=ks.length) && mOkL s ks t.kids))
   else if k=7 then decide (t.kind=7) && ((if 0 < rs.length then decide (ks.length≤t.kids.length) else decide (t.kids.length=ks.length)) && mOkL s ks t.kids)
   else if k=8 then decide (t.kind=8)
   else if k=6 then decide (so=P9) || jE s (iL s t) so
   else decide (LTerm.mk k n x so ks rs=t)
def mOkL (s:cI):List LTerm→List LTerm→Bool
 | p::ps,t::ts=>mOk s p t && mOkL s ps ts
 | [],_=>true
 | _::_,[]=>false
end
theorem aOk (s:cI) (p t:LTerm):mOk s p t =
   if p.kind=5 then decide (t.kind=5) && (decide (t.text=p.text) && (decide (t.kids.length=p.kids.length) && mOkL s p.kids t.kids))
   else if p.kind=7 then decide (t.kind=7) && ((if 0 < p.rest.length then decide (p.kids.length≤t.kids.length) else decide (t.kids.length=p.kids.length)) && mOkL s p.kids t.kids)
   else if p.kind=8 then decide (t.kind=8)
   else if p.kind=6 then decide (p.sort=P9) || jE s (iL s t) p.sort
   else decide (p=t):=by cases p; rw [mOk]; rfl
theorem S5:∀ {q:List Int} {t0 t:LTerm} {i:Nat},uF t0 q=some t→uF t0 (q++[(i:Int)])=if i < t.kids.length then some (t.kids.getD i default) else none
 | [],t0,t,i,h=>by
   simp only [uF,aB] at h
   subst h
   simp only [cH,uF,Int.toNat_natCast]
   by_cases hi:i < t0.kids.length
   · rw [if_pos ⟨by omega,by omega⟩,if_pos hi]
   · rw [if_neg (by omega),if_neg hi]
 | j :: q,t0,t,i,h=>by
   rw [uF] at h
   split at h
   · rename_i hj
     rw [cC,uF,if_pos hj]
     exact S5 h
   · cases h
theorem aLg {s:cI} {t0:LTerm}:∀ (p:LTerm) (q:List Int) (t:LTerm),uF t0 q=some t→((dZ p q).all fun a=>oF s a t0)=mOk s p t:=
 dK (Q := fun p=>∀ (q:List Int) (t:LTerm),uF t0 q=some t→((dZ p q).all fun a=>oF s a t0)=mOk s p t) fun p hk _ q t hw=>by
   have L:∀ (ks:List LTerm) (i:Nat),(∀ k ∈ ks,k ∈ p.kids)→i+ks.length≤t.kids.length→((testsL ks q i).all fun a=>oF s a t0)=mOkL s ks (t.kids.drop i):=by
     intro ks
     induction ks with
     | nil=>intro i _ _; rw [testsL]; cases t.kids.drop i <;> rfl
     | cons k ks ih=>
       intro i hm hl
       rw [aL] at hl
       have hi:i < t.kids.length:=by omega
       rw [testsL,lZ,hk k (hm k (by simp)) _ (t.kids.getD i default) (by rw [S5 hw,if_pos hi]),ih (i+1) (fun k h=>hm k (by simp [h])) (by omega),bR hi,mOkL]
       rw [dT,aT hi]; rfl
   rw [lL,aOk]
   have one:∀ te:LTest,oF s ⟨q,te⟩ t0=aCq s te t:=fun te=>by rw [oF,hw]
   by_cases h5:p.kind=5
   · rw [if_pos h5,if_pos h5,dH,one]
     simp only [aCq,(by decide:¬ (2:Int)=1),if_false,if_true]
     by_cases hl:t.kids.length=p.kids.length
     · rw [L p.kids 0 (fun k h=>h) (by omega),cS,zt hl,zt (by omega:(t.kids.length:Int)=(p.kids.length:Int))]
       simp only [Bool.and_true,Bool.true_and,kW]
     · rw [zf hl,zf (by omega:¬ (t.kids.length:Int)=(p.kids.length:Int))]
       simp only [Bool.and_false,Bool.false_and]
   rw [if_neg h5,if_neg h5]
   by_cases h7:p.kind=7
   · rw [if_pos h7,if_pos h7,dH,one]
     by_cases hr:0 < p.rest.length
     · simp only [if_pos hr,aCq,(by decide:¬ (4:Int)=1),(by decide:¬ (4:Int)=2),(by decide:¬ (4:Int)=3),if_false,if_true]
       by_cases hl:p.kids.length≤t.kids.length
       · rw [L p.kids 0 (fun k h=>h) (by omega),cS,zt hl,zt (by omega:(p.kids.length:Int)≤(t.kids.length:Int))]
         simp only [Bool.and_true,Bool.true_and]
       · rw [zf hl,zf (by omega:¬ (p.kids.length:Int)≤(t.kids.length:Int))]
         simp only [Bool.and_false,Bool.false_and]
     · simp only [if_neg hr,aCq,(by decide:¬ (3:Int)=1),(by decide:¬ (3:Int)=2),if_false,if_true]
       by_cases hl:t.kids.length=p.kids.length
       · rw [L p.kids 0 (fun k h=>h) (by omega),cS,zt hl,zt (by omega:(t.kids.length:Int)=(p.kids.length:Int))]
         simp only [Bool.and_true,Bool.true_and]
       · rw [zf hl,zf (by omega:¬ (t.kids.length:Int)=(p.kids.length:Int))]
         simp only [Bool.and_false,Bool.false_and]
   rw [if_neg h7,if_neg h7]
   by_cases h8:p.kind=8
   · rw [if_pos h8,if_pos h8,dH,aDx,one,Bool.and_true]
     rfl
   rw [if_neg h8,if_neg h8]
   by_cases h6:p.kind=6
   · rw [if_pos h6,if_pos h6]
     by_cases ha:p.sort=P9
     · rw [if_pos ha,zt ha]; rfl
     · rw [if_neg ha,zf ha,dH,aDx,one,Bool.and_true,cO]
       rfl
   rw [if_neg h6,if_neg h6,dH,aDx,one,Bool.and_true]
   rfl
theorem aFc {s:cI} {p t:LTerm}:wW s t p=mOk s p t:=aLg p [] t rfl
theorem aLb {b:Bool} {l:List LSub} (h:(pK b l).1 ≠ []):(pK b l).1=l:=by
 rw [pK] at h ⊢
 split
 · rename_i hc; rw [if_pos hc] at h; exact absurd rfl h
 · rfl
theorem aQa {s:cI} {p t:LTerm} {l:List LSub} {b:Bool} (h:(C4 s p t l b).1 ≠ []):l ≠ []∧∃ u ∈ l,jN s p t u ≠ []:=by
 have e:=aLb h
 rw [C4,e] at h
 have hl:l ≠ []:=fun e=>h (by rw [e]; rfl)
 refine ⟨hl,?_⟩
 apply nU
 intro hn
 apply h
 rw [List.flatMap_eq_nil_iff]
 intro u hu
 apply nU
 intro hx
 exact hn ⟨u,hu,hx⟩
theorem bGi {s:cI} {v t:LTerm} {u:LSub} (h:kA s v t u ≠ []):jE s (iL s t) v.sort=true:=by
 rw [kA] at h
 split at h
 · assumption
 · exact absurd rfl h
theorem aMj {A:LTerm→LTerm→List LSub→Bool→MR} {s:cI} (hA:∀ p t l b,(A p t l b).1 ≠ []→l ≠ []∧mOk s p t=true):∀ {ps ts:List LTerm} {l:List LSub} {b:Bool},ps.length≤ts.length→(oV A ps ts l b).1 ≠ []→l ≠ []∧mOkL s ps ts=true
 | [],[],l,b,_,h=>⟨h,rfl⟩
 | [],t::ts,l,b,_,h=>⟨h,rfl⟩
 | p::ps,[],l,b,hl,h=>by simp at hl
 | p::ps,t::ts,l,b,hl,h=>by
   rw [oV] at h
   obtain ⟨h1,h2⟩:=aMj hA (by simpa using hl) h
   obtain ⟨h3,h4⟩:=hA p t l b h1
   exact ⟨h3,by rw [mOkL,h4,h2]; rfl⟩
theorem C3 {s:cI}:∀ {ps ts:List LTerm} {n:Nat},ps.length≤n→mOkL s ps (ts.take n)=mOkL s ps ts
 | [],ts,n,_=>by rw [mOkL,mOkL] <;> simp
 | p::ps,[],n,_=>by simp
 | p::ps,t::ts,0,h=>by simp at h
 | p::ps,t::ts,n+1,h=>by rw [cV,mOkL,mOkL,C3 (by simpa using h)]
theorem C1 {s:cI}:∀ {n:Nat} {p t:LTerm} {l:List LSub} {b:Bool},(iB s n p t l b).1 ≠ []→l ≠ []∧mOk s p t=true
 | 0,p,t,l,b,h=>absurd rfl h
 | n + 1,p,t,l,b,h=>by
   have hA:=fun p t l b=>C1 (s:=s) (n:=n) (p:=p) (t:=t) (l:=l) (b:=b)
   rw [iB] at h
   rw [aOk]
   split at h
   · rename_i h5
     split at h
     · rename_i hc
       obtain ⟨c1,c2,c3⟩:=hc
       obtain ⟨h1,h2⟩:=aMj hA (by omega) h
       rw [if_pos h5,zt c1,zt c2,zt c3,h2]
       exact ⟨h1,rfl⟩
     · exact absurd rfl h
   rename_i h5
   rw [if_neg h5]
   split at h
   · rename_i h7
     split at h
     · rename_i hc
       obtain ⟨c1,c2,c3⟩:=hc
       have hrow:(oV (iB s n) p.kids (t.kids.take p.kids.length) l b).1 ≠ []:=by
         split at h
         · exact (aQa h).1
         · exact h
       obtain ⟨h1,h2⟩:=aMj hA (by rw [bZ]; omega) hrow
       rw [C3 (bA _)] at h2
       rw [if_pos h7,zt c1,h2,Bool.true_and,Bool.and_true]
       refine ⟨h1,?_⟩
       split
       · exact zt c2
       · exact zt (by have:=c3 (by omega); omega)
     · exact absurd rfl h
   rename_i h7
   rw [if_neg h7]
   split at h
   · rename_i h8
     split at h
     · rename_i hc
       rw [if_pos h8]
       refine ⟨fun e=>?_,zt hc⟩
       subst e
       have htab:∀ k b,(lO (iB s n) s p k ([],b)).1=[]:=by
         intro k
         induction k with
         | zero=>intro b; rfl
         | succ k ih=>
           intro b
           rw [lO,ih,pL,kS]
           rfl
       rw [tE,bO] at h
       have:=aLb h
       rw [this,htab] at h
       exact h rfl
     · exact absurd rfl h
   rename_i h8
   rw [if_neg h8]
   obtain ⟨h1,u,hu,h2⟩:=aQa h
   rw [jN] at h2
   split at h2
   · rename_i h6
     rw [if_pos h6,bGi h2,dG]
     exact ⟨h1,rfl⟩
   · rename_i h6
     rw [if_neg h6]
     split at h2
     · rename_i he; exact ⟨h1,zt he⟩
     · exact absurd rfl h2
end Go.Proofs.YtifefbhllfdmlaaGreatDoor

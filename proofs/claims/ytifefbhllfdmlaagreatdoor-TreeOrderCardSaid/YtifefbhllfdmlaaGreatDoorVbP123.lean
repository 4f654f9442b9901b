/-
  What functions of the chapter return, as plain functions of what they are given; no condition beyond those that each theorem names.
-/
import Derived.Test.YtifefbhllfdmlaaGreatDoorVbP122
import Derived.Test.YtifefbhllfdmlaaGreatDoorVoP130
import Derived.Test.YtifefbhllfdmlaaGreatDoorVbP121
set_option maxRecDepth 100000
set_option linter.unusedSimpArgs false
set_option linter.unusedVariables false
set_option maxHeartbeats 4000000
namespace Go.Proofs.YtifefbhllfdmlaaGreatDoor
open Go Go.Vo
open Nat (reduceAdd reduceSub reduceMul reduceLeDiff reduceLT reduceEqDiff)
open Int (reduceNeg)

def eQ (s:dF) (n:Int):List AV:=[cU s,.i .i64 n]
theorem nL {s:dF} {n:Int}:persL (eQ s n)=true:=by simp [eQ,persL,pers,pK]
def aFe (s:dF) (r:hZ) (p:Option Int):Bool:=decide (0≤r.index) && ((match p with | none=>true | some q=>decide (q < r.index)) && (decide (r.left.length≤4000) && r.left.all (isAskV s)))
def qY (s:dF):List hZ→Option Int→Bool
 | [],_=>true
 | r::l,p=>aFe s r p && qY s l (some r.index)
theorem bFh (s:dF) (n:Int) (a:LAsk) (ha:OkK a): CT 177 [.agg (aL a),.box [.box (eQ s n) 0] 0] (.b (!isAskV s a)):=by
 refine eD (rx:=true) (th:=fun _=>none) mixed Tryz.func177 g0 ?_
 · simp -implicitDefEqProofs (disch:=omega) only [Tryz.f177,go_sem,List.replicate,↓reduceIte,reduceAdd,reduceSub,reduceMul,reduceLeDiff,reduceLT,reduceEqDiff,reduceNeg,Nat.reduceBEq,aL,avt,eQ]
   have c:=yW s a ha
   simp only [aL,avt] at c
   (refine zt1 c ?_; repeat' first | exact trivial | refine zJ ?_ ?_ | refine zH fun hc=>?_)
   all_goals exact aP rfl rfl
theorem aPx {s:dF} {l:List hZ} {k:Nat} {p:Option Int} (h:k < l.length):qY s (l.drop k) p=(aFe s (l.getD k default) p && qY s (l.drop (k+1)) (some (l.getD k default).index)):=by
 rw [cP h,qY]; simp [List.getD,h]
def xX (l:List hZ) (k:Nat):Option Int:=if k=0 then none else some (l.getD (k - 1) default).index
theorem bFl (s:dF) (n:Int) (l:List hZ) (hl:l.length≤1000000) (ho:∀ r ∈ l,r.left.length≤1000000∧∀ a ∈ r.left,OkK a): CT 115 [.box (eQ s n) 0,avr l] (.b (qY s l none)):=by
 refine eD (rx:=true) (th:=fun _=>none) mixed Tryz.func115 g0 ?_
 · simp -implicitDefEqProofs (disch:=omega) only [Tryz.f115,go_sem,List.replicate,↓reduceIte,reduceAdd,reduceSub,reduceMul,reduceLeDiff,reduceLT,reduceEqDiff,reduceNeg,Nat.reduceBEq,avr]
   (refine zs0 ?_; repeat' first | exact trivial | refine zJ ?_ ?_ | refine zH fun hc=>?_)
   refine jW (fun (k:Nat)=>[.k,.k,.k,.k,.j,.j,.j,.k,.k,.v (.i .i64 (k:Nat)),.j,.j,.j,.j,.j,.j,.j,.j,.j,.j,.j,.j,.j,.j,.j,.j,.j,.j,.j,.j,.j,.j,.j,.j,.j,.j,.j,.j,.j,.j,.j,.j,.j,.j,.j]) (fun k=>[.box false [.box (eQ s n) 0]]) (fun k=>k≤l.length∧qY s l none=qY s (l.drop k) (xX l k)) (fun k=>l.length - k) (0) [] ⟨aT _,rfl⟩ (by simp [avs,avb,avi,avo,dA,cB]) (by simp [iL]) ?_
   rintro k g j ⟨hk,hv⟩
   by_cases hlt:k < l.length
   · have hki:(k:Int) < ((l.length:Nat):Int):=by omega
     rw [aPx hlt] at hv
     obtain ⟨q1,q2⟩:=ho _ (cC (d:=default) hlt)
     have c:=aWc (l.getD k default).left 177 [] [.box [.box (eQ s n) 0] 0] (fun a => !isAskV s a) q1 rfl (by simp [persL,pers,nL]) (fun i hi=>bFh s n _ (q2 _ (cC hi)))
     have e:((l.getD k default).left.any fun a => !isAskV s a) = !(l.getD k default).left.all (isAskV s):=L6.symm
     rw [e] at c
     clear e
     simp only [ava] at c
     have hro:aFe s (l.getD k default) (xX l k)=(decide (0≤(l.getD k default).index) && ((match xX l k with | none=>true | some q=>decide (q < (l.getD k default).index)) && (decide ((l.getD k default).left.length≤4000) && (l.getD k default).left.all (isAskV s)))):=rfl
     generalize (l.getD k default).left.all (isAskV s)=A at *
     have fin:∀ {b:Bool} {H:List AObj},aFe s (l.getD k default) (xX l k)=false→b=false→Fin H (.b b) (.b (qY s l none)):=fun h1 h2=>aP (by rw [hv,h1,h2]; rfl) rfl
     have nxt:aFe s (l.getD k default) (xX l k)=true→qY s l none=qY s (l.drop (k+1)) (xX l (k+1)):=fun h=>by rw [hv,h,aM,xX,if_neg (by omega)]; simp
     rcases Nat.eq_zero_or_pos k with h0 | h0
     · have hz:¬ (0:Int) < (k:Int):=by omega
       have hp:xX l k=none:=by rw [xX,if_pos h0]
       rw [hp] at hro
       dsimp only at hro
       refine zh (zA2 (zt hki) (zA2 @cN.eq_1 (zf hz))) ?_
       (refine zy1 (zA2 @nL (zA2 (zt hki) (zA2 @cN.eq_1 (zf hz)))) c ?_; repeat' first | exact trivial | refine zJ ?_ ?_ | refine zH fun hc=>?_)
       all_goals first
         | exact ⟨k+1,_,⟨by omega,nxt (by rw [hp,hro]; (simp_all) <;> omega)⟩,by omega,rfl,by simp⟩
         | exact fin (by rw [hp,hro]; (simp_all) <;> omega) rfl
     · have hz:(0:Int) < (k:Int):=by omega
       have hp:xX l k=some (l.getD (k - 1) default).index:=by rw [xX,if_neg (by omega)]
       rw [hp] at hro
       dsimp only at hro
       have hk1:((k:Int) - 1)=((k - 1:Nat):Int):=by omega
       refine zh (zA2 (zt hki) (zA2 @cN.eq_1 (zA2 (zt hz) hk1))) ?_
       (refine zy1 (zA2 @nL (zA2 (zt hki) (zA2 @cN.eq_1 (zA2 (zt hz) hk1)))) c ?_; repeat' first | exact trivial | refine zJ ?_ ?_ | refine zH fun hc=>?_)
       all_goals first
         | exact ⟨k+1,_,⟨by omega,nxt (by rw [hp,hro]; (simp_all) <;> omega)⟩,by omega,rfl,by simp⟩
         | exact fin (by rw [hp,hro]; (simp_all) <;> omega) rfl
   · have hki:¬ (k:Int) < ((l.length:Nat):Int):=by omega
     rw [cK (by omega),qY] at hv
     refine zh (zf hki) ?_
     (refine zx0 (zf hki) ?_; repeat' first | exact trivial | refine zJ ?_ ?_ | refine zH fun hc=>?_)
     all_goals exact aP (by rw [hv]) rfl

abbrev zTe:LTest:=⟨0,zT,[],0⟩
inductive OkV:cM→Prop
 | mk {x:cM}:OkK x.ask→x.rows.length≤1000000→(∀ r ∈ x.rows,r.left.length≤1000000∧∀ a ∈ r.left,OkK a)→x.yes.length≤10000000000000→x.no.length≤10000000000000→(∀ k ∈ x.yes,OkV k)→(∀ k ∈ x.no,OkV k)→OkV x
def aFu (s:dF) (rows:List hZ) (a:LAsk):Bool:=decide (a.path.length=0) && (lR a.test zTe && qY s rows none)
mutual
def mW (s:dF):cM→Int→Int→Bool × Int
 | .mk rows ask yes no,n,d=>if 5000 < n+1∨500 < d then (false,n+1)
   else if yes.length=0∧no.length=0 then (aFu s rows ask,n+1)
   else if yes.length=1∧no.length=1∧rows.length=0∧isAskV s ask=true then
     (if (chkL s yes (n+1) (d+1)).1=true then chkL s no (chkL s yes (n+1) (d+1)).2 (d+1) else (false,(chkL s yes (n+1) (d+1)).2))
   else (false,n+1)
def chkL (s:dF):List cM→Int→Int→Bool × Int
 | [],n,_=>(true,n)
 | y::_,n,d=>mW s y n d
end
theorem aAr (s:dF) (x:cM) (n d:Int):mW s x n d=if 5000 < n+1∨500 < d then (false,n+1)
   else if x.yes.length=0∧x.no.length=0 then (aFu s x.rows x.ask,n+1)
   else if x.yes.length=1∧x.no.length=1∧x.rows.length=0∧isAskV s x.ask=true then
     (if (mW s (x.yes.getD 0 default) (n+1) (d+1)).1=true then mW s (x.no.getD 0 default) (mW s (x.yes.getD 0 default) (n+1) (d+1)).2 (d+1) else (false,(mW s (x.yes.getD 0 default) (n+1) (d+1)).2))
   else (false,n+1):=by
 obtain ⟨rows,ask,yes,no⟩:=x
 rw [mW]
 simp only [cM.rows,cM.ask,cM.yes,cM.no]
 by_cases h1:5000 < n+1∨500 < d
 · simp only [h1,if_true]
 simp only [h1,if_false]
 by_cases h2:yes.length=0∧no.length=0
 · simp only [h2,and_self,if_true]
 simp only [h2,if_false]
 by_cases h3:yes.length=1∧no.length=1∧rows.length=0∧isAskV s ask=true
 · simp only [h3,and_self,if_true]
   obtain ⟨a,b,_,_⟩:=h3
   match yes,no,a,b with
   | [y],[z],_,_=>simp [chkL]; rfl
 · simp only [h3,if_false]
theorem aAq (s:dF):∀ (x:cM) (n d:Int),0≤n→n≤5000→n≤(mW s x n d).2∧(mW s x n d).2≤5001∧((mW s x n d).1=true→(mW s x n d).2≤5000):=
 mP (Q := fun x=>∀ (n d:Int),0≤n→n≤5000→n≤(mW s x n d).2∧(mW s x n d).2≤5001∧((mW s x n d).1=true→(mW s x n d).2≤5000)) fun x hy hn n d h0 h5=>by
   rw [aAr]
   split
   · exact ⟨by dsimp only; omega,by dsimp only; omega,fun h=>by cases h⟩
   · rename_i h1
     split
     · exact ⟨by dsimp only; omega,by dsimp only; omega,fun _=>by dsimp only; omega⟩
     · split
       · rename_i h3
         have a:=hy _ (cC (d:=default) (l:=x.yes) (k:=0) (by omega)) (n+1) (d+1) (by omega) (by omega)
         split
         · rename_i h4
           have b:=hn _ (cC (d:=default) (l:=x.no) (k:=0) (by omega)) (mW s (x.yes.getD 0 default) (n+1) (d+1)).2 (d+1) (by omega) (a.2.2 h4)
           exact ⟨by omega,b.2⟩
         · exact ⟨by dsimp only; omega,by dsimp only; omega,fun h=>by cases h⟩
       · exact ⟨by dsimp only; omega,by dsimp only; omega,fun h=>by cases h⟩
theorem bFm (a b:LTest) (ha:OkT a.term) (hb:OkT b.term): CT 114 [.agg (fY a),.agg (fY b)] (.b (lR a b)):=by
 refine cX mixed Tryz.func114 g0 ?_
 · simp -implicitDefEqProofs (disch:=omega) only [Tryz.f114,go_sem,List.replicate,↓reduceIte,reduceAdd,reduceSub,reduceMul,reduceLeDiff,reduceLT,reduceEqDiff,reduceNeg,Nat.reduceBEq,fY,avt]
   (refine zt1 (aMn a.term b.term ha hb) ?_; repeat' first | exact trivial | refine zJ ?_ ?_ | refine zH fun hc=>?_)
   all_goals (refine aP ?_ rfl; simp_all [lR])

theorem bPd (s:dF) (x:cM) (n d:Int) (g:List AObj) (hg:g.all AObj.persO=true) (hx:OkV x) (hn:0≤n) (hn5:n≤5000) (hd:1≤d) (hd5:d≤501) (ihy:∀ y ∈ x.yes,∀ (n d:Int) (g:List AObj),g.all AObj.persO=true→0≤n→n≤5000→1≤d→d≤501→ACalls Tryz.prog G0 65 [.ptr 0 0,elX y,.i .i64 d] (.box false (eQ s n)::g) (fun r h'=>r=.b (mW s y n d).1∧h'=.box false (eQ s (mW s y n d).2)::g)) (ihn:∀ y ∈ x.no,∀ (n d:Int) (g:List AObj),g.all AObj.persO=true→0≤n→n≤5000→1≤d→d≤501→ACalls Tryz.prog G0 65 [.ptr 0 0,elX y,.i .i64 d] (.box false (eQ s n)::g) (fun r h'=>r=.b (mW s y n d).1∧h'=.box false (eQ s (mW s y n d).2)::g)): ACalls Tryz.prog G0 65 [.ptr 0 0,elX x,.i .i64 d] (.box false (eQ s n)::g) (fun r h'=>r=.b (mW s x n d).1∧∃ z,h'=.box false (eQ s (mW s x n d).2)::(g++z)):=by
 refine hJ (rx:=true) (th:=fun i=>if i=6 then some ⟨none,[0],false,false,false,[69,70,71],[84,94],0⟩ else none) mixed Tryz.func65 ?_
 · simp -implicitDefEqProofs (disch:=omega) only [Tryz.f65,go_sem,List.replicate,↓reduceIte,reduceAdd,reduceSub,reduceMul,reduceLeDiff,reduceLT,reduceEqDiff,reduceNeg,Nat.reduceBEq,eQ]
   obtain ⟨x1,x2,x3,x4,x5⟩:OkK x.ask∧x.rows.length≤1000000∧(∀ r ∈ x.rows,r.left.length≤1000000∧∀ a ∈ r.left,OkK a)∧x.yes.length≤10000000000000∧x.no.length≤10000000000000:=by cases hx; exact ⟨by assumption,by assumption,by assumption,by assumption,by assumption⟩
   have e:=aAr s x n d
   by_cases h1:5000 < n+1
   · rw [if_pos (.inl h1)] at e
     rw [e]
     refine zh (zt h1) ?_
     (refine zx0 (zt h1) ?_; repeat' first | exact trivial | refine zJ ?_ ?_ | refine zH fun hc=>?_)
     all_goals exact ⟨_,rfl⟩
   by_cases h2:500 < d
   · rw [if_pos (.inr h2)] at e
     rw [e]
     refine zh (zA2 (zf h1) (zt h2)) ?_
     (refine zx0 (zA2 (zf h1) (zt h2)) ?_; repeat' first | exact trivial | refine zJ ?_ ?_ | refine zH fun hc=>?_)
     all_goals exact ⟨_,rfl⟩
   rw [if_neg (by omega)] at e
   by_cases h3:x.yes.length=0∧x.no.length=0
   · rw [if_pos h3] at e
     rw [e]
     have c1:=bFm x.ask.test zTe x1.1.term aFq
     have c2:=bFl s (n+1) x.rows x2 x3
     have z1:((x.yes.length:Nat):Int)=0:=by omega
     have z2:((x.no.length:Nat):Int)=0:=by omega
     have hz:¬ 5000 < n+1:=h1
     have el:aFu s x.rows x.ask=(decide (x.ask.path.length=0) && (lR x.ask.test zTe && qY s x.rows none)):=rfl
     generalize lR x.ask.test zTe=A at *
     generalize qY s x.rows none=B at *
     simp only [fY,avt,avr,eQ] at c1 c2
     refine zh (zA2 (zf h1) (zA2 (zf h2) (zA2 (zt z1) (zt z2)))) ?_
     (refine zy2 (zA2 (zf h1) (zA2 (zf h2) (zA2 (zt z1) (zt z2)))) c1 c2 ?_; repeat' first | exact trivial | refine zJ ?_ ?_ | refine zH fun hc=>?_)
     all_goals exact ⟨by rw [el]; simp_all,_,rfl⟩
   rw [if_neg h3] at e
   have o1:(g.length+1=0)=False:=eq_false (by omega)
   have o2:(g.length+1 < g.length+1+1)=True:=eq_true (by omega)
   have c3:=yW s x.ask x1
   simp only [aL,avt,eQ] at c3
   by_cases h4:x.yes.length=1
   · have z4 : ((x.yes.length:Nat):Int)=1:=by omega
     have z3:¬ ((x.yes.length:Nat):Int)=0:=by omega
     by_cases h5:x.no.length=1
     · have z5:((x.no.length:Nat):Int)=1:=by omega
       by_cases h6:x.rows.length=0
       · have z6:((x.rows.length:Nat):Int)=0:=by omega
         rcases iC (isAskV s x.ask) with h7 | h7
         · rw [if_pos ⟨h4,h5,h6,h7⟩] at e
           rw [h7] at c3
           have l1:=aAq s (x.yes.getD 0 default) (n+1) (d+1) (by omega) (by omega)
           have cy:=fun g hg=>ihy _ (cC (d:=default) (l:=x.yes) (k:=0) (by omega)) (n+1) (d+1) g hg (by omega) (by omega) (by omega) (by omega)
           have cn:=fun hq g hg=>ihn _ (cC (d:=default) (l:=x.no) (k:=0) (by omega)) (mW s (x.yes.getD 0 default) (n+1) (d+1)).2 (d+1) g hg (by omega) (l1.2.2 hq) (by omega) (by omega)
           generalize mW s (x.yes.getD 0 default) (n+1) (d+1)=Y at *
           have hgx:(g++[AObj.box false [.sl ((x).rows.flatMap cN) (x).rows.length,.sl ((x).ask.path.map (.i .i64)) (x).ask.path.length,.i .i64 (x).ask.test.op,.i .i64 (x).ask.test.term.kind,.i .i64 (x).ask.test.term.n,.s (x).ask.test.term.text,.s (x).ask.test.term.sort,.sl ((x).ask.test.term.kids.flatMap aE) (x).ask.test.term.kids.length,.sl ((x).ask.test.term.rest.flatMap aE) (x).ask.test.term.rest.length,.s (x).ask.test.text,.i .i64 (x).ask.test.n,.sl ((x).yes.flatMap dG) (x).yes.length,.sl ((x).no.flatMap dG) (x).no.length]]).all AObj.persO=true:=by rw [jZ,hg]; simp [AObj.persO,persL,pers,iF,fX,jD,Q5]
           have cy1:=cy _ hgx
           simp only [elX,dU,avr,avt,avx,eQ] at cy1
           obtain ⟨y1,y2⟩:=Y
           dsimp only at *
           refine zh (zA2 o1 (zA2 o2 (zA2 (zf h1) (zA2 (zf h2) (zA2 (zf z3) (zA2 (zt z4) (zA2 (zt z5) (zt z6)))))))) ?_
           (refine zy1 (zA2 o1 (zA2 o2 (zA2 (zf h1) (zA2 (zf h2) (zA2 (zf z3) (zA2 (zt z4) (zA2 (zt z5) (zt z6)))))))) c3 ?_; repeat' first | exact trivial | refine zJ ?_ ?_ | refine zH fun hc=>?_)
           refine aTj cy1 rfl (wU (N:=⟨g.length+1+1,[0]⟩) (h:=_::_) (id:=0) (ob:=_) (by simp [DR.old])) ?_
           cases y1
           · rw [if_neg (by simp)] at e
             rw [e]
             refine zg ?_
             exact ⟨_,rfl⟩
           · rw [if_pos rfl] at e
             have cn1:=cn rfl _ hgx
             simp only [elX,dU,avr,avt,avx,eQ] at cn1
             refine zh (zA2 o1 (zA2 o2 (zt z5))) ?_
             refine ⟨by omega,by omega,?_⟩
             refine aTj cn1 rfl (wU (N:=⟨g.length+1+1,[0]⟩) (h:=_::_) (id:=0) (ob:=_) (by simp [DR.old])) ?_
             rw [e]
             refine zg ?_
             exact ⟨_,rfl⟩
         · rw [if_neg (fun h=>by rw [h.2.2.2] at h7; cases h7)] at e
           rw [h7] at c3
           rw [e]
           refine zh (zA2 o1 (zA2 o2 (zA2 (zf h1) (zA2 (zf h2) (zA2 (zf z3) (zA2 (zt z4) (zA2 (zt z5) (zt z6)))))))) ?_
           (refine zy1 (zA2 o1 (zA2 o2 (zA2 (zf h1) (zA2 (zf h2) (zA2 (zf z3) (zA2 (zt z4) (zA2 (zt z5) (zt z6)))))))) c3 ?_; repeat' first | exact trivial | refine zJ ?_ ?_ | refine zH fun hc=>?_)
           all_goals exact ⟨_,rfl⟩
       · have z6:¬ ((x.rows.length:Nat):Int)=0:=by omega
         rw [if_neg (fun h=>h6 h.2.2.1)] at e
         rw [e]
         refine zh (zA2 o1 (zA2 o2 (zA2 (zf h1) (zA2 (zf h2) (zA2 (zf z3) (zA2 (zt z4) (zA2 (zt z5) (zf z6)))))))) ?_
         (refine zx0 (zA2 o1 (zA2 o2 (zA2 (zf h1) (zA2 (zf h2) (zA2 (zf z3) (zA2 (zt z4) (zA2 (zt z5) (zf z6)))))))) ?_; repeat' first | exact trivial | refine zJ ?_ ?_ | refine zH fun hc=>?_)
         all_goals exact ⟨_,rfl⟩
     · have z5:¬ ((x.no.length:Nat):Int)=1:=by omega
       rw [if_neg (fun h=>h5 h.2.1)] at e
       rw [e]
       refine zh (zA2 o1 (zA2 o2 (zA2 (zf h1) (zA2 (zf h2) (zA2 (zf z3) (zA2 (zt z4) (zf z5))))))) ?_
       (refine zx0 (zA2 o1 (zA2 o2 (zA2 (zf h1) (zA2 (zf h2) (zA2 (zf z3) (zA2 (zt z4) (zf z5))))))) ?_; repeat' first | exact trivial | refine zJ ?_ ?_ | refine zH fun hc=>?_)
       all_goals exact ⟨_,rfl⟩
   · have z4:¬ ((x.yes.length:Nat):Int)=1:=by omega
     rw [if_neg (fun h=>h4 h.1)] at e
     rw [e]
     by_cases z3:((x.yes.length:Nat):Int)=0
     · have z7:¬ ((x.no.length:Nat):Int)=0:=by omega
       refine zh (zA2 o1 (zA2 o2 (zA2 (zf h1) (zA2 (zf h2) (zA2 (zt z3) (zA2 (zf z4) (zf z7))))))) ?_
       (refine zx0 (zA2 o1 (zA2 o2 (zA2 (zf h1) (zA2 (zf h2) (zA2 (zt z3) (zA2 (zf z4) (zf z7))))))) ?_; repeat' first | exact trivial | refine zJ ?_ ?_ | refine zH fun hc=>?_)
       all_goals exact ⟨_,rfl⟩
     · refine zh (zA2 o1 (zA2 o2 (zA2 (zf h1) (zA2 (zf h2) (zA2 (zf z3) (zf z4)))))) ?_
       (refine zx0 (zA2 o1 (zA2 o2 (zA2 (zf h1) (zA2 (zf h2) (zA2 (zf z3) (zf z4)))))) ?_; repeat' first | exact trivial | refine zJ ?_ ?_ | refine zH fun hc=>?_)
       all_goals exact ⟨_,rfl⟩
theorem vld (s:dF):∀ (x:cM),OkV x→∀ (n d:Int) (g:List AObj),g.all AObj.persO=true→0≤n→n≤5000→1≤d→d≤501→ACalls Tryz.prog G0 65 [.ptr 0 0,elX x,.i .i64 d] (.box false (eQ s n)::g) (fun r h'=>r=.b (mW s x n d).1∧h'=.box false (eQ s (mW s x n d).2)::g):=
 mP (Q:=fun x=>OkV x→∀ (n d:Int) (g:List AObj),g.all AObj.persO=true→0≤n→n≤5000→1≤d→d≤501→ACalls Tryz.prog G0 65 [.ptr 0 0,elX x,.i .i64 d] (.box false (eQ s n)::g) (fun r h'=>r=.b (mW s x n d).1∧h'=.box false (eQ s (mW s x n d).2)::g)) fun x hy hn hx n d g hg h1 h2 h3 h4=>by
   have hh:(∀ k ∈ x.yes,OkV k)∧(∀ k ∈ x.no,OkV k):=by cases hx; exact ⟨by assumption,by assumption⟩
   refine uB (r0:=.b (mW s x n d).1) (h1:=.box false (eQ s (mW s x n d).2)::g) g0 (bPd s x n d g hg hx h1 h2 h3 h4 (fun y hm=>hy y hm (hh.1 y hm)) (fun y hm=>hn y hm (hh.2 y hm))) rfl (by simp [AObj.persO,nL,hg]) (by simp)
theorem bFx (s:dF) (x:cM) (hm:Small s) (hs:OkS s) (hx:OkV x): CT 24 [.agg (cB s),elX x] (.b (gK s && (mW s x 0 1).1)):=by
 refine aQ mixed Tryz.func24 g0 ?_
 · skip
   have c1:=aGd s hm hs
   rcases iC (gK s) with h | h
   · rw [h] at c1
     have c2:=T5 s hm (iB h)
     have c3:=(vld s x hx 0 1 [] rfl (by decide) (by decide) (by decide) (by decide)).mono fun r h' (hq:r=.b (mW s x 0 1).1∧h'=.box false (eQ s (mW s x 0 1).2)::[])=>(⟨hq.1,[],hq.2⟩:r=.b (mW s x 0 1).1∧∃ g,h'=.box false (eQ s (mW s x 0 1).2)::g)
     rw [h,aM]
     (refine zt2 c1 c2 ?_; repeat' first | exact trivial | refine zJ ?_ ?_ | refine zH fun hc=>?_)
     refine bBi 2 g0 c3 nL nL rfl rfl (by simp only [renL,ren,elX,dU,avr,avt,avx,emb,renL_pers _ _ Q5,renL_pers _ _ iF,renL_pers _ _ jD,renL_pers _ _ fX]; rfl) ?_
     intro g
     refine zg ?_
     exact aP rfl rfl
   · rw [h] at c1
     rw [h,aS]
     (refine zt1 c1 ?_; repeat' first | exact trivial | refine zJ ?_ ?_ | refine zH fun hc=>?_)
     all_goals exact aP rfl rfl

def aVd (p:Option Int) (r:hZ):Bool:=match p with | none=>true | some q=>decide (q < r.index)
theorem aPz (s:dF) (r:hZ) (p:Option Int):aFe s r p=(decide (0≤r.index) && (aVd p r && (decide (r.left.length≤4000) && r.left.all (isAskV s)))):=by cases p <;> rfl

mutual
def nodT:cM→Int→Int
 | .mk _ _ yes no,d=>if 500 < d then 5001 else nodL no (d+1) (nodL yes (d+1) 1)
def nodL:List cM→Int→Int→Int
 | [],_,n=>n
 | y::l,d,n=>nodL l d (if n≤5000 then n+nodT y d else n)
end
theorem rQ (x:cM) (d:Int):nodT x d=if 500 < d then 5001 else nodL x.no (d+1) (nodL x.yes (d+1) 1):=by cases x; rw [nodT]; rfl
mutual
def nodesV (s:dF):cM→Bool
 | .mk rows ask yes no=>if yes.length+no.length=0 then aFu s rows ask
   else decide (rows.length=0) && (decide (yes.length=1) && (decide (no.length=1) && (isAskV s ask && (nodesF s yes && nodesF s no))))
def nodesF (s:dF):List cM→Bool
 | []=>true
 | y::_=>nodesV s y
end
theorem pP (s:dF) (x:cM):nodesV s x=if x.yes.length+x.no.length=0 then aFu s x.rows x.ask
   else decide (x.rows.length=0) && (decide (x.yes.length=1) && (decide (x.no.length=1) && (isAskV s x.ask && (nodesV s (x.yes.getD 0 default) && nodesV s (x.no.getD 0 default))))):=by
 obtain ⟨rows,ask,yes,no⟩:=x
 rw [nodesV]
 simp only [cM.rows,cM.ask,cM.yes,cM.no]
 by_cases h:yes.length+no.length=0
 · simp only [h,if_true]
 · simp only [h,if_false]
   by_cases a:yes.length=1
   · by_cases b:no.length=1
     · match yes,no,a,b with
       | [y],[z],_,_=>simp [nodesF]
     · simp [b]
   · simp [a]
theorem I0 {d:Int}:∀ {l:List cM} {n:Int},(∀ y ∈ l,1≤nodT y d)→n≤nodL l d n
 | [],n,_=>by rw [nodL]; omega
 | y::l,n,hy=>by
   have:=hy y (by simp)
   rw [nodL]
   split
   · have:=I0 (l:=l) (n:=n+nodT y d) (fun z hz=>hy z (by simp [hz])); omega
   · exact I0 (l:=l) (n:=n) (fun z hz=>hy z (by simp [hz]))
theorem wP:∀ (x:cM) (d:Int),1≤nodT x d:=
 mP (Q:=fun x=>∀ (d:Int),1≤nodT x d) fun x hy hn d=>by
   rw [rQ]
   split
   · decide
   · have a:=I0 (d:=d+1) (l:=x.yes) (n:=1) (fun y m=>hy y m _)
     have b:=I0 (d:=d+1) (l:=x.no) (n:=nodL x.yes (d+1) 1) (fun y m=>hn y m _)
     omega
theorem qO {y:cM} {d n:Int}:nodL [y] d n=if n≤5000 then n+nodT y d else n:=by rw [nodL,nodL]
theorem bBd (s:dF):∀ (x:cM) (n d:Int),0≤n→n≤5000→((mW s x n d).1=true→nodesV s x=true∧(mW s x n d).2=n+nodT x d)∧(nodesV s x=true→n+nodT x d≤5000→(mW s x n d).1=true):=
 mP (Q := fun x=>∀ (n d:Int),0≤n→n≤5000→((mW s x n d).1=true→nodesV s x=true∧(mW s x n d).2=n+nodT x d)∧(nodesV s x=true→n+nodT x d≤5000→(mW s x n d).1=true)) fun x hy hn n d h0 h5=>by
   have e1:=aAr s x n d
   have e2:=pP s x
   have e3:=rQ x d
   by_cases h1:5000 < n+1∨500 < d
   · rw [if_pos h1] at e1
     rw [e1]
     refine ⟨fun h=>(by cases h),fun _ h=>?_⟩
     rcases h1 with h1 | h1
     · have:=wP x d
       omega
     · rw [if_pos h1] at e3; omega
   · rw [if_neg h1] at e1
     rw [if_neg (fun h=>h1 (.inr h))] at e3
     by_cases h2:x.yes.length=0∧x.no.length=0
     · rw [if_pos h2] at e1
       rw [if_pos (by omega)] at e2
       rw [bO.1 h2.1,bO.1 h2.2,nodL,nodL] at e3
       rw [e1,e2,e3]
       exact ⟨fun h=>⟨h,rfl⟩,fun h _=>h⟩
     · rw [if_neg h2] at e1
       rw [if_neg (by omega)] at e2
       by_cases h3:x.yes.length=1∧x.no.length=1∧x.rows.length=0∧isAskV s x.ask=true
       · rw [if_pos h3] at e1
         rw [zt h3.1,zt h3.2.1,zt h3.2.2.1,h3.2.2.2,aM,aM,aM,aM] at e2
         have hy0:=cC (d:=default) (l:=x.yes) (k:=0) (by omega)
         have hn0:=cC (d:=default) (l:=x.no) (k:=0) (by omega)
         have l1:x.yes=[x.yes.getD 0 default]:=by
           match x.yes,h3.1 with
           | [y],_=>rfl
         have l2:x.no=[x.no.getD 0 default]:=by
           match x.no,h3.2.1 with
           | [y],_=>rfl
         have ay:=hy _ hy0 (n+1) (d+1) (by omega) (by omega)
         have an:=hn _ hn0
         have by1:=aAq s (x.yes.getD 0 default) (n+1) (d+1) (by omega) (by omega)
         rw [l1,l2] at e3
         generalize x.yes.getD 0 default=y at *
         generalize x.no.getD 0 default=z at *
         have hp:=wP z (d+1)
         have e3:nodT x d=if 1+nodT y (d+1)≤5000 then 1+nodT y (d+1)+nodT z (d+1) else 1+nodT y (d+1):=by
           rw [e3,qO (y:=y),if_pos (by decide),qO]
         have e4:1+nodT y (d+1)≤nodT x d:=by rw [e3]; split <;> omega
         rw [e1,e2]
         by_cases q:(mW s y (n+1) (d+1)).1=true
         · rw [if_pos q]
           have q2:=by1.2.2 q
           obtain ⟨p1,p2⟩:=ay.1 q
           have az:=an (mW s y (n+1) (d+1)).2 (d+1) (by omega) q2
           rw [if_pos (by omega)] at e3
           rw [p1,aM,e3]
           refine ⟨fun h=>?_,fun h k=>az.2 h (by omega)⟩
           obtain ⟨r1,r2⟩:=az.1 h
           exact ⟨r1,by omega⟩
         · rw [if_neg q]
           exact ⟨fun h=>(by cases h),fun h k=>absurd (ay.2 ((aB _ _).mp h).1 (by omega)) q⟩
       · rw [if_neg h3] at e1
         rw [e1]
         refine ⟨fun h=>(by cases h),fun h _=>absurd ?_ h3⟩
         rw [e2] at h
         simp only [aB,decide_eq_true_eq] at h
         exact ⟨h.2.1,h.2.2.1,h.1,h.2.2.2.1⟩
def aOr (s:dF) (x:cM):Bool:=gK s && (decide (nodT x 1≤5000) && nodesV s x)
theorem bCt (s:dF) (x:cM):(gK s && (mW s x 0 1).1)=aOr s x:=by
 have h:=bBd s x 0 1 (by decide) (by decide)
 have l:=aAq s x 0 1 (by decide) (by decide)
 rw [aOr]
 congr 1
 rw [kA,aB,decide_eq_true_eq]
 constructor
 · intro a
   have b:=h.1 a
   have c:=l.2.2 a
   exact ⟨by omega,b.1⟩
 · rintro ⟨a,b⟩
   exact h.2 b (by omega)
theorem bAs (s:dF) (x:cM) (hm:Small s) (hs:OkS s) (hx:OkV x):CT 24 [.agg (cB s),elX x] (.b (aOr s x)):=bCt s x ▸ bFx s x hm hs hx

mutual
def goT (s:dF) (t:LTerm):cM→Int→cM × Int
 | .mk rows ask yes no,n=>if yes.length=0 then (.mk rows ask yes no,n) else if fV s ask t=true then goL s t yes (n+1) else goL s t no (n+1)
def goL (s:dF) (t:LTerm):List cM→Int→cM × Int
 | [],n=>(default,n)
 | y::_,n=>goT s t y n
end
theorem S6 (s:dF) (t:LTerm) (x:cM) (n:Int) (hn:x.yes.length=0∨(x.yes.length ≠ 0∧x.no.length ≠ 0)):goT s t x n=if x.yes.length=0 then (x,n) else if fV s x.ask t=true then goT s t (x.yes.getD 0 default) (n+1) else goT s t (x.no.getD 0 default) (n+1):=by
 obtain ⟨rows,ask,yes,no⟩:=x
 rw [goT]
 simp only [cM.rows,cM.ask,cM.yes,cM.no] at *
 rcases hn with h | ⟨h,k⟩
 · simp only [h,if_true]
 · simp only [h,if_false]
   match yes,no,h,k with
   | y::_,z::_,_,_=>simp [goL]
def J5 (s:dF) (t:LTerm):List LAsk→Nat
 | []=>0
 | a::l=>if fV s a t=true then J5 s t l+1 else 1
def kJ (s:dF) (t:LTerm):List hZ→List Int
 | []=>[]
 | r::l=>(if (r.left.all fun a=>fV s a t)=true then [r.index] else [])++kJ s t l
def nD (s:dF) (t:LTerm):List hZ→Nat
 | []=>0
 | r::l=>J5 s t r.left+nD s t l
def sX (s:dF) (x:cM) (t:LTerm):List Int × Int × Int:=
 if (aOr s x && (gK s && nK s t))=true then (kJ s t (goT s t x 0).1.rows,(goT s t x 0).2+(nD s t (goT s t x 0).1.rows:Int),0) else ([],0,2)
def aJp (r:List Int × Int × Int):AV:=.tup [.sl (ints r.1) r.1.length,.i .i64 r.2.1,.i .i64 r.2.2]
theorem wW (s:dF) (t:LTerm):∀ l:List LAsk,J5 s t l≤l.length
 | []=>by simp [J5]
 | a::l=>by
   have:=wW s t l
   rw [J5,aD]
   split <;> omega
theorem aDn {s:dF} {t:LTerm}:∀ {l:List hZ},(∀ r ∈ l,r.left.length≤1000000)→nD s t l≤l.length * 1000000
 | [],_=>by simp [nD]
 | r::l,h=>by
   have:=aDn (s:=s) (t:=t) (l:=l) (fun x hx=>h x (by simp [hx]))
   have:=wW s t r.left
   have:=h r (by simp)
   rw [nD,aD]; omega
theorem vD (s:dF) (t:LTerm):∀ (l m:List hZ),kJ s t (l++m)=kJ s t l++kJ s t m
 | [],m=>rfl
 | r::l,m=>by rw [aU,kJ,kJ,vD s t l m,bW]
theorem vU (s:dF) (t:LTerm):∀ (l m:List hZ),nD s t (l++m)=nD s t l+nD s t m
 | [],m=>by simp [nD]
 | r::l,m=>by rw [aU,nD,nD,vU s t l m]; omega
theorem jT {α:Type} [Inhabited α] {l:List α} {k:Nat} (h:k < l.length):l.take (k+1)=l.take k++[l.getD k default]:=by
 rw [List.take_add_one]; simp [List.getD,h]
theorem aFc {s:dF} {t:LTerm} {l:List hZ} {k:Nat} (h:k < l.length):kJ s t (l.take (k+1))=kJ s t (l.take k)++(if ((l.getD k default).left.all fun a=>fV s a t)=true then [(l.getD k default).index] else []):=by
 rw [jT h,vD]; simp [kJ]
theorem aGf {s:dF} {t:LTerm} {l:List hZ} {k:Nat} (h:k < l.length):nD s t (l.take (k+1))=nD s t (l.take k)+J5 s t (l.getD k default).left:=by
 rw [jT h,vU]; simp [nD]
theorem P6 {s:dF} {t:LTerm}:∀ {l:List hZ},(kJ s t l).length≤l.length
 | []=>by simp [kJ]
 | r::l=>by
   have:=P6 (s:=s) (t:=t) (l:=l)
   rw [kJ,aG,aD]
   split <;> simp <;> omega
theorem aTf {s:dF} {t:LTerm}:∀ {l:List LAsk},(idx (fun a => !fV s a t) l < 0→(l.all fun a=>fV s a t)=true∧J5 s t l=l.length)∧(0≤idx (fun a => !fV s a t) l→(l.all fun a=>fV s a t)=false∧(J5 s t l:Int)=idx (fun a => !fV s a t) l+1):=by
 intro l
 induction l with
 | nil=>exact ⟨fun _=>⟨rfl,rfl⟩,fun h=>absurd h (by simp [idx])⟩
 | cons a l ih=>
   unfold idx at ih ⊢
   rw [eS,hY,J5,aD]
   rcases iC (fV s a t) with h | h
   · simp only [h,bX,aH,if_false,if_true,aM]
     cases hf:l.findIdx? (fun a => !fV s a t) with
     | none=>
       rw [hf] at ih
       have:=ih.1 (by decide)
       exact ⟨fun _=>⟨this.1,by rw [this.2]⟩,fun h=>absurd h (by simp)⟩
     | some i=>
       rw [hf] at ih
       have:=ih.2 (by simp)
       refine ⟨fun h=>absurd h (by simp; omega),fun _=>⟨this.1,?_⟩⟩
       have h2:=this.2
       simp only [cG] at h2 ⊢
       omega
   · simp only [h,bY,aH,if_false,if_true,aS]
     exact ⟨fun h=>absurd h (by simp),fun _=>⟨trivial,rfl⟩⟩
theorem aKo {x:cM} {d:Int} (h1:x.yes.length=1) (h2:x.no.length=1) (hd:nodT x d≤5000):d≤500∧nodT (x.yes.getD 0 default) (d+1)≤5000∧nodT (x.no.getD 0 default) (d+1)≤5000:=by
 have e:=rQ x d
 have hd5:d≤500:=by
   by_cases h:500 < d
   · rw [if_pos h] at e; omega
   · omega
 rw [if_neg (by omega)] at e
 have l1:x.yes=[x.yes.getD 0 default]:=by
   match x.yes,h1 with
   | [y],_=>rfl
 have l2:x.no=[x.no.getD 0 default]:=by
   match x.no,h2 with
   | [y],_=>rfl
 rw [l1,l2] at e
 generalize x.yes.getD 0 default=y at *
 generalize x.no.getD 0 default=z at *
 have a:=wP y (d+1)
 have b:=wP z (d+1)
 rw [qO (y:=y),if_pos (by decide),qO] at e
 split at e <;> exact ⟨hd5,by omega,by omega⟩
theorem Z0 {s:dF} {x:cM} (h:nodesV s x=true) (hy:x.yes.length ≠ 0):x.yes.length=1∧x.no.length=1∧isAskV s x.ask=true∧nodesV s (x.yes.getD 0 default)=true∧nodesV s (x.no.getD 0 default)=true:=by
 rw [pP,if_neg (by omega)] at h
 simp only [aB,decide_eq_true_eq] at h
 exact ⟨h.2.1,h.2.2.1,h.2.2.2.1,h.2.2.2.2.1,h.2.2.2.2.2⟩
structure C6 (s:dF) (t:LTerm) (x0 x:cM) (n:Int):Prop where
 ok:OkV x
 nodes:nodesV s x=true
 n0:0≤n
 nod:nodT x (n+1)≤5000
 go:goT s t x0 0=goT s t x n
theorem C6.step {s:dF} {t:LTerm} {x0 x:cM} {n:Int} (h:C6 s t x0 x n) (hy:x.yes.length ≠ 0) :
   n≤499∧x.yes.length=1∧x.no.length=1∧OkK x.ask∧(fV s x.ask t=true→C6 s t x0 (x.yes.getD 0 default) (n+1))∧(fV s x.ask t=false→C6 s t x0 (x.no.getD 0 default) (n+1)):=by
 obtain ⟨a,b,_,c,d⟩:=Z0 h.nodes hy
 obtain ⟨e1,e2,e3⟩:=aKo a b h.nod
 have hh:OkK x.ask∧(∀ k ∈ x.yes,OkV k)∧(∀ k ∈ x.no,OkV k):=by have:=h.ok; cases this; exact ⟨by assumption,by assumption,by assumption⟩
 have g:=h.go
 have n0:=h.n0
 rw [S6 s t x n (.inr ⟨hy,by omega⟩),if_neg hy] at g
 refine ⟨by omega,a,b,hh.1,fun q=>?_,fun q=>?_⟩
 · rw [if_pos q] at g
   exact ⟨hh.2.1 _ (cC (by omega)),c,by omega,e2,g⟩
 · rw [if_neg (by rw [q]; simp)] at g
   exact ⟨hh.2.2 _ (cC (by omega)),d,by omega,e3,g⟩
theorem C6.start {s:dF} {t:LTerm} {x:cM} (ho:OkV x) (h:aOr s x=true):C6 s t x x 0:=by
 simp only [aOr,aB,decide_eq_true_eq] at h
 exact ⟨ho,h.2.2,by decide,h.2.1,rfl⟩
theorem C6.fin {s:dF} {t:LTerm} {x0 x:cM} {n:Int} (h:C6 s t x0 x n) (hy:x.yes.length=0):goT s t x0 0=(x,n)∧n≤500∧x.rows.length≤1000000∧(∀ r ∈ x.rows,r.left.length≤1000000∧∀ a ∈ r.left,OkK a):=by
 have g:=h.go
 rw [S6 s t x n (.inl hy),if_pos hy] at g
 have hh:x.rows.length≤1000000∧(∀ r ∈ x.rows,r.left.length≤1000000∧∀ a ∈ r.left,OkK a):=by have:=h.ok; cases this; exact ⟨by assumption,by assumption⟩
 have e:=rQ x (n+1)
 have:=h.nod
 refine ⟨g,?_,hh⟩
 by_cases q:500 < n+1
 · rw [if_pos q] at e; omega
 · omega
theorem aSf {pre g:List AObj} {sz n:Nat} {out:AV} {cells:List AV} {m e:Int} (ho:fD sz pre.length g out cells n) (hp:persL cells=true):Fin (pre++g) (.tup [out,.i .i64 m,.i .i64 e]) (.tup [.sl cells n,.i .i64 m,.i .i64 e]):=by
 rcases ho with ⟨rfl,rfl,rfl⟩ | ⟨i,rfl,hi,hl⟩
 · exact .inr ⟨⟨rfl,rfl,rfl,trivial⟩,by simp [cD,finIdsL],by simp [cD,finIdsL]⟩
 · have e1:kQ (pre++g) (.hs (i+pre.length) 0 n false) (.sl cells n):=by
     show AV.sl cells n=fU dep (pre++g) (.hs (i+pre.length) 0 n false)
     have hg:(pre++g)[i+pre.length]? = some (.arr false sz cells):=by
       rw [aF (by omega)]; simpa using hi
     have hd:(cells.drop 0).take (n * sz)=cells:=by rw [dX,aJ (by omega)]
     simp only [fS,pers,qX,hg,hd,hp,if_true,aH,if_false]
     rw [if_pos (by omega)]
   exact .inr ⟨⟨e1,rfl,rfl,trivial⟩,by simp [cD,finIdsL],by simp [cD,finIdsL]⟩

theorem bFu (s:dF) (a:LAsk) (t:LTerm) (hs:Small s) (ha:OkK a) (ht:OkT t): CT 64 [.agg (aL a),.box [cU s] 0,.box (aE t) 0] (.b (!fV s a t)):=by
 refine cX mixed Tryz.func64 g0 ?_
 · simp -implicitDefEqProofs (disch:=omega) only [Tryz.f64,go_sem,List.replicate,↓reduceIte,reduceAdd,reduceSub,reduceMul,reduceLeDiff,reduceLT,reduceEqDiff,reduceNeg,Nat.reduceBEq,aL,avt,bT]
   have c:=aDi s a t hs ha.test ha.path ht
   simp only [aL,avt] at c
   (refine zt1 c ?_; repeat' first | exact trivial | refine zJ ?_ ?_ | refine zH fun hc=>?_)
   all_goals exact aP rfl rfl
theorem aRj (s:dF) (r:hZ) (t:LTerm) (hs:Small s) (hl:r.left.length≤1000000) (ho:∀ a ∈ r.left,OkK a) (ht:OkT t):CT 63 [ava r.left,.fn 64 [] [.box [cU s] 0,.box (aE t) 0]] (.i .i64 (idx (fun a => !fV s a t) r.left)):=
 aMi r.left 64 [] [.box [cU s] 0,.box (aE t) 0] (fun a => !fV s a t) hl rfl (by simp only [persL,pers,pK,aQn,bS]) (fun k hk=>bFu s _ t hs (ho _ (cC hk)) ht)
theorem bFy (s : dF) (x:cM) (t:LTerm) (hm:Small s) (hs:OkS s) (hx:OkV x) (ht:OkT t): CT 22 [.agg (cB s),elX x,elT t] (aJp (sX s x t)):=by
 refine cX mixed Tryz.func22 g0 ?_
 · generalize hR:((aJp (sX s x t)):AV)=R
   simp -implicitDefEqProofs (disch:=omega) only [Tryz.f22,go_sem,List.replicate,↓reduceIte,reduceAdd,reduceSub,reduceMul,reduceLeDiff,reduceLT,reduceEqDiff,reduceNeg,Nat.reduceBEq]
   have c1:=bAs s x hm hs hx
   have c2:=aMl s t hm hs ht
   simp only [elX,dU,avr,avt,avx] at c1
   rcases iC (aOr s x) with h1 | h1
   · rw [h1] at c1
     rcases iC (gK s && nK s t) with h2 | h2
     · rw [h2] at c2
       have hv:=((aB _ _).mp h2).1
       have c3:=T5 s hm (iB hv)
       have hp:sX s x t=(kJ s t (goT s t x 0).1.rows,(goT s t x 0).2+(nD s t (goT s t x 0).1.rows:Int),0):=by rw [sX,h1,h2,dV,if_pos rfl]
       have st:=C6.start (t:=t) hx h1
       (refine zt3 c1 c2 c3 ?_; repeat' first | exact trivial | refine zJ ?_ ?_ | refine zH fun hc=>?_)
       refine dD (fun (q:cM × Int)=>[.k,.k,.k,.k,.k,.k,.k,.v (.i .i64 q.2),.k,.k,.k,.k,.k,.k,.k,.k,.k,.k,.k,.k,.k,.k,.k,.k,.k,.j,.j,.j,.j,.j,.j,.j,.j,.j,.j,.j,.j,.j,.j,.j,.j,.j,.j,.j,.k,.k,.k,.k,.k,.k,.k,.k,.k,.k,.k,.k,.k,.k,.k,.k,.k,.k,.k,.k,.k,.k,.k,.k,.k,.k,.k,.k,.k,.k]) (fun q=>[.box false (cB s),.box false [.sl ((q.1).rows.flatMap cN) (q.1).rows.length,.sl ((q.1).ask.path.map (.i .i64)) (q.1).ask.path.length,.i .i64 (q.1).ask.test.op,.i .i64 (q.1).ask.test.term.kind,.i .i64 (q.1).ask.test.term.n,.s (q.1).ask.test.term.text,.s (q.1).ask.test.term.sort,.sl ((q.1).ask.test.term.kids.flatMap aE) (q.1).ask.test.term.kids.length,.sl ((q.1).ask.test.term.rest.flatMap aE) (q.1).ask.test.term.rest.length,.s (q.1).ask.test.text,.i .i64 (q.1).ask.test.n,.sl ((q.1).yes.flatMap dG) (q.1).yes.length,.sl ((q.1).no.flatMap dG) (q.1).no.length],.box false [.i .i64 (t).kind,.i .i64 (t).n,.s (t).text,.s (t).sort,.sl ((t).kids.flatMap aE) (t).kids.length,.sl ((t).rest.flatMap aE) (t).rest.length],.box false [cU s]]) (fun q=>C6 s t x q.1 q.2) (fun q=>SizeOf.sizeOf q.1) ((x,0)) st rfl (by simp [iL]) ?_
       rintro ⟨y,n⟩ j hd
       dsimp only at hd
       by_cases hy:y.yes.length=0
       · have zy:¬ (0:Int) < ((y.yes.length:Nat):Int):=by omega
         obtain ⟨g1,g2,g3,g4⟩:=hd.fin hy
         rw [g1] at hp
         dsimp only at hp
         have n0:=hd.n0
         refine zh (zf zy) ?_
         refine dD (fun (q:Nat × Int × AV × List AObj)=>[.k,.k,.k,.k,.k,.k,.v (q.2.2.1),.v (.i .i64 q.2.1),.k,.k,.k,.j,.j,.k,.k,.k,.k,.k,.k,.k,.k,.k,.k,.k,.k,.k,.k,.k,.k,.k,.k,.k,.k,.k,.k,.k,.k,.k,.k,.k,.k,.k,.k,.k,.k,.k,.k,.v (.i .i64 (q.1:Nat)),.j,.j,.j,.j,.j,.j,.j,.j,.j,.j,.j,.j,.j,.j,.j,.j,.j,.j,.j,.j,.j,.j,.j,.j,.k,.k]) (fun q=>(.box false (cB s)::.box false [.sl ((y).rows.flatMap cN) (y).rows.length,.sl ((y).ask.path.map (.i .i64)) (y).ask.path.length,.i .i64 (y).ask.test.op,.i .i64 (y).ask.test.term.kind,.i .i64 (y).ask.test.term.n,.s (y).ask.test.term.text,.s (y).ask.test.term.sort,.sl ((y).ask.test.term.kids.flatMap aE) (y).ask.test.term.kids.length,.sl ((y).ask.test.term.rest.flatMap aE) (y).ask.test.term.rest.length,.s (y).ask.test.text,.i .i64 (y).ask.test.n,.sl ((y).yes.flatMap dG) (y).yes.length,.sl ((y).no.flatMap dG) (y).no.length]::.box false [.i .i64 (t).kind,.i .i64 (t).n,.s (t).text,.s (t).sort,.sl ((t).kids.flatMap aE) (t).kids.length,.sl ((t).rest.flatMap aE) (t).rest.length]::.box false [cU s]::q.2.2.2)) (fun q=>q.1≤y.rows.length∧q.2.1=n+(nD s t (y.rows.take q.1):Int)∧fD 1 4 q.2.2.2 q.2.2.1 (ints (kJ s t (y.rows.take q.1))) (kJ s t (y.rows.take q.1)).length) (fun q=>y.rows.length - q.1) ((0,n,.e0,[])) ⟨aT _,by simp [nD],kK⟩ rfl (by simp [iL]) ?_
         rintro ⟨k,m,out,g⟩ j2 ⟨hk,hm0,hout⟩
         dsimp only at hk hm0 hout
         by_cases hlt:k < y.rows.length
         · have hki:(k:Int) < ((y.rows.length:Nat):Int):=by omega
           obtain ⟨q1,q2⟩:=g4 _ (cC (d:=default) hlt)
           have c4:=aRj s (y.rows.getD k default) t hm q1 q2 ht
           have hci:=aTf (s:=s) (t:=t) (l:=(y.rows.getD k default).left)
           have hca:=wW s t (y.rows.getD k default).left
           have hck:=aDn (s:=s) (t:=t) (l:=y.rows.take k) (fun r hr=>(g4 r (sC hr)).1)
           have hrl:=P6 (s:=s) (t:=t) (l:=y.rows.take k)
           have htr:=aFc (s:=s) (t:=t) hlt
           have htc:=aGf (s:=s) (t:=t) hlt
           rw [eZ] at hck hrl
           have hck2:nD s t (y.rows.take k)≤1000000000000:=dN hck (by
             have:min k y.rows.length≤1000000:=by omega
             exact cJ 1000000 this)
           simp only [ava,bT,avt] at c4
           generalize idx (fun a => !fV s a t) (y.rows.getD k default).left=I at *
           by_cases hI:0≤I
           · obtain ⟨e1,e2⟩:=hci.2 hI
             rw [e1,if_neg (by simp),List.append_nil] at htr
             have w1:IntKind.i64.wrap (I+1)=I+1:=wrap64 (by omega) (by omega)
             have w2:IntKind.i64.wrap (m+(I+1))=m+(I+1):=wrap64 (by omega) (by omega)
             refine zh (zA2 (zt hki) @cN.eq_1) ?_
             (refine zy1 (zA2 (zt hki) (zA2 @cN.eq_1 (zA2 (zt hI) (zA2 w1 w2)))) c4 ?_; repeat' first | exact trivial | refine zJ ?_ ?_ | refine zH fun hc=>?_)
             refine ⟨(k+1,m+(I+1),out,_),⟨by dsimp only; omega,?_,?_⟩,by dsimp only; omega,rfl,rfl,rfl,by simp⟩
             · dsimp only
               rw [htc,hm0]; omega
             · dsimp only
               rw [htr]
               exact hout.more _
           · obtain ⟨e1,e2⟩:=hci.1 (by omega)
             rw [e1,if_pos rfl] at htr
             have w2:IntKind.i64.wrap (m+(((y.rows.getD k default).left.length:Nat):Int))=m+(((y.rows.getD k default).left.length:Nat):Int):=wrap64 (by omega) (by omega)
             refine zh (zA2 (zt hki) @cN.eq_1) ?_
             (refine zy1 (zA2 (zt hki) (zA2 @cN.eq_1 (zA2 (zf hI) w2))) c4 ?_; repeat' first | exact trivial | refine zJ ?_ ?_ | refine zH fun hc=>?_)
             refine fE (pre:=[_,_,_,_]) (news:=[.i .i64 (y.rows.getD k default).index]) (m:=1) hout rfl rfl bOm zo3 sz3 by3 rfl (by decide) (by simp -implicitDefEqProofs (disch:=omega) only [go_sem,↓reduceIte,reduceAdd,reduceSub,reduceMul,reduceLeDiff,reduceLT,reduceEqDiff,reduceNeg,Nat.reduceBEq]) (by simp -implicitDefEqProofs (disch:=omega) only [go_sem,↓reduceIte,reduceAdd,reduceSub,reduceMul,reduceLeDiff,reduceLT,reduceEqDiff,reduceNeg,Nat.reduceBEq]) ⟨by omega,by omega⟩ ?_
             intro out' g' ho' _
             refine zg ?_
             refine ⟨(k+1,m+(((y.rows.getD k default).left.length:Nat):Int),out',g'),⟨by dsimp only; omega,?_,?_⟩,by dsimp only; omega,rfl,rfl,rfl,by simp⟩
             · dsimp only
               rw [htc,hm0]; omega
             · dsimp only
               rw [htr,ints,bF,aG]
               exact ho'
         · have hki:¬ (k:Int) < ((y.rows.length:Nat):Int):=by omega
           have hkt:y.rows.take k=y.rows:=aJ (by omega)
           rw [hkt] at hout hm0
           refine zh (zf hki) ?_
           subst hR
           rw [hp,hm0]
           exact aSf (pre:=[_,_,_,_]) hout fX
       · have zy:(0:Int) < ((y.yes.length:Nat):Int):=by omega
         obtain ⟨f1,f2,f3,f4,f5,f6⟩:=hd.step hy
         have n0:=hd.n0
         have c4:=aDi s y.ask t hm f4.test f4.path ht
         simp only [aL,avt] at c4
         rcases iC (fV s y.ask t) with h3 | h3
         · rw [h3] at c4
           refine zh (zt zy) ?_
           (refine zy1 (zt zy) c4 ?_; repeat' first | exact trivial | refine zJ ?_ ?_ | refine zH fun hc=>?_)
           exact ⟨(y.yes.getD 0 default,n+1),f5 h3,aBn (cC (by omega)),rfl,by simp⟩
         · rw [h3] at c4
           refine zh (zt zy) ?_
           (refine zy1 (zt zy) c4 ?_; repeat' first | exact trivial | refine zJ ?_ ?_ | refine zH fun hc=>?_)
           exact ⟨(y.no.getD 0 default,n+1),f6 h3,aIs (cC (by omega)),rfl,by simp⟩
     · rw [h2] at c2
       have hp:sX s x t=([],0,2):=by rw [sX,h2,aW,if_neg (by simp)]
       (refine zt2 c1 c2 ?_; repeat' first | exact trivial | refine zJ ?_ ?_ | refine zH fun hc=>?_)
       subst hR
       all_goals exact .inr ⟨by rw [hp]; exact ⟨rfl,rfl,rfl,trivial⟩,fL,fun i hi=>absurd hi (by show ¬ i ∈ []; simp)⟩
   · rw [h1] at c1
     have hp:sX s x t=([],0,2):=by rw [sX,h1,aS,if_neg (by simp)]
     (refine zt1 c1 ?_; repeat' first | exact trivial | refine zJ ?_ ?_ | refine zH fun hc=>?_)
     subst hR
     all_goals exact .inr ⟨by rw [hp]; exact ⟨rfl,rfl,rfl,trivial⟩,fL,fun i hi=>absurd hi (by show ¬ i ∈ []; simp)⟩

theorem aTu {s:dF} {a:LAsk} (h:isAskV s a=true):PathOk a.path:=by
 simp only [isAskV,aB,decide_eq_true_eq,eN,qI] at h
 refine ⟨by omega,fun i hi=>?_⟩
 have:=h.2.1 i hi
 simp only [wE,cL,decide_eq_true_eq,not_or] at this
 exact ⟨by omega,by omega⟩

def oU (k:Str) (a:LAsk):Bool:=decide (keyS a=k)
def lK (k:Str):List LAsk→Nat
 | []=>0
 | a::l=>(if oU k a=true then 1 else 0)+lK k l
def jJ (k:Str):List hZ→Nat
 | []=>0
 | r::l=>lK k r.left+jJ k l
def rA (rows:List hZ):List hZ→LAsk × Nat→LAsk × Nat
 | [],p=>p
 | r::l,p=>rA rows l (if 0 < r.left.length∧p.2 < jJ (keyS (r.left.getD 0 default)) rows then (r.left.getD 0 default,jJ (keyS (r.left.getD 0 default)) rows) else p)
def gQ (rows:List hZ):LAsk × Nat:=rA rows rows (zA,0)
def wT (l:List hZ) (k:Str):List hZ:=l.map fun r=>⟨r.index,r.left.filter fun a => !oU k a⟩
def wF (l:List hZ) (k:Str):List hZ:=l.filter fun r=>r.left.all fun a => !oU k a
def gA:Nat→Int→List hZ→cM × Int
 | 0,b,l=>(.mk l zA [] [],b)
 | f+1,b,l=>if (gQ l).2=0∨b < 2∨l.length < 2 then (.mk l zA [] [],b)
   else (.mk [] (gQ l).1 [(gA f (b - 2) (wT l (keyS (gQ l).1))).1] [(gA f (gA f (b - 2) (wT l (keyS (gQ l).1))).2 (wF l (keyS (gQ l).1))).1],(gA f (gA f (b - 2) (wT l (keyS (gQ l).1))).2 (wF l (keyS (gQ l).1))).2)
structure V8 (s:dF) (l:List hZ):Prop where
 pos:∀ r ∈ l,0≤r.index
 inc:l.Pairwise fun a b=>a.index < b.index
 len:∀ r ∈ l,r.left.length≤4000
 nod:∀ r ∈ l,r.left.Pairwise fun a b=>keyS a ≠ keyS b
 good:∀ r ∈ l,∀ a ∈ r.left,GoodA a
 ask:∀ r ∈ l,∀ a ∈ r.left,isAskV s a=true
theorem V8.wT {s:dF} {l:List hZ} {k:Str} (h:V8 s l):V8 s (wT l k):=by
 have m:∀ r ∈ Go.Proofs.YtifefbhllfdmlaaGreatDoor.wT l k,∃ q ∈ l,r=⟨q.index,q.left.filter fun a => !oU k a⟩:=fun r hr=>by
   obtain ⟨q,hq,e⟩:=kF.1 hr
   exact ⟨q,hq,e.symm⟩
 refine ⟨fun r hr=>?_,?_,fun r hr=>?_,fun r hr=>?_,fun r hr a ha=>?_,fun r hr a ha=>?_⟩
 · obtain ⟨q,hq,rfl⟩:=m r hr; exact h.pos q hq
 · rw [Go.Proofs.YtifefbhllfdmlaaGreatDoor.wT,List.pairwise_map]; exact h.inc
 · obtain ⟨q,hq,rfl⟩:=m r hr; exact dN (fQ _ _) (h.len q hq)
 · obtain ⟨q,hq,rfl⟩:=m r hr; exact (h.nod q hq).filter _
 · obtain ⟨q,hq,rfl⟩:=m r hr; exact h.good q hq a (gD.1 ha).1
 · obtain ⟨q,hq,rfl⟩:=m r hr; exact h.ask q hq a (gD.1 ha).1
theorem V8.wF {s:dF} {l:List hZ} {k:Str} (h:V8 s l):V8 s (wF l k):=by
 have m:∀ r ∈ Go.Proofs.YtifefbhllfdmlaaGreatDoor.wF l k,r ∈ l:=fun r hr=>(gD.1 hr).1
 exact ⟨fun r hr=>h.pos r (m r hr),h.inc.filter _,fun r hr=>h.len r (m r hr),fun r hr=>h.nod r (m r hr),fun r hr=>h.good r (m r hr),fun r hr=>h.ask r (m r hr)⟩
theorem zO {rows:List hZ}:∀ {l:List hZ} {p:LAsk × Nat},rA rows l p=p∨∃ r ∈ l,0 < r.left.length∧(rA rows l p).1=r.left.getD 0 default
 | [],p=>.inl rfl
 | r :: l,p=>by
   rw [rA]
   split
   · rename_i h
     rcases zO (rows:=rows) (l:=l) (p:=(r.left.getD 0 default,jJ (keyS (r.left.getD 0 default)) rows)) with e | ⟨q,hq,h1,h2⟩
     · exact .inr ⟨r,by simp,h.1,by rw [e]⟩
     · exact .inr ⟨q,by simp [hq],h1,h2⟩
   · rcases zO (rows:=rows) (l:=l) (p:=p) with e | ⟨q,hq,h1,h2⟩
     · exact .inl e
     · exact .inr ⟨q,by simp [hq],h1,h2⟩
theorem tW {l:List hZ} (h:(gQ l).2 ≠ 0):∃ r ∈ l,(gQ l).1 ∈ r.left:=by
 rcases zO (rows:=l) (l:=l) (p:=(zA,0)) with e | ⟨r,hr,h1,h2⟩
 · exact absurd (by rw [gQ,e]) h
 · exact ⟨r,hr,by rw [gQ,h2]; exact cC h1⟩
theorem aCn {a b:LAsk} (ha:GoodA a) (hb:GoodA b):oU (keyS b) a=true↔a=b:=by
 rw [oU,decide_eq_true_eq]
 exact ⟨aKz ha hb,fun e=>by rw [e]⟩
theorem pT (f:Nat) (b:Int) (l:List hZ):gA (f+1) b l=if (gQ l).2=0∨b < 2∨l.length < 2 then (.mk l zA [] [],b)
   else (.mk [] (gQ l).1 [(gA f (b - 2) (wT l (keyS (gQ l).1))).1] [(gA f (gA f (b - 2) (wT l (keyS (gQ l).1))).2 (wF l (keyS (gQ l).1))).1],(gA f (gA f (b - 2) (wT l (keyS (gQ l).1))).2 (wF l (keyS (gQ l).1))).2):=by rw [gA]
theorem aBq {s:dF}:∀ {l:List hZ} {p:Option Int},V8 s l→(∀ q,p=some q→∀ r ∈ l,q < r.index)→qY s l p=true
 | [],_,_,_=>rfl
 | r :: l,p,h,hp=>by
   have h2:V8 s l:=⟨fun r hr=>h.pos r (by simp [hr]),(iH.1 h.inc).2,fun r hr=>h.len r (by simp [hr]),fun r hr=>h.nod r (by simp [hr]),fun r hr=>h.good r (by simp [hr]),fun r hr=>h.ask r (by simp [hr])⟩
   rw [qY,aPz,zt (h.pos r (by simp)),zt (h.len r (by simp)),aV.2 (h.ask r (by simp))]
   have e:aVd p r=true:=by
     cases p with
     | none=>rfl
     | some q=>exact zt (hp q rfl r (by simp))
   rw [e,aBq h2 (fun q hq x hx=>by cases hq; exact (iH.1 h.inc).1 x hx)]; rfl
theorem E2 {s:dF} {l:List hZ} (h:V8 s l):nodesV s (.mk l zA [] [])=true:=by
 rw [pP]
 simp only [cM.yes,cM.no,cM.rows,cM.ask,aY,xB,if_true]
 rw [aFu,aBq h (fun q hq=>by cases hq),H0]; rfl
theorem qP {s:dF}:∀ {f:Nat} {b:Int} {l:List hZ},V8 s l→nodesV s (gA f b l).1=true
 | 0,b,l,h=>by rw [gA]; exact E2 h
 | f + 1,b,l,h=>by
   rw [pT]
   split
   · exact E2 h
   · rename_i hc
     obtain ⟨r,hr,hb⟩:=tW (l:=l) (fun e=>hc (.inl e))
     rw [pP]
     simp only [cM.yes,cM.no,cM.rows,cM.ask,aD,aY,iT]
     rw [qP (f:=f) h.wT,qP (f:=f) h.wF,h.ask r hr _ hb]; rfl
theorem uM:∀ {f:Nat} {b d:Int} {l:List hZ},0≤b→b≤4999→d+f=500→0≤(gA f b l).2∧(gA f b l).2≤b∧nodT (gA f b l).1 d=1+(b - (gA f b l).2)
 | 0,b,d,l,h0,h4,hd=>by
   rw [gA]
   refine ⟨h0,uY _,?_⟩
   rw [rQ,if_neg (by omega)]
   simp only [cM.yes,cM.no,nodL]
   omega
 | f + 1,b,d,l,h0,h4,hd=>by
   rw [pT]
   split
   · refine ⟨h0,uY _,?_⟩
     rw [rQ,if_neg (by omega)]
     simp only [cM.yes,cM.no,nodL]
     omega
   · rename_i hc
     have hb:¬ b < 2:=fun h=>hc (.inr (.inl h))
     have y:=uM (f:=f) (b:=b - 2) (d:=d+1) (l:=wT l (keyS (gQ l).1)) (by omega) (by omega) (by omega)
     generalize gA f (b - 2) (wT l (keyS (gQ l).1))=Y at *
     have n:=uM (f:=f) (b:=Y.2) (d:=d+1) (l:=wF l (keyS (gQ l).1)) y.1 (by omega) (by omega)
     generalize gA f Y.2 (wF l (keyS (gQ l).1))=N at *
     refine ⟨n.1,by dsimp only; omega,?_⟩
     rw [rQ,if_neg (by omega)]
     simp only [cM.yes,cM.no]
     rw [qO (y:=Y.1),if_pos (by decide),qO,if_pos (by omega)]
     omega
theorem aRe {s:dF} {l:List hZ} (hv:gK s=true) (h:V8 s l):aOr s (gA 499 4999 l).1=true:=by
 have n:=uM (f:=499) (b:=4999) (d:=1) (l:=l) (by decide) (by decide) (by decide)
 rw [aOr,hv,qP h,zt (by omega)]; rfl
theorem aOh {s:dF} {t:LTerm} {l:List LAsk} {c:LAsk} (hg:∀ a ∈ l,GoodA a) (hc:GoodA c) (hh:fV s c t=true):((l.filter fun a => !oU (keyS c) a).all fun a=>fV s a t)=(l.all fun a=>fV s a t):=by
 rw [kA,aV,aV]
 constructor
 · intro h a ha
   rcases iC (oU (keyS c) a) with q | q
   · rw [(aCn (hg a ha) hc).1 q]; exact hh
   · exact h a (gD.2 ⟨ha,by rw [q]; rfl⟩)
 · intro h a ha
   exact h a (gD.1 ha).1
theorem aBr {s:dF} {t:LTerm} {c:LAsk} (hc:GoodA c) (hh:fV s c t=true):∀ {l:List hZ},(∀ r ∈ l,∀ a ∈ r.left,GoodA a)→kJ s t (wT l (keyS c))=kJ s t l
 | [],_=>rfl
 | r::l,h=>by
   have ih:=aBr hc hh (l:=l) (fun r hr=>h r (by simp [hr]))
   rw [wT] at ih ⊢
   rw [aO,kJ,kJ,ih,aOh (h r (by simp)) hc hh]
theorem aBs {s:dF} {t:LTerm} {c:LAsk} (hc:GoodA c) (hh:fV s c t=false):∀ {l:List hZ},(∀ r ∈ l,∀ a ∈ r.left,GoodA a)→kJ s t (wF l (keyS c))=kJ s t l
 | [],_=>rfl
 | r :: l,h=>by
   have ih:=aBs hc hh (l:=l) (fun r hr=>h r (by simp [hr]))
   rw [wF] at ih ⊢
   rw [bV]
   split
   · rw [kJ,kJ,ih]
   · rename_i q
     rw [ih,kJ]
     have q2:(r.left.all fun a => !oU (keyS c) a)=false:=by simpa using q
     obtain ⟨a,ha,hq⟩:=lX.1 q2
     have e:a=c:=(aCn (h r (by simp) a ha) hc).1 (by simpa using hq)
     have:(r.left.all fun a=>fV s a t)=false:=lX.2 ⟨a,ha,by rw [e,hh]; simp⟩
     rw [this,if_neg (by simp),bJ]
def mD:List hZ→Nat
 | []=>0
 | r::l=>r.left.length+mD l
theorem J4 {s:dF} {t:LTerm}:∀ {l:List hZ},nD s t l≤mD l
 | []=>aX _
 | r::l=>by
   have:=J4 (s:=s) (t:=t) (l:=l)
   have:=wW s t r.left
   rw [nD,mD]; omega
theorem aIe {k:Str}:∀ {l:List hZ},mD (wT l k)≤mD l
 | []=>aX _
 | r::l=>by
   have:=aIe (k:=k) (l:=l)
   rw [wT] at this ⊢
   rw [aO,mD,mD]
   have:=fQ (fun a => !oU k a) r.left
   dsimp only
   omega
theorem aIf {k:Str}:∀ {l:List hZ},mD (wF l k)≤mD l
 | []=>aX _
 | r::l=>by
   have:=aIf (k:=k) (l:=l)
   rw [wF] at this ⊢
   rw [bV]
   split
   · rw [mD,mD]; omega
   · rw [mD]; omega
theorem filter_lt {α:Type} {p:α→Bool}:∀ {l:List α} {a:α},a ∈ l→p a=false→(l.filter p).length+1≤l.length
 | x :: l,a,h,hp=>by
   rw [bV]
   rcases cH.1 h with rfl | h
   · rw [hp,if_neg (by simp),aD]
     have:=fQ p l; omega
   · have:=filter_lt h hp
     split
     · rw [aD,aD]; omega
     · rw [aD]; omega
theorem O6 {c:LAsk}:∀ {l:List hZ},(∃ r ∈ l,c ∈ r.left)→mD (wT l (keyS c))+1≤mD l
 | r :: l,⟨q,hq,hc⟩=>by
   rw [wT,aO,mD,mD]
   dsimp only
   rcases cH.1 hq with rfl | hq
   · have h1:=filter_lt (p:=fun a => !oU (keyS c) a) hc (by simp [oU])
     have h2:=aIe (k:=keyS c) (l:=l)
     rw [wT] at h2
     omega
   · have h1:=fQ (fun a => !oU (keyS c) a) r.left
     have h2:=O6 (l:=l) ⟨q,hq,hc⟩
     rw [wT] at h2
     omega
theorem O7 {c:LAsk}:∀ {l:List hZ},(∃ r ∈ l,c ∈ r.left)→mD (wF l (keyS c))+1≤mD l
 | r :: l,⟨q,hq,hc⟩=>by
   rw [wF,bV]
   rcases cH.1 hq with rfl | hq
   · have h1:(q.left.all fun a => !oU (keyS c) a)=false:=lX.2 ⟨c,hc,by simp [oU]⟩
     have h2:=aIf (k:=keyS c) (l:=l)
     have h3:0 < q.left.length:=pA hc
     rw [wF] at h2
     rw [h1,if_neg (by simp),mD]
     omega
   · have h2:=O7 (l:=l) ⟨q,hq,hc⟩
     rw [wF] at h2
     split
     · rw [mD,mD]; omega
     · rw [mD]; omega
theorem yH {s:dF} {t:LTerm}:∀ {f:Nat} {b n:Int} {l:List hZ},V8 s l →
   kJ s t (goT s t (gA f b l).1 n).1.rows=kJ s t l∧(goT s t (gA f b l).1 n).2+(nD s t (goT s t (gA f b l).1 n).1.rows:Int)≤n+(mD l:Int)
 | 0,b,n,l,h=>by
   rw [gA,S6 s t _ n (.inl rfl),if_pos (show (cM.mk l zA [] []).yes.length=0 from rfl)]
   have:=J4 (s:=s) (t:=t) (l:=l)
   exact ⟨rfl,by simp only [cM.rows]; omega⟩
 | f + 1,b,n,l,h=>by
   rw [pT]
   split
   · rw [S6 s t _ n (.inl rfl),if_pos (show (cM.mk l zA [] []).yes.length=0 from rfl)]
     have:=J4 (s:=s) (t:=t) (l:=l)
     exact ⟨rfl,by simp only [cM.rows]; omega⟩
   · rename_i hc
     obtain ⟨r,hr,hb⟩:=tW (l:=l) (fun e=>hc (.inl e))
     have hg:=h.good r hr _ hb
     rw [S6 s t _ n (.inr ⟨by simp [cM.yes],by simp [cM.no]⟩),if_neg (by simp [cM.yes])]
     simp only [cM.yes,cM.no,cM.ask,iT]
     split
     · rename_i hh
       have ih:=yH (s:=s) (t:=t) (f:=f) (b:=b - 2) (n:=n+1) (l:=wT l (keyS (gQ l).1)) h.wT
       have hs:=O6 ⟨r,hr,hb⟩
       rw [aBr hg hh h.good] at ih
       exact ⟨ih.1,by omega⟩
     · rename_i hh
       have ih:=yH (s:=s) (t:=t) (f:=f) (b:=(gA f (b - 2) (wT l (keyS (gQ l).1))).2) (n:=n+1) (l:=wF l (keyS (gQ l).1)) h.wF
       have hs:=O7 ⟨r,hr,hb⟩
       rw [aBs hg (by simpa using hh) h.good] at ih
       exact ⟨ih.1,by omega⟩
theorem W9 {a b:LAsk}:X3 a b=true↔a=b:=by
 obtain ⟨p,o,t,x,n⟩:=a
 obtain ⟨p2,o2,t2,x2,n2⟩:=b
 simp only [X3,lR,aB,decide_eq_true_eq,LAsk.mk.injEq,LTest.mk.injEq]
 constructor
 · rintro ⟨a,b,c,d,e⟩; exact ⟨a,b,e,c,d⟩
 · rintro ⟨a,b,c,d,e⟩; exact ⟨a,b,d,e,c⟩
def aUc (l:List LAsk) (a:LAsk):Bool:=l.any fun b=>X3 a b
theorem aEc {l:List LAsk} {a:LAsk} (h:a ∉ l):aUc l a=false:=by
 rw [aUc,qI]
 intro b hb e
 exact h (W9.1 e ▸ hb)
def aQs:List LAsk→List LAsk→Bool
 | _,[]=>true
 | now,a::l => !aUc now a && aQs (now++[a]) l
def bDw (before:List LAsk) (l:List hZ):Bool:=l.all fun r=>aQs before r.left
mutual
def aFo:cM→List LAsk→Bool
 | .mk rows ask yes no,before=>if 0 < yes.length then !aUc before ask && (onceL yes (before++[ask]) && onceL no (before++[ask])) else bDw before rows
def onceL:List cM→List LAsk→Bool
 | [],_=>true
 | y::_,before=>aFo y before
end
theorem aCc:∀ {l now:List LAsk},l.Pairwise (fun a b=>keyS a ≠ keyS b)→(∀ a ∈ l,a ∉ now)→aQs now l=true
 | [],_,_,_=>rfl
 | a :: l,now,h,hn=>by
   rw [aQs,aEc (hn a (by simp)),aCc (iH.1 h).2 (fun b hb=>?_)]
   · rfl
   · intro hm
     rcases bN.1 hm with hm | hm
     · exact hn b (by simp [hb]) hm
     · rw [bA] at hm
       exact (iH.1 h).1 b hb (by rw [hm])
theorem aCb {s:dF} {l:List hZ} {before:List LAsk} (h:V8 s l) (hn:∀ r ∈ l,∀ a ∈ r.left,a ∉ before):bDw before l=true:=
 aV.2 fun r hr=>aCc (h.nod r hr) (hn r hr)
theorem yI {s:dF}:∀ {f:Nat} {b:Int} {l:List hZ} {before:List LAsk},V8 s l→(∀ r ∈ l,∀ a ∈ r.left,a ∉ before)→aFo (gA f b l).1 before=true
 | 0,b,l,before,h,hn=>by
   rw [gA,aFo,if_neg (by simp)]
   exact aCb h hn
 | f + 1,b,l,before,h,hn=>by
   rw [pT]
   split
   · rw [aFo,if_neg (by simp)]
     exact aCb h hn
   · rename_i hc
     obtain ⟨r,hr,hb⟩:=tW (l:=l) (fun e=>hc (.inl e))
     have hg:=h.good r hr _ hb
     rw [aFo,if_pos (by simp),aEc (hn r hr _ hb),onceL,onceL]
     rw [yI (f:=f) h.wT (fun q hq a ha=>?_),yI (f:=f) h.wF (fun q hq a ha=>?_)]
     · rfl
     · intro hm
       obtain ⟨hq1,hq2⟩:=gD.1 hq
       rcases bN.1 hm with hm | hm
       · exact hn q hq1 a ha hm
       · rw [bA] at hm
         have:=aV.1 hq2 a ha
         rw [hm] at this
         simp [oU] at this
     · intro hm
       obtain ⟨q0,hq0,e⟩:=kF.1 hq
       subst e
       obtain ⟨ha1,ha2⟩:=gD.1 ha
       rcases bN.1 hm with hm | hm
       · exact hn q0 hq0 a ha1 hm
       · rw [bA] at hm
         rw [hm] at ha2
         simp [oU] at ha2

def TOk (s:dF) (a:LAsk):Prop:=GoodA a∧isAskV s a=true∧a.test.text.length≤1000
theorem aUv {s:dF} {p:List Int} {x:LTest} (hp:p.length≤60) (hi:∀ i ∈ p,0≤i∧i≤2000) (hg:GoodA ⟨p,x⟩) (ht:kL s x true=true) (hl:x.text.length≤1000):TOk s ⟨p,x⟩:=by
 refine ⟨hg,?_,hl⟩
 have hb:p.any wE=false:=by
   rw [qI]
   intro i hm
   have:=hi i hm
   rw [wE,zf (by omega),zf (by omega)]; simp
 rw [isAskV]
 show (decide (p.length≤60) && (!p.any wE && kL s x true))=true
 rw [zt hp,hb,ht]; rfl
theorem aVm {s:Str} (h:gG s=true):s.length≤40:=by
 simp only [gG,aB,decide_eq_true_eq] at h
 exact h.1.1.2
theorem R4 {s:Str} (h:D8 s=true):s.length≤42:=by
 have e:=congrArg List.length (F9 s)
 have hb:=aVm (s:=tX s) h
 have hf:(frame s).length≤2:=by
   unfold frame
   split
   · rw [nB]; omega
   · simp
 rw [aG] at e
 omega
theorem aHv (s:dF):∀ t:LTerm,wfT nodeB t=true→rW s t=true→nodesT t≤2000→∀ p:List Int,p.length+highT t≤60→(∀ i ∈ p,0≤i∧i≤2000)→∀ a ∈ dI t p,TOk s a:=
 fR (Q := fun t=>wfT nodeB t=true→rW s t=true→nodesT t≤2000→∀ p:List Int,p.length+highT t≤60→(∀ i ∈ p,0≤i∧i≤2000)→∀ a ∈ dI t p,TOk s a) fun t hk _ hw hf hnn p hp hi=>by
   have e:=wR t
   have en:=pQ t
   have hl:=uK t.kids
   have hw':=aHm.1 hw
   rw [aCs,aB,aV] at hf
   obtain ⟨hf1,hf2⟩:=hf
   have hN:nodesL t.kids≤2000:=by omega
   have L:∀ (l:List LTerm) (i:Nat),(∀ k ∈ l,k ∈ t.kids)→i+l.length≤t.kids.length→nodesL l≤2000→p.length+1+highL l≤60→∀ a ∈ testsL l p i,TOk s a:=by
     intro l
     induction l with
     | nil=>intro i _ _ _ _ a ha; simp [testsL] at ha
     | cons x l ih=>
       intro i hm hil hnl hh a ha
       rw [highL] at hh
       rw [nodesL] at hnl
       rw [aD] at hil
       rw [testsL,bN] at ha
       rcases ha with ha | ha
       · have hx:=hm x (by simp)
         refine hk x hx (hw'.2 x hx) (hf1 x hx) (by omega) (p++[(i:Int)]) (by simp only [aG,aD,aY]; omega) (fun j hj=>?_) a ha
         rcases bN.1 hj with hj | hj
         · exact hi j hj
         · rw [bA] at hj; omega
       · exact ih (i+1) (fun k hk=>hm k (by simp [hk])) (by omega) (by omega) (by omega) a ha
   have hn:=hw'.1
   rw [nodeB] at hn
   have z:∀ {o n:Int} {x:Str},o ≠ 1→x.all tokc=true→kL s ⟨o,zT,x,n⟩ true=true→x.length≤1000→TOk s ⟨p,⟨o,zT,x,n⟩⟩:=fun ho hx ht hl=>aUv (by omega) hi ⟨hx,fun h=>absurd h ho,fun _=>rfl⟩ ht hl
   intro a ha
   rw [jR] at ha
   by_cases h5:t.kind=5
   · rw [if_pos h5] at ha
     simp only [h5,(by decide:¬ (5:Int)=1),(by decide:¬ (5:Int)=2),(by decide:¬ (5:Int)=3),(by decide:¬ (5:Int)=4),if_false,if_true,aB,decide_eq_true_eq] at hn
     rcases cH.1 ha with rfl | ha
     · exact z (by decide) (bDv hn.1.1) (by simp [kL,hn.1.1]; omega) (dN (R4 hn.1.1) (by decide))
     · exact L t.kids 0 (fun k hk=>hk) (by omega) hN (by omega) a ha
   rw [if_neg h5] at ha
   by_cases h7:t.kind=7
   · rw [if_pos h7] at ha
     rcases cH.1 ha with rfl | ha
     · by_cases hr:0 < t.rest.length
       · rw [if_pos hr]; exact z (by decide) rfl (by simp [kL]; omega) (by decide)
       · rw [if_neg hr]; exact z (by decide) rfl (by simp [kL]; omega) (by decide)
     · exact L t.kids 0 (fun k hk=>hk) (by omega) hN (by omega) a ha
   rw [if_neg h7] at ha
   by_cases h8:t.kind=8
   · rw [if_pos h8,bA] at ha
     subst ha
     exact z (by decide) rfl (by simp [kL]) (by decide)
   rw [if_neg h8] at ha
   by_cases h6:t.kind=6
   · rw [if_pos h6] at ha
     simp only [h6,(by decide:¬ (6:Int)=1),(by decide:¬ (6:Int)=2),(by decide:¬ (6:Int)=3),(by decide:¬ (6:Int)=4),(by decide:¬ (6:Int)=5),if_false,if_true] at hn
     rw [if_pos h6] at hf2
     split at ha
     · cases ha
     · rename_i hs
       rw [bA] at ha
       subst ha
       split at hn
       · simp only [aB,decide_eq_true_eq] at hn
         exact absurd hn.1 hs
       · simp only [aB] at hn
         exact z (by decide) (aCh hn.1.2) (by simp [kL,hf2]) (dN (aVm hn.1.2) (by decide))
   · rw [if_neg h6,bA] at ha
     subst ha
     have hk4:1≤t.kind∧t.kind≤4:=by
       by_cases a1:t.kind=1
       · omega
       by_cases a2:t.kind=2
       · omega
       by_cases a3:t.kind=3
       · omega
       by_cases a4:t.kind=4
       · omega
       rw [if_neg a1,if_neg a2,if_neg a3,if_neg a4,if_neg h5,if_neg h6,if_neg h7,if_neg h8] at hn
       cases hn
     have hv:jQ nodeB t=true:=by
       rw [jQ,hw,zt (by omega),zt (by omega)]; rfl
     exact aUv (by omega) hi ⟨rfl,fun _=>⟨hk4,hw'.1⟩,fun h=>absurd rfl h⟩ (by simp [kL,hk4,hv]) (by simp)
theorem O0 : ∀ (t:LTerm) (p:List Int),∀ a ∈ dI t p,∃ q,a.path=p++q:=
 fR (Q := fun t=>∀ (p:List Int),∀ a ∈ dI t p,∃ q,a.path=p++q) fun t hk _ p=>by
   have L:∀ (l:List LTerm) (i:Nat),(∀ k ∈ l,k ∈ t.kids)→∀ a ∈ testsL l p i,∃ q,a.path=p++q:=by
     intro l
     induction l with
     | nil=>intro i _ a ha; simp [testsL] at ha
     | cons x l ih=>
       intro i hm a ha
       rw [testsL,bN] at ha
       rcases ha with ha | ha
       · obtain ⟨q,hq⟩:=hk x (hm x (by simp)) _ a ha
         exact ⟨[(i:Int)]++q,by rw [hq,bW]⟩
       · exact ih (i+1) (fun k hk=>hm k (by simp [hk])) a ha
   have z:∀ x,∃ q,(⟨p,x⟩:LAsk).path=p++q:=fun x=>⟨[],(List.append_nil _).symm⟩
   intro a ha
   rw [jR] at ha
   split at ha
   · rcases cH.1 ha with rfl | ha
     · exact z _
     · exact L _ _ (fun _ h=>h) a ha
   · split at ha
     · rcases cH.1 ha with rfl | ha
       · exact z _
       · exact L _ _ (fun _ h=>h) a ha
     · split at ha
       · rw [bA] at ha; subst ha; exact z _
       · split at ha
         · split at ha
           · cases ha
           · rw [bA] at ha; subst ha; exact z _
         · rw [bA] at ha; subst ha; exact z _
theorem uE:∀ (l:List LTerm) (p:List Int) (i:Nat),∀ a ∈ testsL l p i,∃ (j:Nat) (q:List Int),i≤j∧a.path=p++(j:Int)::q
 | [],p,i,a,ha=>by simp [testsL] at ha
 | x :: l,p,i,a,ha=>by
   rw [testsL,bN] at ha
   rcases ha with ha | ha
   · obtain ⟨q,hq⟩:=O0 x _ a ha
     exact ⟨i,q,aX _,by rw [hq,bW]; rfl⟩
   · obtain ⟨j,q,hj,e⟩:=uE l p (i+1) a ha
     exact ⟨j,q,by omega,e⟩
theorem aEs:∀ (t:LTerm) (p:List Int),(dI t p).Pairwise fun a b=>a.path ≠ b.path:=
 fR (Q := fun t=>∀ (p:List Int),(dI t p).Pairwise fun a b=>a.path ≠ b.path) fun t hk _ p=>by
   have L:∀ (l:List LTerm) (i:Nat),(∀ k ∈ l,k ∈ t.kids)→(testsL l p i).Pairwise fun a b=>a.path ≠ b.path:=by
     intro l
     induction l with
     | nil=>intro i _; rw [testsL]; exact List.Pairwise.nil
     | cons x l ih=>
       intro i hm
       rw [testsL,List.pairwise_append]
       refine ⟨hk x (hm x (by simp)) _,ih (i+1) (fun k hk=>hm k (by simp [hk])),fun a ha b hb e=>?_⟩
       obtain ⟨q,hq⟩:=O0 x _ a ha
       obtain ⟨j,q2,hj,e2⟩:=uE l p (i+1) b hb
       rw [hq,e2,bW] at e
       have:=List.append_cancel_left e
       have:=(eU this).1
       omega
   have C:∀ x:LTest,((⟨p,x⟩:LAsk)::testsL t.kids p 0).Pairwise fun a b=>a.path ≠ b.path:=fun x=>by
     rw [iH]
     refine ⟨fun b hb e=>?_,L _ _ (fun _ h=>h)⟩
     obtain ⟨j,q,_,e2⟩:=uE _ _ _ b hb
     have:=congrArg List.length e
     rw [e2,aG,aD] at this
     simp only at this
     omega
   rw [jR]
   split
   · exact C _
   · split
     · exact C _
     · split
       · exact L5 _ _
       · split
         · split
           · exact List.Pairwise.nil
           · exact L5 _ _
         · exact L5 _ _
def kX:List LTerm→Nat→List hZ
 | [],_=>[]
 | p::l,i=>⟨(i:Int),dI p []⟩::kX l (i+1)
def vQ:List LTerm→Nat
 | []=>0
 | p::l=>(dI p []).length+vQ l
theorem sS:∀ {l:List LTerm} {i:Nat},∀ r ∈ kX l i,∃ p ∈ l,r.left=dI p []∧(i:Int)≤r.index
 | p :: l,i,r,hr=>by
   rw [kX] at hr
   rcases cH.1 hr with rfl | hr
   · exact ⟨p,by simp,rfl,uY _⟩
   · obtain ⟨q,hq,e,h⟩:=sS (l:=l) (i:=i+1) r hr
     exact ⟨q,by simp [hq],e,by omega⟩
theorem P7:∀ {l:List LTerm} {i:Nat},(kX l i).Pairwise fun a b=>a.index < b.index
 | [],_=>List.Pairwise.nil
 | p::l,i=>by
   rw [kX,iH]
   refine ⟨fun b hb=>?_,P7⟩
   obtain ⟨q,hq,e,h⟩:=sS b hb
   show (i:Int) < b.index
   omega
theorem xP {s:dF} {t:LTerm}:∀ {l:List LTerm} {i:Nat},kJ s t (kX l i)=fC s t l i
 | [],_=>rfl
 | p::l,i=>by rw [kX,kJ,fC,xP (l:=l) (i:=i+1)]; rfl
theorem xG:∀ {l:List LTerm} {i:Nat},mD (kX l i)=vQ l
 | [],_=>rfl
 | p::l,i=>by rw [kX,mD,vQ,xG (l:=l) (i:=i+1)]
theorem uI {s:dF} {t:LTerm} (h:A8 s t=true):(dI t []).length≤2000∧∀ a ∈ dI t [],TOk s a:=by
 have hv:=lY h
 have hf:rW s t=true:=by
   rw [A8,bCc,aB,aB,aB] at h; exact h.2.2.1
 have hw:=aPa hv
 simp only [jQ,aB,decide_eq_true_eq] at hv
 exact ⟨dN (pC t []) hv.2,aHv s t hw hf hv.2 [] (by simp only [aY]; omega) (by simp)⟩
theorem pG {s:dF} {l:List LTerm} (h:∀ p ∈ l,A8 s p=true):V8 s (kX l 0):=by
 refine ⟨fun r hr=>?_,P7,fun r hr=>?_,fun r hr=>?_,fun r hr a ha=>?_,fun r hr a ha=>?_⟩ <;> obtain ⟨p,hp,e,hi⟩:=sS r hr
 · omega
 · rw [e]; exact dN (uI (h p hp)).1 (by decide)
 · rw [e]
   refine (aEs p []).imp_of_mem (fun {a b} ha hb hab hk=>hab ?_)
   have k:=(uI (h p hp)).2
   rw [aKz (k a ha).1 (k b hb).1 hk]
 · rw [e] at ha; exact ((uI (h p hp)).2 a ha).1
 · rw [e] at ha; exact ((uI (h p hp)).2 a ha).2.1
def jK (s:dF) (l:List LTerm):cM × Int:=if dZ s l=true then ((gA 499 4999 (kX l 0)).1,0) else (.mk [] zA [] [],2)
theorem aNg {s:dF} {l:List LTerm} (h:dZ s l=true):aOr s (jK s l).1=true∧aFo (jK s l).1 []=true:=by
 obtain ⟨a,_,b⟩:=pM h
 have i:=pG b
 rw [jK,if_pos h]
 exact ⟨aRe a i,yI i (fun _ _ _ _=>by simp)⟩
theorem aGl {s:dF} {l:List LTerm} {t:LTerm} (h:dZ s l=true):(sX s (jK s l).1 t).1=(tT s l t).1∧(sX s (jK s l).1 t).2.2=(tT s l t).2∧(sX s (jK s l).1 t).2.1≤(vQ l:Int):=by
 have hb:=aNg h
 obtain ⟨a,_,b⟩:=pM h
 have i:=pG b
 rw [sX,tT,hb.1,h,aM]
 split
 · have m:=yH (s:=s) (t:=t) (f:=499) (b:=4999) (n:=0) i
   rw [xP,xG] at m
   rw [jK,if_pos h]
   exact ⟨m.1,rfl,by have:=m.2; dsimp only; omega⟩
 · exact ⟨rfl,rfl,by show (0:Int)≤_; omega⟩
end Go.Proofs.YtifefbhllfdmlaaGreatDoor

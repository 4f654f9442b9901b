/-
  What functions of the chapter return, as plain functions of what they are given; no condition beyond those that each theorem names.
-/
import Derived.Test.YtifefbhllfdmlaaGreatDoorVbP82
import Derived.Test.YtifefbhllfdmlaaGreatDoorVoP90
import Derived.Test.YtifefbhllfdmlaaGreatDoorVbP81
set_option maxRecDepth 100000
set_option linter.unusedSimpArgs false
set_option linter.unusedVariables false
set_option maxHeartbeats 4000000
namespace Go.Proofs.YtifefbhllfdmlaaGreatDoor
open Go Go.Vo
open Nat (reduceAdd reduceSub reduceMul reduceLeDiff reduceLT reduceEqDiff)
open Int (reduceNeg)

def eZ (s:bZ) (n:Int):List AV:=[cX s,.i .i64 n]
theorem pB {s:bZ} {n:Int}:persL (eZ s n)=true:=by simp [eZ,persL,pers,vL]
def aDp (s:bZ) (r:gZ) (p:Option Int):Bool:=decide (0≤r.index) && ((match p with | none=>true | some q=>decide (q < r.index)) && (decide (r.left.length≤4000) && r.left.all (isAskV s)))
def nB (s:bZ):List gZ→Option Int→Bool
 | [],_=>true
 | r::l,p=>aDp s r p && nB s l (some r.index)
theorem bNz (s:bZ) (n:Int) (a:LAsk) (ha:OkK a): CT 177 [.agg (aJ a),.box [.box (eZ s n) 0] 0] (.b (!isAskV s a)):=by
 refine cY (rx:=true) (th:=fun _=>none) mixed Tryz.func177 g0 ?_
 · simp -implicitDefEqProofs (disch:=omega) only [Tryz.f177,go_sem,List.replicate,↓reduceIte,reduceAdd,reduceSub,reduceMul,reduceLeDiff,reduceLT,reduceEqDiff,reduceNeg,Nat.reduceBEq,aJ,avt,eZ]
   have c:=G2 s a ha
   simp only [aJ,avt] at c
   (refine zt1 c ?_; repeat' first | exact trivial | refine zJ ?_ ?_ | refine zH fun hc=>?_)
   all_goals exact aF rfl rfl
theorem aGr {s:bZ} {l:List gZ} {k:Nat} {p:Option Int} (h:k < l.length):nB s (l.drop k) p=(aDp s (l.getD k default) p && nB s (l.drop (k+1)) (some (l.getD k default).index)):=by
 rw [bH h,nB]; simp [List.getD,h]
def qF (l:List gZ) (k:Nat):Option Int:=if k=0 then none else some (l.getD (k - 1) default).index
theorem bOh (s:bZ) (n:Int) (l:List gZ) (hl:l.length≤1000000) (ho:∀ r ∈ l,r.left.length≤1000000∧∀ a ∈ r.left,OkK a): CT 115 [.box (eZ s n) 0,avr l] (.b (nB s l none)):=by
 refine cY (rx:=true) (th:=fun _=>none) mixed Tryz.func115 g0 ?_
 · simp -implicitDefEqProofs (disch:=omega) only [Tryz.f115,go_sem,List.replicate,↓reduceIte,reduceAdd,reduceSub,reduceMul,reduceLeDiff,reduceLT,reduceEqDiff,reduceNeg,Nat.reduceBEq,avr]
   (refine zs0 ?_; repeat' first | exact trivial | refine zJ ?_ ?_ | refine zH fun hc=>?_)
   refine eE (fun (k:Nat)=>[.k,.k,.k,.k,.j,.j,.j,.k,.k,.v (.i .i64 (k:Nat)),.j,.j,.j,.j,.j,.j,.j,.j,.j,.j,.j,.j,.j,.j,.j,.j,.j,.j,.j,.j,.j,.j,.j,.j,.j,.j,.j,.j,.j,.j,.j,.j,.j,.j,.j]) (fun k=>[.box false [.box (eZ s n) 0]]) (fun k=>k≤l.length∧nB s l none=nB s (l.drop k) (qF l k)) (fun k=>l.length - k) (0) [] ⟨aG _,rfl⟩ (by simp [avs,avb,avi,avo,bK,aO]) (by simp [eN]) ?_
   rintro k g j ⟨hk,hv⟩
   by_cases hlt:k < l.length
   · have hki:(k:Int) < ((l.length:Nat):Int):=by omega
     rw [aGr hlt] at hv
     obtain ⟨q1,q2⟩:=ho _ (aU (d:=default) hlt)
     have c:=bOx (l.getD k default).left 177 [] [.box [.box (eZ s n) 0] 0] (fun a => !isAskV s a) q1 rfl (by simp [persL,pers,pB]) (fun i hi=>bNz s n _ (q2 _ (aU hi)))
     have e:((l.getD k default).left.any fun a => !isAskV s a) = !(l.getD k default).left.all (isAskV s):=List.not_all_eq_any_not.symm
     rw [e] at c
     clear e
     simp only [ava] at c
     have hro:aDp s (l.getD k default) (qF l k)=(decide (0≤(l.getD k default).index) && ((match qF l k with | none=>true | some q=>decide (q < (l.getD k default).index)) && (decide ((l.getD k default).left.length≤4000) && (l.getD k default).left.all (isAskV s)))):=rfl
     generalize (l.getD k default).left.all (isAskV s)=A at *
     have fin:∀ {b:Bool} {H:List AObj},aDp s (l.getD k default) (qF l k)=false→b=false→Fin H (.b b) (.b (nB s l none)):=fun h1 h2=>aF (by rw [hv,h1,h2]; rfl) rfl
     have nxt:aDp s (l.getD k default) (qF l k)=true→nB s l none=nB s (l.drop (k+1)) (qF l (k+1)):=fun h=>by rw [hv,h,Bool.true_and,qF,if_neg (by omega)]; simp
     rcases A7 k with h0 | h0
     · have hz:¬ (0:Int) < (k:Int):=by omega
       have hp:qF l k=none:=by rw [qF,if_pos h0]
       rw [hp] at hro
       dsimp only at hro
       refine zh (zA2 (zt hki) (zA2 @bM.eq_1 (zf hz))) ?_
       (refine zy1 (zA2 @pB (zA2 (zt hki) (zA2 @bM.eq_1 (zf hz)))) c ?_; repeat' first | exact trivial | refine zJ ?_ ?_ | refine zH fun hc=>?_)
       all_goals first
         | exact ⟨k+1,_,⟨by omega,nxt (by rw [hp,hro]; (simp_all) <;> omega)⟩,by omega,rfl,by simp⟩
         | exact fin (by rw [hp,hro]; (simp_all) <;> omega) rfl
     · have hz:(0:Int) < (k:Int):=by omega
       have hp:qF l k=some (l.getD (k - 1) default).index:=by rw [qF,if_neg (by omega)]
       rw [hp] at hro
       dsimp only at hro
       have hk1:((k:Int) - 1)=((k - 1:Nat):Int):=by omega
       refine zh (zA2 (zt hki) (zA2 @bM.eq_1 (zA2 (zt hz) hk1))) ?_
       (refine zy1 (zA2 @pB (zA2 (zt hki) (zA2 @bM.eq_1 (zA2 (zt hz) hk1)))) c ?_; repeat' first | exact trivial | refine zJ ?_ ?_ | refine zH fun hc=>?_)
       all_goals first
         | exact ⟨k+1,_,⟨by omega,nxt (by rw [hp,hro]; (simp_all) <;> omega)⟩,by omega,rfl,by simp⟩
         | exact fin (by rw [hp,hro]; (simp_all) <;> omega) rfl
   · have hki:¬ (k:Int) < ((l.length:Nat):Int):=by omega
     rw [aY (by omega),nB] at hv
     refine zh (zf hki) ?_
     (refine zx0 (zf hki) ?_; repeat' first | exact trivial | refine zJ ?_ ?_ | refine zH fun hc=>?_)
     all_goals exact aF (by rw [hv]) rfl

abbrev zTe:LTest:=⟨0,zT,[],0⟩
inductive OkV:cA→Prop
 | mk {x:cA}:OkK x.ask→x.rows.length≤1000000→(∀ r ∈ x.rows,r.left.length≤1000000∧∀ a ∈ r.left,OkK a)→x.yes.length≤10000000000000→x.no.length≤10000000000000→(∀ k ∈ x.yes,OkV k)→(∀ k ∈ x.no,OkV k)→OkV x
def aEp (s:bZ) (rows:List gZ) (a:LAsk):Bool:=decide (a.path.length=0) && (jA a.test zTe && nB s rows none)
mutual
def oB (s:bZ):cA→Int→Int→Bool × Int
 | .mk rows ask yes no,n,d=>if 5000 < n+1∨500 < d then (false,n+1)
   else if yes.length=0∧no.length=0 then (aEp s rows ask,n+1)
   else if yes.length=1∧no.length=1∧rows.length=0∧isAskV s ask=true then
     (if (chkL s yes (n+1) (d+1)).1=true then chkL s no (chkL s yes (n+1) (d+1)).2 (d+1) else (false,(chkL s yes (n+1) (d+1)).2))
   else (false,n+1)
def chkL (s:bZ):List cA→Int→Int→Bool × Int
 | [],n,_=>(true,n)
 | y::_,n,d=>oB s y n d
end
theorem aFl (s:bZ) (x:cA) (n d:Int):oB s x n d=if 5000 < n+1∨500 < d then (false,n+1)
   else if x.yes.length=0∧x.no.length=0 then (aEp s x.rows x.ask,n+1)
   else if x.yes.length=1∧x.no.length=1∧x.rows.length=0∧isAskV s x.ask=true then
     (if (oB s (x.yes.getD 0 default) (n+1) (d+1)).1=true then oB s (x.no.getD 0 default) (oB s (x.yes.getD 0 default) (n+1) (d+1)).2 (d+1) else (false,(oB s (x.yes.getD 0 default) (n+1) (d+1)).2))
   else (false,n+1):=by
 obtain ⟨rows,ask,yes,no⟩:=x
 rw [oB]
 simp only [cA.rows,cA.ask,cA.yes,cA.no]
 by_cases h1:5000 < n+1∨500 < d
 · simp only [h1,if_true]
 simp only [h1,if_false]
 by_cases h2:yes.length=0∧no.length=0
 · simp only [h2,and_self,if_true]
 simp only [h2,if_false]
 by_cases h3:yes.length=1∧no.length=1∧rows.length=0∧isAskV s ask=true
 · simp only [h3,and_self,if_true]
   obtain ⟨a,b,_,_⟩:=h3
   match yes,no,a,b with
   | [y],[z],_,_=>simp [chkL]; rfl
 · simp only [h3,if_false]
theorem aFk (s:bZ):∀ (x:cA) (n d:Int),0≤n→n≤5000→n≤(oB s x n d).2∧(oB s x n d).2≤5001∧((oB s x n d).1=true→(oB s x n d).2≤5000):=
 kO (Q := fun x=>∀ (n d:Int),0≤n→n≤5000→n≤(oB s x n d).2∧(oB s x n d).2≤5001∧((oB s x n d).1=true→(oB s x n d).2≤5000)) fun x hy hn n d h0 h5=>by
   rw [aFl]
   split
   · exact ⟨by dsimp only; omega,by dsimp only; omega,fun h=>by cases h⟩
   · rename_i h1
     split
     · exact ⟨by dsimp only; omega,by dsimp only; omega,fun _=>by dsimp only; omega⟩
     · split
       · rename_i h3
         have a:=hy _ (aU (d:=default) (l:=x.yes) (k:=0) (by omega)) (n+1) (d+1) (by omega) (by omega)
         split
         · rename_i h4
           have b:=hn _ (aU (d:=default) (l:=x.no) (k:=0) (by omega)) (oB s (x.yes.getD 0 default) (n+1) (d+1)).2 (d+1) (by omega) (a.2.2 h4)
           exact ⟨by omega,b.2⟩
         · exact ⟨by dsimp only; omega,by dsimp only; omega,fun h=>by cases h⟩
       · exact ⟨by dsimp only; omega,by dsimp only; omega,fun h=>by cases h⟩
theorem bOi (a b:LTest) (ha:OkT a.term) (hb:OkT b.term): CT 114 [.agg (dT a),.agg (dT b)] (.b (jA a b)):=by
 refine bQ mixed Tryz.func114 g0 ?_
 · simp -implicitDefEqProofs (disch:=omega) only [Tryz.f114,go_sem,List.replicate,↓reduceIte,reduceAdd,reduceSub,reduceMul,reduceLeDiff,reduceLT,reduceEqDiff,reduceNeg,Nat.reduceBEq,dT,avt]
   (refine zt1 (aSx a.term b.term ha hb) ?_; repeat' first | exact trivial | refine zJ ?_ ?_ | refine zH fun hc=>?_)
   all_goals (refine aF ?_ rfl; simp_all [jA])

theorem bZg (s:bZ) (x:cA) (n d:Int) (g:List AObj) (hg:g.all AObj.persO=true) (hx:OkV x) (hn:0≤n) (hn5:n≤5000) (hd:1≤d) (hd5:d≤501) (ihy:∀ y ∈ x.yes,∀ (n d:Int) (g:List AObj),g.all AObj.persO=true→0≤n→n≤5000→1≤d→d≤501→ACalls Tryz.prog G0 65 [.ptr 0 0,elX y,.i .i64 d] (.box false (eZ s n)::g) (fun r h'=>r=.b (oB s y n d).1∧h'=.box false (eZ s (oB s y n d).2)::g)) (ihn:∀ y ∈ x.no,∀ (n d:Int) (g:List AObj),g.all AObj.persO=true→0≤n→n≤5000→1≤d→d≤501→ACalls Tryz.prog G0 65 [.ptr 0 0,elX y,.i .i64 d] (.box false (eZ s n)::g) (fun r h'=>r=.b (oB s y n d).1∧h'=.box false (eZ s (oB s y n d).2)::g)): ACalls Tryz.prog G0 65 [.ptr 0 0,elX x,.i .i64 d] (.box false (eZ s n)::g) (fun r h'=>r=.b (oB s x n d).1∧∃ z,h'=.box false (eZ s (oB s x n d).2)::(g++z)):=by
 refine dF (rx:=true) (th:=fun i=>if i=6 then some ⟨none,[0],false,false,false,[69,70,71],[84,94]⟩ else none) mixed Tryz.func65 ?_
 · simp -implicitDefEqProofs (disch:=omega) only [Tryz.f65,go_sem,List.replicate,↓reduceIte,reduceAdd,reduceSub,reduceMul,reduceLeDiff,reduceLT,reduceEqDiff,reduceNeg,Nat.reduceBEq,eZ]
   obtain ⟨x1,x2,x3,x4,x5⟩:OkK x.ask∧x.rows.length≤1000000∧(∀ r ∈ x.rows,r.left.length≤1000000∧∀ a ∈ r.left,OkK a)∧x.yes.length≤10000000000000∧x.no.length≤10000000000000:=by cases hx; exact ⟨by assumption,by assumption,by assumption,by assumption,by assumption⟩
   have e:=aFl s x n d
   by_cases h1:5000 < n+1
   · rw [if_pos (.inl h1)] at e
     rw [e]
     refine zh (zt h1) ?_
     (refine zx0 (zt h1) ?_; repeat' first | exact trivial | refine zJ ?_ ?_ | refine zH fun hc=>?_)
     all_goals exact ⟨_,rfl⟩
   by_cases h2:500 < d
   · rw [if_pos (.inr h2)] at e
     rw [e]
     refine zh (zA2 (zf h1) (zt h2)) ?_
     (refine zx0 (zA2 (zf h1) (zt h2)) ?_; repeat' first | exact trivial | refine zJ ?_ ?_ | refine zH fun hc=>?_)
     all_goals exact ⟨_,rfl⟩
   rw [if_neg (by omega)] at e
   by_cases h3:x.yes.length=0∧x.no.length=0
   · rw [if_pos h3] at e
     rw [e]
     have c1:=bOi x.ask.test zTe x1.1.term aEe
     have c2:=bOh s (n+1) x.rows x2 x3
     have z1:((x.yes.length:Nat):Int)=0:=by omega
     have z2:((x.no.length:Nat):Int)=0:=by omega
     have hz:¬ 5000 < n+1:=h1
     have el:aEp s x.rows x.ask=(decide (x.ask.path.length=0) && (jA x.ask.test zTe && nB s x.rows none)):=rfl
     generalize jA x.ask.test zTe=A at *
     generalize nB s x.rows none=B at *
     simp only [dT,avt,avr,eZ] at c1 c2
     refine zh (zA2 (zf h1) (zA2 (zf h2) (zA2 (zt z1) (zt z2)))) ?_
     (refine zy2 (zA2 (zf h1) (zA2 (zf h2) (zA2 (zt z1) (zt z2)))) c1 c2 ?_; repeat' first | exact trivial | refine zJ ?_ ?_ | refine zH fun hc=>?_)
     all_goals exact ⟨by rw [el]; simp_all,_,rfl⟩
   rw [if_neg h3] at e
   have o1:(g.length+1=0)=False:=eq_false (by omega)
   have o2:(g.length+1 < g.length+1+1)=True:=eq_true (by omega)
   have c3:=G2 s x.ask x1
   simp only [aJ,avt,eZ] at c3
   by_cases h4:x.yes.length=1
   · have z4 : ((x.yes.length:Nat):Int)=1:=by omega
     have z3:¬ ((x.yes.length:Nat):Int)=0:=by omega
     by_cases h5:x.no.length=1
     · have z5:((x.no.length:Nat):Int)=1:=by omega
       by_cases h6:x.rows.length=0
       · have z6:((x.rows.length:Nat):Int)=0:=by omega
         rcases eM (isAskV s x.ask) with h7 | h7
         · rw [if_pos ⟨h4,h5,h6,h7⟩] at e
           rw [h7] at c3
           have l1:=aFk s (x.yes.getD 0 default) (n+1) (d+1) (by omega) (by omega)
           have cy:=fun g hg=>ihy _ (aU (d:=default) (l:=x.yes) (k:=0) (by omega)) (n+1) (d+1) g hg (by omega) (by omega) (by omega) (by omega)
           have cn:=fun hq g hg=>ihn _ (aU (d:=default) (l:=x.no) (k:=0) (by omega)) (oB s (x.yes.getD 0 default) (n+1) (d+1)).2 (d+1) g hg (by omega) (l1.2.2 hq) (by omega) (by omega)
           generalize oB s (x.yes.getD 0 default) (n+1) (d+1)=Y at *
           have hgx:(g++[AObj.box false [.sl ((x).rows.flatMap bM) (x).rows.length,.sl ((x).ask.path.map (.i .i64)) (x).ask.path.length,.i .i64 (x).ask.test.op,.i .i64 (x).ask.test.term.kind,.i .i64 (x).ask.test.term.n,.s (x).ask.test.term.text,.s (x).ask.test.term.sort,.sl ((x).ask.test.term.kids.flatMap aC) (x).ask.test.term.kids.length,.sl ((x).ask.test.term.rest.flatMap aC) (x).ask.test.term.rest.length,.s (x).ask.test.text,.i .i64 (x).ask.test.n,.sl ((x).yes.flatMap bX) (x).yes.length,.sl ((x).no.flatMap bX) (x).no.length]]).all AObj.persO=true:=by rw [iY,hg]; simp [AObj.persO,persL,pers,iH,eP,jM,aAm]
           have cy1:=cy _ hgx
           simp only [elX,cW,avr,avt,avx,eZ] at cy1
           obtain ⟨y1,y2⟩:=Y
           dsimp only at *
           refine zh (zA2 o1 (zA2 o2 (zA2 (zf h1) (zA2 (zf h2) (zA2 (zf z3) (zA2 (zt z4) (zA2 (zt z5) (zt z6)))))))) ?_
           (refine zy1 (zA2 o1 (zA2 o2 (zA2 (zf h1) (zA2 (zf h2) (zA2 (zf z3) (zA2 (zt z4) (zA2 (zt z5) (zt z6)))))))) c3 ?_; repeat' first | exact trivial | refine zJ ?_ ?_ | refine zH fun hc=>?_)
           refine bAm cy1 rfl (zY (N:=⟨g.length+1+1,[0]⟩) (h:=_::_) (id:=0) (ob:=_) (by simp [DR.old])) ?_
           cases y1
           · rw [if_neg (by simp)] at e
             rw [e]
             refine zg ?_
             exact ⟨_,rfl⟩
           · rw [if_pos rfl] at e
             have cn1:=cn rfl _ hgx
             simp only [elX,cW,avr,avt,avx,eZ] at cn1
             refine zh (zA2 o1 (zA2 o2 (zt z5))) ?_
             refine ⟨by omega,by omega,?_⟩
             refine bAm cn1 rfl (zY (N:=⟨g.length+1+1,[0]⟩) (h:=_::_) (id:=0) (ob:=_) (by simp [DR.old])) ?_
             rw [e]
             refine zg ?_
             exact ⟨_,rfl⟩
         · rw [if_neg (fun h=>by rw [h.2.2.2] at h7; cases h7)] at e
           rw [h7] at c3
           rw [e]
           refine zh (zA2 o1 (zA2 o2 (zA2 (zf h1) (zA2 (zf h2) (zA2 (zf z3) (zA2 (zt z4) (zA2 (zt z5) (zt z6)))))))) ?_
           (refine zy1 (zA2 o1 (zA2 o2 (zA2 (zf h1) (zA2 (zf h2) (zA2 (zf z3) (zA2 (zt z4) (zA2 (zt z5) (zt z6)))))))) c3 ?_; repeat' first | exact trivial | refine zJ ?_ ?_ | refine zH fun hc=>?_)
           all_goals exact ⟨_,rfl⟩
       · have z6:¬ ((x.rows.length:Nat):Int)=0:=by omega
         rw [if_neg (fun h=>h6 h.2.2.1)] at e
         rw [e]
         refine zh (zA2 o1 (zA2 o2 (zA2 (zf h1) (zA2 (zf h2) (zA2 (zf z3) (zA2 (zt z4) (zA2 (zt z5) (zf z6)))))))) ?_
         (refine zx0 (zA2 o1 (zA2 o2 (zA2 (zf h1) (zA2 (zf h2) (zA2 (zf z3) (zA2 (zt z4) (zA2 (zt z5) (zf z6)))))))) ?_; repeat' first | exact trivial | refine zJ ?_ ?_ | refine zH fun hc=>?_)
         all_goals exact ⟨_,rfl⟩
     · have z5:¬ ((x.no.length:Nat):Int)=1:=by omega
       rw [if_neg (fun h=>h5 h.2.1)] at e
       rw [e]
       refine zh (zA2 o1 (zA2 o2 (zA2 (zf h1) (zA2 (zf h2) (zA2 (zf z3) (zA2 (zt z4) (zf z5))))))) ?_
       (refine zx0 (zA2 o1 (zA2 o2 (zA2 (zf h1) (zA2 (zf h2) (zA2 (zf z3) (zA2 (zt z4) (zf z5))))))) ?_; repeat' first | exact trivial | refine zJ ?_ ?_ | refine zH fun hc=>?_)
       all_goals exact ⟨_,rfl⟩
   · have z4:¬ ((x.yes.length:Nat):Int)=1:=by omega
     rw [if_neg (fun h=>h4 h.1)] at e
     rw [e]
     by_cases z3:((x.yes.length:Nat):Int)=0
     · have z7:¬ ((x.no.length:Nat):Int)=0:=by omega
       refine zh (zA2 o1 (zA2 o2 (zA2 (zf h1) (zA2 (zf h2) (zA2 (zt z3) (zA2 (zf z4) (zf z7))))))) ?_
       (refine zx0 (zA2 o1 (zA2 o2 (zA2 (zf h1) (zA2 (zf h2) (zA2 (zt z3) (zA2 (zf z4) (zf z7))))))) ?_; repeat' first | exact trivial | refine zJ ?_ ?_ | refine zH fun hc=>?_)
       all_goals exact ⟨_,rfl⟩
     · refine zh (zA2 o1 (zA2 o2 (zA2 (zf h1) (zA2 (zf h2) (zA2 (zf z3) (zf z4)))))) ?_
       (refine zx0 (zA2 o1 (zA2 o2 (zA2 (zf h1) (zA2 (zf h2) (zA2 (zf z3) (zf z4)))))) ?_; repeat' first | exact trivial | refine zJ ?_ ?_ | refine zH fun hc=>?_)
       all_goals exact ⟨_,rfl⟩
theorem vld (s:bZ):∀ (x:cA),OkV x→∀ (n d:Int) (g:List AObj),g.all AObj.persO=true→0≤n→n≤5000→1≤d→d≤501→ACalls Tryz.prog G0 65 [.ptr 0 0,elX x,.i .i64 d] (.box false (eZ s n)::g) (fun r h'=>r=.b (oB s x n d).1∧h'=.box false (eZ s (oB s x n d).2)::g):=
 kO (Q:=fun x=>OkV x→∀ (n d:Int) (g:List AObj),g.all AObj.persO=true→0≤n→n≤5000→1≤d→d≤501→ACalls Tryz.prog G0 65 [.ptr 0 0,elX x,.i .i64 d] (.box false (eZ s n)::g) (fun r h'=>r=.b (oB s x n d).1∧h'=.box false (eZ s (oB s x n d).2)::g)) fun x hy hn hx n d g hg h1 h2 h3 h4=>by
   have hh:(∀ k ∈ x.yes,OkV k)∧(∀ k ∈ x.no,OkV k):=by cases hx; exact ⟨by assumption,by assumption⟩
   refine xB (r0:=.b (oB s x n d).1) (h1:=.box false (eZ s (oB s x n d).2)::g) g0 (bZg s x n d g hg hx h1 h2 h3 h4 (fun y hm=>hy y hm (hh.1 y hm)) (fun y hm=>hn y hm (hh.2 y hm))) rfl (by simp [AObj.persO,pB,hg]) (by simp)
theorem bPe (s:bZ) (x:cA) (hm:Small s) (hs:OkS s) (hx:OkV x): CT 24 [.agg (aO s),elX x] (.b (dM s && (oB s x 0 1).1)):=by
 refine aL mixed Tryz.func24 g0 ?_
 · skip
   have c1:=aMg s hm hs
   rcases eM (dM s) with h | h
   · rw [h] at c1
     have c2:=aBz s hm (iE h)
     have c3:=(vld s x hx 0 1 [] rfl (by decide) (by decide) (by decide) (by decide)).mono fun r h' (hq:r=.b (oB s x 0 1).1∧h'=.box false (eZ s (oB s x 0 1).2)::[])=>(⟨hq.1,[],hq.2⟩:r=.b (oB s x 0 1).1∧∃ g,h'=.box false (eZ s (oB s x 0 1).2)::g)
     rw [h,Bool.true_and]
     (refine zt2 c1 c2 ?_; repeat' first | exact trivial | refine zJ ?_ ?_ | refine zH fun hc=>?_)
     refine aTr 2 g0 c3 pB pB rfl rfl (by simp only [renL,ren,elX,cW,avr,avt,avx,emb,renL_pers _ _ aAm,renL_pers _ _ iH,renL_pers _ _ jM,renL_pers _ _ eP]; rfl) ?_
     intro g
     refine zg ?_
     exact aF rfl rfl
   · rw [h] at c1
     rw [h,Bool.false_and]
     (refine zt1 c1 ?_; repeat' first | exact trivial | refine zJ ?_ ?_ | refine zH fun hc=>?_)
     all_goals exact aF rfl rfl

theorem bOg (a:LAsk) (ha:OkT a.test.term): CT 116 [.agg (aJ a)] (.b (decide (a.path.length=0) && jA a.test zTe)):=by
 refine bQ mixed Tryz.func116 g0 ?_
 · simp -implicitDefEqProofs (disch:=omega) only [Tryz.f116,go_sem,List.replicate,↓reduceIte,reduceAdd,reduceSub,reduceMul,reduceLeDiff,reduceLT,reduceEqDiff,reduceNeg,Nat.reduceBEq,aJ,avt]
   have c1:=bDj a.test zTe ha aEe
   generalize jA a.test zTe=A at *
   simp only [dT,avt] at c1
   by_cases h:a.path.length=0
   · have z1:((a.path.length:Nat):Int)=0:=by omega
     refine zh (zt z1) ?_
     (refine zy1 (zt z1) c1 ?_; repeat' first | exact trivial | refine zJ ?_ ?_ | refine zH fun hc=>?_)
     all_goals exact aF (by rw [zt h,Bool.true_and]) rfl
   · have z1:¬ ((a.path.length:Nat):Int)=0:=by omega
     refine zh (zf z1) ?_
     (refine zx0 (zf z1) ?_; repeat' first | exact trivial | refine zJ ?_ ?_ | refine zH fun hc=>?_)
     all_goals exact aF (by rw [zf h,Bool.false_and]) rfl
def aAi (p:Option Int) (r:gZ):Bool:=match p with | none=>true | some q=>decide (q < r.index)
theorem mM (s:bZ) (r:gZ) (p:Option Int):aDp s r p=(decide (0≤r.index) && (aAi p r && (decide (r.left.length≤4000) && r.left.all (isAskV s)))):=by cases p <;> rfl
theorem aJy {s:bZ} {l:List LAsk} {k:Nat} (hk:k < l.length) (h:isAskV s (l.getD k default)=false):l.all (isAskV s)=false:=by
 rw [fR]; exact ⟨_,aU hk,by rw [h]; simp⟩
theorem aJx {s:bZ} {l:List LAsk} (h:∀ j,j < l.length→isAskV s (l.getD j default)=true):l.all (isAskV s)=true:=by
 rw [aN]
 intro x hx
 obtain ⟨j,hj,rfl⟩:=bU.1 hx
 have:=h j hj
 simpa [List.getD,hj] using this
theorem bOf (s:bZ) (l:List gZ) (hm:Small s) (hs:OkS s) (hv:dM s=true) (hl:l.length≤1000000) (ho:∀ r ∈ l,r.left.length≤1000000∧∀ a ∈ r.left,OkK a): CT 117 [.agg (aO s),avr l] (.b (nB s l none)):=by
 refine cY (rx:=true) (th:=fun _=>none) mixed Tryz.func117 g0 ?_
 · simp -implicitDefEqProofs (disch:=omega) only [Tryz.f117,go_sem,List.replicate,↓reduceIte,reduceAdd,reduceSub,reduceMul,reduceLeDiff,reduceLT,reduceEqDiff,reduceNeg,Nat.reduceBEq,avr]
   (refine zs0 ?_; repeat' first | exact trivial | refine zJ ?_ ?_ | refine zH fun hc=>?_)
   refine eE (fun (k:Nat)=>[.k,.k,.k,.k,.j,.j,.j,.k,.j,.k,.k,.v (.i .i64 (k:Nat)),.j,.j,.j,.j,.j,.j,.j,.j,.j,.j,.j,.j,.j,.j,.j,.j,.j,.j,.j,.j,.j,.j,.j,.j,.j,.j,.j,.j,.j,.j,.j,.j,.j,.j,.j,.j,.j,.j,.j,.j,.j]) (fun k=>[.box false (aO s)]) (fun k=>k≤l.length∧nB s l none=nB s (l.drop k) (qF l k)) (fun k=>l.length - k) (0) [] ⟨aG _,rfl⟩ (by simp [avs,avb,avi,avo,bK,aO]) (by simp [eN]) ?_
   rintro k g j ⟨hk,e⟩
   by_cases hlt:k < l.length
   · have hki:(k:Int) < ((l.length:Nat):Int):=by omega
     rw [aGr hlt] at e
     obtain ⟨q1,q2⟩:=ho _ (aU (d:=default) hlt)
     have nxt:aDp s (l.getD k default) (qF l k)=true→nB s l none=nB s (l.drop (k+1)) (qF l (k+1)):=fun h=>by rw [e,h,Bool.true_and,qF,if_neg (by omega)]; simp
     by_cases h0:(l.getD k default).index < 0
     · refine zh (zA2 (zt hki) (zA2 @bM.eq_1 (zt h0))) ?_
       (refine zx0 (zA2 (zt hki) (zA2 @bM.eq_1 (zt h0))) ?_; repeat' first | exact trivial | refine zJ ?_ ?_ | refine zH fun hc=>?_)
       all_goals exact aF (by rw [e,mM,zf (by omega)]; simp) rfl
     rcases A7 k with hk0 | hk0
     · have hz:¬ (0:Int) < (k:Int):=by omega
       have hp:qF l k=none:=by rw [qF,if_pos hk0]
       by_cases hb:(l.getD k default).left.length≤4000
       · have h40:¬ (4000:Int) < (((l.getD k default).left.length:Nat):Int):=by omega
         refine zh (zA2 (zt hki) (zA2 @bM.eq_1 (zA2 (zf h0) (zA2 (zf hz) (zf h40))))) ?_
         (refine zx0 (zA2 (zt hki) (zA2 @bM.eq_1 (zA2 (zf h0) (zA2 (zf hz) (zf h40))))) ?_; repeat' first | exact trivial | refine zJ ?_ ?_ | refine zH fun hc=>?_)
         refine eE (fun (i:Nat)=>[.k,.k,.k,.k,.j,.k,.k,.k,.j,.k,.k,.k,.k,.k,.k,.k,.k,.k,.k,.k,.k,.k,.k,.k,.k,.k,.k,.k,.k,.k,.k,.k,.k,.k,.k,.k,.k,.k,.k,.k,.k,.k,.k,.v (.i .i64 (i:Nat)),.j,.j,.j,.j,.j,.j,.j,.j,.k]) (fun i=>(.box false (aO s)::(g++[.box false [.i .i64 (l.getD k default).index,.sl ((l.getD k default).left.flatMap aJ) (l.getD k default).left.length]]))) (fun i=>i≤(l.getD k default).left.length∧∀ j,j < i→isAskV s ((l.getD k default).left.getD j default)=true) (fun i=>(l.getD k default).left.length - i) (0) [] ⟨aG _,fun j h=>by omega⟩ (by simp [avs,avb,avi,avo,bK,aO]) (by simp [eN]) ?_
         rintro i g2 j2 ⟨hi,ha⟩
         by_cases hit:i < (l.getD k default).left.length
         · have hii:(i:Int) < (((l.getD k default).left.length:Nat):Int):=by omega
           have c1:=aSr s ((l.getD k default).left.getD i default) hm hs hv (q2 _ (aU hit))
           simp only [aJ,avt] at c1
           refine zh (zA2 (zt hii) (zA2 @bM.eq_1 (zA2 @aJ.eq_1 @avt.eq_1))) ?_
           (refine zy1 (zA2 (zt hii) (zA2 @bM.eq_1 (zA2 @aJ.eq_1 @avt.eq_1))) c1 ?_; repeat' first | exact trivial | refine zJ ?_ ?_ | refine zH fun hc=>?_)
           all_goals first
             | exact aF (by rw [e,mM,aJy hit hc]; simp) rfl
             | exact ⟨i+1,_,⟨by omega,bD ha hc⟩,by omega,rfl,by simp⟩
         · have hii:¬ (i:Int) < (((l.getD k default).left.length:Nat):Int):=by omega
           have hal:=aJx (s:=s) (l:=(l.getD k default).left) (fun j hj=>ha j (by omega))
           refine zh (zA2 (zf hii) @bM.eq_1) ?_
           exact ⟨k+1,g++(.box false [.i .i64 (l.getD k default).index,.sl ((l.getD k default).left.flatMap aJ) (l.getD k default).left.length]::g2),⟨by omega,nxt (by rw [mM,hp,hal,zt hb,zt (by omega:0≤(l.getD k default).index)]; simp only [aAi,decide_eq_true_eq,Bool.and_true,Bool.true_and]; try omega)⟩,by omega,by simp,by simp⟩
       · have h40:(4000:Int) < (((l.getD k default).left.length:Nat):Int):=by omega
         refine zh (zA2 (zt hki) (zA2 @bM.eq_1 (zA2 (zf h0) (zA2 (zf hz) (zt h40))))) ?_
         (refine zx0 (zA2 (zt hki) (zA2 @bM.eq_1 (zA2 (zf h0) (zA2 (zf hz) (zt h40))))) ?_; repeat' first | exact trivial | refine zJ ?_ ?_ | refine zH fun hc=>?_)
         all_goals exact aF (by rw [e,mM,zf hb]; simp) rfl
     · have hz:(0:Int) < (k:Int):=by omega
       have hp:qF l k=some (l.getD (k - 1) default).index:=by rw [qF,if_neg (by omega)]
       have hk1:((k:Int) - 1)=((k - 1:Nat):Int):=by omega
       by_cases h9:(l.getD k default).index≤(l.getD (k - 1) default).index
       · refine zh (zA2 (zt hki) (zA2 @bM.eq_1 (zA2 (zf h0) (zA2 (zt hz) (zA2 hk1 (zt h9)))))) ?_
         (refine zx0 (zA2 (zt hki) (zA2 @bM.eq_1 (zA2 (zf h0) (zA2 (zt hz) (zA2 hk1 (zt h9)))))) ?_; repeat' first | exact trivial | refine zJ ?_ ?_ | refine zH fun hc=>?_)
         all_goals exact aF (by rw [e,mM,hp,aAi,zf (by omega:¬ (l.getD (k - 1) default).index < (l.getD k default).index)]; simp) rfl
       by_cases hb:(l.getD k default).left.length≤4000
       · have h40:¬ (4000:Int) < (((l.getD k default).left.length:Nat):Int):=by omega
         refine zh (zA2 (zt hki) (zA2 @bM.eq_1 (zA2 (zf h0) (zA2 (zt hz) (zA2 hk1 (zA2 (zf h9) (zf h40))))))) ?_
         (refine zx0 (zA2 (zt hki) (zA2 @bM.eq_1 (zA2 (zf h0) (zA2 (zt hz) (zA2 hk1 (zA2 (zf h9) (zf h40))))))) ?_; repeat' first | exact trivial | refine zJ ?_ ?_ | refine zH fun hc=>?_)
         refine eE (fun (i:Nat)=>[.k,.k,.k,.k,.j,.k,.k,.k,.j,.k,.k,.k,.k,.k,.k,.k,.k,.k,.k,.k,.k,.k,.k,.k,.k,.k,.k,.k,.k,.k,.k,.k,.k,.k,.k,.k,.k,.k,.k,.k,.k,.k,.k,.v (.i .i64 (i:Nat)),.j,.j,.j,.j,.j,.j,.j,.j,.k]) (fun i=>(.box false (aO s)::(g++[.box false [.i .i64 (l.getD k default).index,.sl ((l.getD k default).left.flatMap aJ) (l.getD k default).left.length]]))) (fun i=>i≤(l.getD k default).left.length∧∀ j,j < i→isAskV s ((l.getD k default).left.getD j default)=true) (fun i=>(l.getD k default).left.length - i) (0) [] ⟨aG _,fun j h=>by omega⟩ (by simp [avs,avb,avi,avo,bK,aO]) (by simp [eN]) ?_
         rintro i g2 j2 ⟨hi,ha⟩
         by_cases hit:i < (l.getD k default).left.length
         · have hii:(i:Int) < (((l.getD k default).left.length:Nat):Int):=by omega
           have c1:=aSr s ((l.getD k default).left.getD i default) hm hs hv (q2 _ (aU hit))
           simp only [aJ,avt] at c1
           refine zh (zA2 (zt hii) (zA2 @bM.eq_1 (zA2 @aJ.eq_1 @avt.eq_1))) ?_
           (refine zy1 (zA2 (zt hii) (zA2 @bM.eq_1 (zA2 @aJ.eq_1 @avt.eq_1))) c1 ?_; repeat' first | exact trivial | refine zJ ?_ ?_ | refine zH fun hc=>?_)
           all_goals first
             | exact aF (by rw [e,mM,aJy hit hc]; simp) rfl
             | exact ⟨i+1,_,⟨by omega,bD ha hc⟩,by omega,rfl,by simp⟩
         · have hii:¬ (i:Int) < (((l.getD k default).left.length:Nat):Int):=by omega
           have hal:=aJx (s:=s) (l:=(l.getD k default).left) (fun j hj=>ha j (by omega))
           refine zh (zA2 (zf hii) @bM.eq_1) ?_
           exact ⟨k+1,g++(.box false [.i .i64 (l.getD k default).index,.sl ((l.getD k default).left.flatMap aJ) (l.getD k default).left.length]::g2),⟨by omega,nxt (by rw [mM,hp,hal,zt hb,zt (by omega:0≤(l.getD k default).index)]; simp only [aAi,decide_eq_true_eq,Bool.and_true,Bool.true_and]; try omega)⟩,by omega,by simp,by simp⟩
       · have h40:(4000:Int) < (((l.getD k default).left.length:Nat):Int):=by omega
         refine zh (zA2 (zt hki) (zA2 @bM.eq_1 (zA2 (zf h0) (zA2 (zt hz) (zA2 hk1 (zA2 (zf h9) (zt h40))))))) ?_
         (refine zx0 (zA2 (zt hki) (zA2 @bM.eq_1 (zA2 (zf h0) (zA2 (zt hz) (zA2 hk1 (zA2 (zf h9) (zt h40))))))) ?_; repeat' first | exact trivial | refine zJ ?_ ?_ | refine zH fun hc=>?_)
         all_goals exact aF (by rw [e,mM,zf hb]; simp) rfl
   · have hki:¬ (k:Int) < ((l.length:Nat):Int):=by omega
     rw [aY (by omega),nB] at e
     refine zh (zf hki) ?_
     (refine zx0 (zf hki) ?_; repeat' first | exact trivial | refine zJ ?_ ?_ | refine zH fun hc=>?_)
     all_goals exact aF (by rw [e]) rfl

mutual
def nodT:cA→Int→Int
 | .mk _ _ yes no,d=>if 500 < d then 5001 else nodL no (d+1) (nodL yes (d+1) 1)
def nodL:List cA→Int→Int→Int
 | [],_,n=>n
 | y::l,d,n=>nodL l d (if n≤5000 then n+nodT y d else n)
end
theorem qI (x:cA) (d:Int):nodT x d=if 500 < d then 5001 else nodL x.no (d+1) (nodL x.yes (d+1) 1):=by cases x; rw [nodT]; rfl
theorem E3 {d b:Int} (hb:1≤b):∀ {l:List cA} {n:Int},(∀ y ∈ l,1≤nodT y d∧nodT y d≤b)→1≤n→n≤5000+b→n≤nodL l d n∧nodL l d n≤5000+b
 | [],n,_,h1,h2=>by rw [nodL]; omega
 | y :: l,n,hy,h1,h2=>by
   have:=hy y (by simp)
   rw [nodL]
   split
   · have:=E3 hb (l:=l) (n:=n+nodT y d) (fun z hz=>hy z (by simp [hz])) (by omega) (by omega)
     omega
   · exact E3 hb (l:=l) (n:=n) (fun z hz=>hy z (by simp [hz])) h1 h2
theorem aEg:∀ (x:cA) (d:Int),1≤d→d≤501→1≤nodT x d∧nodT x d≤5001+5000 * (501 - d):=
 kO (Q:=fun x=>∀ (d:Int),1≤d→d≤501→1≤nodT x d∧nodT x d≤5001+5000 * (501 - d)) fun x hy hn d h1 h2=>by
   rw [qI]
   split
   · omega
   · have a:=E3 (d:=d+1) (b:=5001+5000 * (501 - (d+1))) (by omega) (l:=x.yes) (n:=1) (fun y hm=>hy y hm (d+1) (by omega) (by omega)) (by omega) (by omega)
     have b:=E3 (d:=d+1) (b:=5001+5000 * (501 - (d+1))) (by omega) (l:=x.no) (n:=nodL x.yes (d+1) 1) (fun y hm=>hn y hm (d+1) (by omega) (by omega)) (by omega) (by omega)
     omega
theorem aQk {l:List cA} {k:Nat} {d n:Int} (h:k < l.length):nodL (l.drop k) d n=nodL (l.drop (k+1)) d (if n≤5000 then n+nodT (l.getD k default) d else n):=by
 rw [bH h,nodL]; simp [List.getD,h]
theorem aZq (x:cA) (d:Int) (h0:1≤d) (h6:d≤501) (x5:x.yes.length≤10000000000000) (x6:x.no.length≤10000000000000) (ihy:d≤500→∀ y ∈ x.yes,CT 66 [elX y,.i .i64 (d+1)] (.i .i64 (nodT y (d+1)))) (ihn:d≤500→∀ y ∈ x.no,CT 66 [elX y,.i .i64 (d+1)] (.i .i64 (nodT y (d+1)))): CT 66 [elX x,.i .i64 d] (.i .i64 (nodT x d)):=by
 refine aL mixed Tryz.func66 g0 ?_
 · skip
   have e:=qI x d
   by_cases hd:500 < d
   · rw [if_pos hd] at e
     refine zh (zt hd) ?_
     (refine zx0 (zt hd) ?_; repeat' first | exact trivial | refine zJ ?_ ?_ | refine zH fun hc=>?_)
     all_goals exact aF (by rw [e]) rfl
   · rw [if_neg hd] at e
     have ihy:=ihy (by omega)
     have ihn:=ihn (by omega)
     have b1:=E3 (d:=d+1) (b:=5001+5000 * (501 - (d+1))) (by omega) (l:=x.yes) (n:=1) (fun y hm=>aEg y (d+1) (by omega) (by omega)) (by omega) (by omega)
     refine zh (zf hd) ?_
     (refine zx0 (zf hd) ?_; repeat' first | exact trivial | refine zJ ?_ ?_ | refine zH fun hc=>?_)
     refine eE (fun (q:Nat × Int)=>[.k,.k,.k,.k,.k,.v (.i .i64 q.2),.k,.j,.k,.j,.k,.k,.k,.k,.k,.k,.k,.k,.v (.i .i64 (q.1:Nat)),.j,.j,.j,.j,.j,.j,.j,.j,.j,.j,.j,.j,.j,.j,.j,.j,.j,.j,.j,.k]) (fun q=>[.box false [.sl ((x).rows.flatMap bM) (x).rows.length,.sl ((x).ask.path.map (.i .i64)) (x).ask.path.length,.i .i64 (x).ask.test.op,.i .i64 (x).ask.test.term.kind,.i .i64 (x).ask.test.term.n,.s (x).ask.test.term.text,.s (x).ask.test.term.sort,.sl ((x).ask.test.term.kids.flatMap aC) (x).ask.test.term.kids.length,.sl ((x).ask.test.term.rest.flatMap aC) (x).ask.test.term.rest.length,.s (x).ask.test.text,.i .i64 (x).ask.test.n,.sl ((x).yes.flatMap bX) (x).yes.length,.sl ((x).no.flatMap bX) (x).no.length],.arr false 1 [.sl (x.yes.flatMap bX) x.yes.length,.sl (x.no.flatMap bX) x.no.length]]) (fun q=>q.1≤2∧(q.1=0→q.2=1)∧(q.1=1→q.2=nodL x.yes (d+1) 1)∧(q.1=2→q.2=nodL x.no (d+1) (nodL x.yes (d+1) 1))∧1≤q.2∧q.2≤2600000) (fun q=>2 - q.1) ((0,1)) [] ⟨by simp,fun _=>rfl,fun h=>absurd h (by simp),fun h=>absurd h (by simp),by decide,by decide⟩ (by simp [avs,avb,avi,avo,bK,aO]) (by simp [eN]) ?_
     rintro ⟨k2,m2⟩ g2 j2 ⟨hk2,hs0,hs1,hs2,hlo,hhi⟩
     dsimp only at hk2 hs0 hs1 hs2 hlo hhi
     rcases (by omega:k2=0∨k2=1∨k2=2) with rfl | rfl | rfl
     · have hm2:=hs0 rfl
       have z0:((0:Int) < ((2:Nat):Int))=True:=eq_true (by decide)
       refine zh (zA2 z0 @decide_true) ?_
       (refine zx0 (zA2 z0 @decide_true) ?_; repeat' first | exact trivial | refine zJ ?_ ?_ | refine zH fun hc=>?_)
       refine eE (fun (p:Nat × Int)=>[.k,.k,.k,.k,.k,.v (.i .i64 p.2),.k,.k,.k,.j,.k,.k,.k,.k,.k,.k,.k,.k,.k,.k,.k,.k,.k,.k,.v (.i .i64 (p.1:Nat)),.j,.j,.j,.j,.j,.j,.j,.j,.j,.j,.j,.j,.k,.k]) (fun p=>(.box false [.sl ((x).rows.flatMap bM) (x).rows.length,.sl ((x).ask.path.map (.i .i64)) (x).ask.path.length,.i .i64 (x).ask.test.op,.i .i64 (x).ask.test.term.kind,.i .i64 (x).ask.test.term.n,.s (x).ask.test.term.text,.s (x).ask.test.term.sort,.sl ((x).ask.test.term.kids.flatMap aC) (x).ask.test.term.kids.length,.sl ((x).ask.test.term.rest.flatMap aC) (x).ask.test.term.rest.length,.s (x).ask.test.text,.i .i64 (x).ask.test.n,.sl ((x).yes.flatMap bX) (x).yes.length,.sl ((x).no.flatMap bX) (x).no.length]::.arr false 1 [.sl (x.yes.flatMap bX) x.yes.length,.sl (x.no.flatMap bX) x.no.length]::g2)) (fun p=>p.1≤x.yes.length∧1≤p.2∧p.2≤2600000∧nodL x.yes (d+1) m2=nodL (x.yes.drop p.1) (d+1) p.2) (fun p=>x.yes.length - p.1) ((0,m2)) [] ⟨aG _,hlo,hhi,rfl⟩ (by simp [avs,avb,avi,avo,bK,aO]) (by simp [eN]) ?_
       rintro ⟨k3,m3⟩ g3 j3 ⟨hk3,hlo3,hhi3,hsl⟩
       dsimp only at hk3 hlo3 hhi3 hsl
       by_cases hlt3:k3 < x.yes.length
       · have hki3:(k3:Int) < ((x.yes.length:Nat):Int):=by omega
         rw [aQk hlt3] at hsl
         have hm:=aU (d:=default) hlt3
         by_cases hneg:m3≤5000
         · rw [if_pos hneg] at hsl
           have ci:=ihy _ hm
           have hb:=aEg (x.yes.getD k3 default) (d+1) (by omega) (by omega)
           have hw:IntKind.i64.wrap (m3+nodT (x.yes.getD k3 default) (d+1))=m3+nodT (x.yes.getD k3 default) (d+1):=wrap64 (by omega) (by omega)
           simp only [elX,cW,avr,avt,avx] at ci
           refine zh (zA2 (zt hki3) (zt hneg)) ?_
           (refine zy1 (zA2 (zt hki3) (zA2 (zt hneg) hw)) ci ?_; repeat' first | exact trivial | refine zJ ?_ ?_ | refine zH fun hc=>?_)
           exact ⟨(k3+1,m3+nodT (x.yes.getD k3 default) (d+1)),_,⟨by dsimp only; omega,by dsimp only; omega,by dsimp only; omega,hsl⟩,by dsimp only; omega,rfl,by simp⟩
         · rw [if_neg hneg] at hsl
           refine zh (zA2 (zt hki3) (zf hneg)) ?_
           (refine zx0 (zA2 (zt hki3) (zf hneg)) ?_; repeat' first | exact trivial | refine zJ ?_ ?_ | refine zH fun hc=>?_)
           all_goals exact ⟨(k3+1,m3),_,⟨by dsimp only; omega,hlo3,hhi3,hsl⟩,by dsimp only; omega,rfl,by simp⟩
       · have hki3:¬ (k3:Int) < ((x.yes.length:Nat):Int):=by omega
         rw [aY (by omega),nodL] at hsl
         refine zh (zf hki3) ?_
         (refine zx0 (zf hki3) ?_; repeat' first | exact trivial | refine zJ ?_ ?_ | refine zH fun hc=>?_)
         exact ⟨(1,m3),g2++g3,⟨by simp,fun h=>absurd h (by simp),fun _=>by dsimp only; rw [hm2] at hsl; exact hsl.symm,fun h=>absurd h (by simp),hlo3,hhi3⟩,by dsimp only; omega,by simp,by simp⟩
     · have hm2:=hs1 rfl
       have z1:(((1:Nat):Int) < ((2:Nat):Int))=True:=eq_true (by decide)
       refine zh (zA2 z1 @decide_true) ?_
       (refine zx0 (zA2 z1 @decide_true) ?_; repeat' first | exact trivial | refine zJ ?_ ?_ | refine zH fun hc=>?_)
       refine eE (fun (p:Nat × Int)=>[.k,.k,.k,.k,.k,.v (.i .i64 p.2),.k,.k,.k,.j,.k,.k,.k,.k,.k,.k,.k,.k,.k,.k,.k,.k,.k,.k,.v (.i .i64 (p.1:Nat)),.j,.j,.j,.j,.j,.j,.j,.j,.j,.j,.j,.j,.k,.k]) (fun p=>(.box false [.sl ((x).rows.flatMap bM) (x).rows.length,.sl ((x).ask.path.map (.i .i64)) (x).ask.path.length,.i .i64 (x).ask.test.op,.i .i64 (x).ask.test.term.kind,.i .i64 (x).ask.test.term.n,.s (x).ask.test.term.text,.s (x).ask.test.term.sort,.sl ((x).ask.test.term.kids.flatMap aC) (x).ask.test.term.kids.length,.sl ((x).ask.test.term.rest.flatMap aC) (x).ask.test.term.rest.length,.s (x).ask.test.text,.i .i64 (x).ask.test.n,.sl ((x).yes.flatMap bX) (x).yes.length,.sl ((x).no.flatMap bX) (x).no.length]::.arr false 1 [.sl (x.yes.flatMap bX) x.yes.length,.sl (x.no.flatMap bX) x.no.length]::g2)) (fun p=>p.1≤x.no.length∧1≤p.2∧p.2≤2600000∧nodL x.no (d+1) m2=nodL (x.no.drop p.1) (d+1) p.2) (fun p=>x.no.length - p.1) ((0,m2)) [] ⟨aG _,hlo,hhi,rfl⟩ (by simp [avs,avb,avi,avo,bK,aO]) (by simp [eN]) ?_
       rintro ⟨k3,m3⟩ g3 j3 ⟨hk3,hlo3,hhi3,hsl⟩
       dsimp only at hk3 hlo3 hhi3 hsl
       by_cases hlt3:k3 < x.no.length
       · have hki3:(k3:Int) < ((x.no.length:Nat):Int):=by omega
         rw [aQk hlt3] at hsl
         have hm:=aU (d:=default) hlt3
         by_cases hneg:m3≤5000
         · rw [if_pos hneg] at hsl
           have ci:=ihn _ hm
           have hb:=aEg (x.no.getD k3 default) (d+1) (by omega) (by omega)
           have hw:IntKind.i64.wrap (m3+nodT (x.no.getD k3 default) (d+1))=m3+nodT (x.no.getD k3 default) (d+1):=wrap64 (by omega) (by omega)
           simp only [elX,cW,avr,avt,avx] at ci
           refine zh (zA2 (zt hki3) (zt hneg)) ?_
           (refine zy1 (zA2 (zt hki3) (zA2 (zt hneg) hw)) ci ?_; repeat' first | exact trivial | refine zJ ?_ ?_ | refine zH fun hc=>?_)
           exact ⟨(k3+1,m3+nodT (x.no.getD k3 default) (d+1)),_,⟨by dsimp only; omega,by dsimp only; omega,by dsimp only; omega,hsl⟩,by dsimp only; omega,rfl,by simp⟩
         · rw [if_neg hneg] at hsl
           refine zh (zA2 (zt hki3) (zf hneg)) ?_
           (refine zx0 (zA2 (zt hki3) (zf hneg)) ?_; repeat' first | exact trivial | refine zJ ?_ ?_ | refine zH fun hc=>?_)
           all_goals exact ⟨(k3+1,m3),_,⟨by dsimp only; omega,hlo3,hhi3,hsl⟩,by dsimp only; omega,rfl,by simp⟩
       · have hki3:¬ (k3:Int) < ((x.no.length:Nat):Int):=by omega
         rw [aY (by omega),nodL] at hsl
         refine zh (zf hki3) ?_
         (refine zx0 (zf hki3) ?_; repeat' first | exact trivial | refine zJ ?_ ?_ | refine zH fun hc=>?_)
         exact ⟨(2,m3),g2++g3,⟨by simp,fun h=>absurd h (by simp),fun h=>absurd h (by simp),fun _=>by dsimp only; rw [← hm2]; exact hsl.symm,hlo3,hhi3⟩,by dsimp only; omega,by simp,by simp⟩
     · have hm2:=hs2 rfl
       have z2:(((2:Nat):Int) < ((2:Nat):Int))=False:=eq_false (by decide)
       refine zh (zA2 z2 @decide_false) ?_
       exact aF (by rw [e,hm2]) rfl
theorem bOu:∀ (x:cA),OkV x→∀ d:Int,1≤d→d≤501→CT 66 [elX x,.i .i64 d] (.i .i64 (nodT x d)):=
 kO (Q:=fun x=>OkV x→∀ d:Int,1≤d→d≤501→CT 66 [elX x,.i .i64 d] (.i .i64 (nodT x d))) fun x hy hn hx d h0 h6=>by
   have hh:(∀ k ∈ x.yes,OkV k)∧(∀ k ∈ x.no,OkV k)∧x.yes.length≤10000000000000∧x.no.length≤10000000000000:=by cases hx; exact ⟨by assumption,by assumption,by assumption,by assumption⟩
   exact aZq x d h0 h6 hh.2.2.1 hh.2.2.2 (fun hd y hm=>hy y hm (hh.1 y hm) (d+1) (by omega) (by omega)) (fun hd y hm=>hn y hm (hh.2.1 y hm) (d+1) (by omega) (by omega))
mutual
def nodesV (s:bZ):cA→Bool
 | .mk rows ask yes no=>if yes.length+no.length=0 then aEp s rows ask
   else decide (rows.length=0) && (decide (yes.length=1) && (decide (no.length=1) && (isAskV s ask && (nodesF s yes && nodesF s no))))
def nodesF (s:bZ):List cA→Bool
 | []=>true
 | y::_=>nodesV s y
end
theorem lY (s:bZ) (x:cA):nodesV s x=if x.yes.length+x.no.length=0 then aEp s x.rows x.ask
   else decide (x.rows.length=0) && (decide (x.yes.length=1) && (decide (x.no.length=1) && (isAskV s x.ask && (nodesV s (x.yes.getD 0 default) && nodesV s (x.no.getD 0 default))))):=by
 obtain ⟨rows,ask,yes,no⟩:=x
 rw [nodesV]
 simp only [cA.rows,cA.ask,cA.yes,cA.no]
 by_cases h:yes.length+no.length=0
 · simp only [h,if_true]
 · simp only [h,if_false]
   by_cases a:yes.length=1
   · by_cases b:no.length=1
     · match yes,no,a,b with
       | [y],[z],_,_=>simp [nodesF]
     · simp [b]
   · simp [a]
theorem aZp (s:bZ) (x:cA) (hm:Small s) (hs:OkS s) (hv:dM s=true) (hx:OkV x) (ihy:∀ y ∈ x.yes,CT 67 [.agg (aO s),elX y] (.b (nodesV s y))) (ihn:∀ y ∈ x.no,CT 67 [.agg (aO s),elX y] (.b (nodesV s y))): CT 67 [.agg (aO s),elX x] (.b (nodesV s x)):=by
 refine cY (rx:=true) (th:=fun _=>none) mixed Tryz.func67 g0 ?_
 · simp -implicitDefEqProofs (disch:=omega) only [Tryz.f67,go_sem,List.replicate,↓reduceIte,reduceAdd,reduceSub,reduceMul,reduceLeDiff,reduceLT,reduceEqDiff,reduceNeg,Nat.reduceBEq]
   obtain ⟨x1,x2,x3,x4,x5⟩:OkK x.ask∧x.rows.length≤1000000∧(∀ r ∈ x.rows,r.left.length≤1000000∧∀ a ∈ r.left,OkK a)∧x.yes.length≤10000000000000∧x.no.length≤10000000000000:=by cases hx; exact ⟨by assumption,by assumption,by assumption,by assumption,by assumption⟩
   have e:=lY s x
   have hw:IntKind.i64.wrap (((x.yes.length:Nat):Int)+((x.no.length:Nat):Int))=((x.yes.length:Nat):Int)+((x.no.length:Nat):Int):=wrap64 (by omega) (by omega)
   by_cases h3:x.yes.length+x.no.length=0
   · rw [if_pos h3,aEp] at e
     have c1:=bOg x.ask x1.1.term
     have c2:=bOf s x.rows hm hs hv x2 x3
     have z:((x.yes.length:Nat):Int)+((x.no.length:Nat):Int)=0:=by omega
     rw [← jY] at e
     generalize (decide (x.ask.path.length=0) && jA x.ask.test zTe)=A at *
     generalize nB s x.rows none=B at *
     simp only [aJ,avt,avr] at c1 c2
     refine zh (zA2 hw (zt z)) ?_
     (refine zy2 (zA2 hw (zt z)) c1 c2 ?_; repeat' first | exact trivial | refine zJ ?_ ?_ | refine zH fun hc=>?_)
     all_goals exact aF (by rw [e]; simp_all) rfl
   · rw [if_neg h3] at e
     have z:¬ ((x.yes.length:Nat):Int)+((x.no.length:Nat):Int)=0:=by omega
     have c3:=aSr s x.ask hm hs hv x1
     simp only [aJ,avt] at c3
     by_cases h6:x.rows.length=0
     · have z6:((x.rows.length:Nat):Int)=0:=by omega
       by_cases h4:x.yes.length=1
       · have z4:((x.yes.length:Nat):Int)=1:=by omega
         by_cases h5:x.no.length=1
         · have z5:((x.no.length:Nat):Int)=1:=by omega
           have cy:=ihy _ (aU (d:=default) (l:=x.yes) (k:=0) (by omega))
           have cn:=ihn _ (aU (d:=default) (l:=x.no) (k:=0) (by omega))
           rw [zt h6,zt h4,zt h5,Bool.true_and,Bool.true_and,Bool.true_and] at e
           generalize isAskV s x.ask=A at *
           generalize nodesV s (x.yes.getD 0 default)=Y at *
           generalize nodesV s (x.no.getD 0 default)=N at *
           simp only [elX,cW,avr,avt,avx] at cy cn
           refine zh (zA2 hw (zA2 (zf z) (zA2 (zt z6) (zA2 (zt z4) (zt z5))))) ?_
           (refine zy3 (zA2 hw (zA2 (zf z) (zA2 (zt z6) (zA2 (zt z4) (zt z5))))) c3 cy cn ?_; repeat' first | exact trivial | refine zJ ?_ ?_ | refine zH fun hc=>?_)
           all_goals exact aF (by rw [e]; simp_all) rfl
         · have z5:¬ ((x.no.length:Nat):Int)=1:=by omega
           rw [zf h5,Bool.false_and,Bool.and_false,Bool.and_false] at e
           refine zh (zA2 hw (zA2 (zf z) (zA2 (zt z6) (zA2 (zt z4) (zf z5))))) ?_
           (refine zx0 (zA2 hw (zA2 (zf z) (zA2 (zt z6) (zA2 (zt z4) (zf z5))))) ?_; repeat' first | exact trivial | refine zJ ?_ ?_ | refine zH fun hc=>?_)
           all_goals exact aF (by rw [e]) rfl
       · have z4:¬ ((x.yes.length:Nat):Int)=1:=by omega
         rw [zf h4,Bool.false_and,Bool.and_false] at e
         refine zh (zA2 hw (zA2 (zf z) (zA2 (zt z6) (zf z4)))) ?_
         (refine zx0 (zA2 hw (zA2 (zf z) (zA2 (zt z6) (zf z4)))) ?_; repeat' first | exact trivial | refine zJ ?_ ?_ | refine zH fun hc=>?_)
         all_goals exact aF (by rw [e]) rfl
     · have z6:¬ ((x.rows.length:Nat):Int)=0:=by omega
       rw [zf h6,Bool.false_and] at e
       refine zh (zA2 hw (zA2 (zf z) (zf z6))) ?_
       (refine zx0 (zA2 hw (zA2 (zf z) (zf z6))) ?_; repeat' first | exact trivial | refine zJ ?_ ?_ | refine zH fun hc=>?_)
       all_goals exact aF (by rw [e]) rfl
theorem bOt (s:bZ) (hm:Small s) (hs:OkS s) (hv:dM s=true):∀ (x:cA),OkV x→CT 67 [.agg (aO s),elX x] (.b (nodesV s x)):=
 kO (Q:=fun x=>OkV x→CT 67 [.agg (aO s),elX x] (.b (nodesV s x))) fun x hy hn hx=>by
   have hh:(∀ k ∈ x.yes,OkV k)∧(∀ k ∈ x.no,OkV k):=by cases hx; exact ⟨by assumption,by assumption⟩
   exact aZp s x hm hs hv hx (fun y m=>hy y m (hh.1 y m)) (fun y m=>hn y m (hh.2 y m))
theorem R8 {d:Int}:∀ {l:List cA} {n:Int},(∀ y ∈ l,1≤nodT y d)→n≤nodL l d n
 | [],n,_=>by rw [nodL]; omega
 | y::l,n,hy=>by
   have:=hy y (by simp)
   rw [nodL]
   split
   · have:=R8 (l:=l) (n:=n+nodT y d) (fun z hz=>hy z (by simp [hz])); omega
   · exact R8 (l:=l) (n:=n) (fun z hz=>hy z (by simp [hz]))
theorem zW:∀ (x:cA) (d:Int),1≤nodT x d:=
 kO (Q:=fun x=>∀ (d:Int),1≤nodT x d) fun x hy hn d=>by
   rw [qI]
   split
   · decide
   · have a:=R8 (d:=d+1) (l:=x.yes) (n:=1) (fun y m=>hy y m _)
     have b:=R8 (d:=d+1) (l:=x.no) (n:=nodL x.yes (d+1) 1) (fun y m=>hn y m _)
     omega
theorem sV {y:cA} {d n:Int}:nodL [y] d n=if n≤5000 then n+nodT y d else n:=by rw [nodL,nodL]
theorem bJj (s:bZ):∀ (x:cA) (n d:Int),0≤n→n≤5000→((oB s x n d).1=true→nodesV s x=true∧(oB s x n d).2=n+nodT x d)∧(nodesV s x=true→n+nodT x d≤5000→(oB s x n d).1=true):=
 kO (Q := fun x=>∀ (n d:Int),0≤n→n≤5000→((oB s x n d).1=true→nodesV s x=true∧(oB s x n d).2=n+nodT x d)∧(nodesV s x=true→n+nodT x d≤5000→(oB s x n d).1=true)) fun x hy hn n d h0 h5=>by
   have e1:=aFl s x n d
   have e2:=lY s x
   have e3:=qI x d
   by_cases h1:5000 < n+1∨500 < d
   · rw [if_pos h1] at e1
     rw [e1]
     refine ⟨fun h=>(by cases h),fun _ h=>?_⟩
     rcases h1 with h1 | h1
     · have:=zW x d
       omega
     · rw [if_pos h1] at e3; omega
   · rw [if_neg h1] at e1
     rw [if_neg (fun h=>h1 (.inr h))] at e3
     by_cases h2:x.yes.length=0∧x.no.length=0
     · rw [if_pos h2] at e1
       rw [if_pos (by omega)] at e2
       rw [List.length_eq_zero_iff.1 h2.1,List.length_eq_zero_iff.1 h2.2,nodL,nodL] at e3
       rw [e1,e2,e3]
       exact ⟨fun h=>⟨h,rfl⟩,fun h _=>h⟩
     · rw [if_neg h2] at e1
       rw [if_neg (by omega)] at e2
       by_cases h3:x.yes.length=1∧x.no.length=1∧x.rows.length=0∧isAskV s x.ask=true
       · rw [if_pos h3] at e1
         rw [zt h3.1,zt h3.2.1,zt h3.2.2.1,h3.2.2.2,Bool.true_and,Bool.true_and,Bool.true_and,Bool.true_and] at e2
         have hy0:=aU (d:=default) (l:=x.yes) (k:=0) (by omega)
         have hn0:=aU (d:=default) (l:=x.no) (k:=0) (by omega)
         have l1:x.yes=[x.yes.getD 0 default]:=by
           match x.yes,h3.1 with
           | [y],_=>rfl
         have l2:x.no=[x.no.getD 0 default]:=by
           match x.no,h3.2.1 with
           | [y],_=>rfl
         have ay:=hy _ hy0 (n+1) (d+1) (by omega) (by omega)
         have an:=hn _ hn0
         have by1:=aFk s (x.yes.getD 0 default) (n+1) (d+1) (by omega) (by omega)
         rw [l1,l2] at e3
         generalize x.yes.getD 0 default=y at *
         generalize x.no.getD 0 default=z at *
         have hp:=zW z (d+1)
         have e3:nodT x d=if 1+nodT y (d+1)≤5000 then 1+nodT y (d+1)+nodT z (d+1) else 1+nodT y (d+1):=by
           rw [e3,sV (y:=y),if_pos (by decide),sV]
         have e4:1+nodT y (d+1)≤nodT x d:=by rw [e3]; split <;> omega
         rw [e1,e2]
         by_cases q:(oB s y (n+1) (d+1)).1=true
         · rw [if_pos q]
           have q2:=by1.2.2 q
           obtain ⟨p1,p2⟩:=ay.1 q
           have az:=an (oB s y (n+1) (d+1)).2 (d+1) (by omega) q2
           rw [if_pos (by omega)] at e3
           rw [p1,Bool.true_and,e3]
           refine ⟨fun h=>?_,fun h k=>az.2 h (by omega)⟩
           obtain ⟨r1,r2⟩:=az.1 h
           exact ⟨r1,by omega⟩
         · rw [if_neg q]
           exact ⟨fun h=>(by cases h),fun h k=>absurd (ay.2 ((aA _ _).mp h).1 (by omega)) q⟩
       · rw [if_neg h3] at e1
         rw [e1]
         refine ⟨fun h=>(by cases h),fun h _=>absurd ?_ h3⟩
         rw [e2] at h
         simp only [aA,decide_eq_true_eq] at h
         exact ⟨h.2.1,h.2.2.1,h.1,h.2.2.2.1⟩
def aGd (s:bZ) (x:cA):Bool:=dM s && (decide (nodT x 1≤5000) && nodesV s x)
theorem bLd (s:bZ) (x:cA):(dM s && (oB s x 0 1).1)=aGd s x:=by
 have h:=bJj s x 0 1 (by decide) (by decide)
 have l:=aFk s x 0 1 (by decide) (by decide)
 rw [aGd]
 congr 1
 rw [cI,aA,decide_eq_true_eq]
 constructor
 · intro a
   have b:=h.1 a
   have c:=l.2.2 a
   exact ⟨by omega,b.1⟩
 · rintro ⟨a,b⟩
   exact h.2 b (by omega)
theorem bIw (s:bZ) (x:cA) (hm:Small s) (hs:OkS s) (hx:OkV x):CT 24 [.agg (aO s),elX x] (.b (aGd s x)):=bLd s x ▸ bPe s x hm hs hx
theorem bPd (s:bZ) (x:cA) (hm:Small s) (hs:OkS s) (hx:OkV x): CT 25 [.agg (aO s),elX x] (.b (aGd s x)):=by
 refine cY (rx:=true) (th:=fun _=>none) mixed Tryz.func25 g0 ?_
 · simp -implicitDefEqProofs (disch:=omega) only [Tryz.f25,go_sem,List.replicate,↓reduceIte,reduceAdd,reduceSub,reduceMul,reduceLeDiff,reduceLT,reduceEqDiff,reduceNeg,Nat.reduceBEq]
   have c1:=aTd s hm hs
   rcases eM (dM s) with h | h
   · rw [h] at c1
     have c2:=bOu x hx 1 (by decide) (by decide)
     have c3:=bOt s hm hs h x hx
     have e:aGd s x=(decide (nodT x 1≤5000) && nodesV s x):=by rw [aGd,h,Bool.true_and]
     generalize nodesV s x=A at *
     generalize nodT x 1=N at *
     simp only [elX,cW,avr,avt,avx] at c2 c3
     (refine zt3 c1 c2 c3 ?_; repeat' first | exact trivial | refine zJ ?_ ?_ | refine zH fun hc=>?_)
     all_goals exact aF (by rw [e]; (simp_all) <;> (intros; omega)) rfl
   · rw [h] at c1
     rw [aGd,h,Bool.false_and]
     (refine zt1 c1 ?_; repeat' first | exact trivial | refine zJ ?_ ?_ | refine zH fun hc=>?_)
     all_goals exact aF rfl rfl

mutual
def goT (s:bZ) (t:LTerm):cA→Int→cA × Int
 | .mk rows ask yes no,n=>if yes.length=0 then (.mk rows ask yes no,n) else if fQ s ask t=true then goL s t yes (n+1) else goL s t no (n+1)
def goL (s:bZ) (t:LTerm):List cA→Int→cA × Int
 | [],n=>(default,n)
 | y::_,n=>goT s t y n
end
theorem aBn (s:bZ) (t:LTerm) (x:cA) (n:Int) (hn:x.yes.length=0∨(x.yes.length ≠ 0∧x.no.length ≠ 0)):goT s t x n=if x.yes.length=0 then (x,n) else if fQ s x.ask t=true then goT s t (x.yes.getD 0 default) (n+1) else goT s t (x.no.getD 0 default) (n+1):=by
 obtain ⟨rows,ask,yes,no⟩:=x
 rw [goT]
 simp only [cA.rows,cA.ask,cA.yes,cA.no] at *
 rcases hn with h | ⟨h,k⟩
 · simp only [h,if_true]
 · simp only [h,if_false]
   match yes,no,h,k with
   | y::_,z::_,_,_=>simp [goL]
def U1 (s:bZ) (t:LTerm):List LAsk→Nat
 | []=>0
 | a::l=>if fQ s a t=true then U1 s t l+1 else 1
def kS (s:bZ) (t:LTerm):List gZ→List Int
 | []=>[]
 | r::l=>(if (r.left.all fun a=>fQ s a t)=true then [r.index] else [])++kS s t l
def oL (s:bZ) (t:LTerm):List gZ→Nat
 | []=>0
 | r::l=>U1 s t r.left+oL s t l
def vK (s:bZ) (x:cA) (t:LTerm):List Int × Int × Int:=
 if (aGd s x && (dM s && lH s t))=true then (kS s t (goT s t x 0).1.rows,(goT s t x 0).2+(oL s t (goT s t x 0).1.rows:Int),0) else ([],0,2)
def aPp (r:List Int × Int × Int):AV:=.tup [.sl (ints r.1) r.1.length,.i .i64 r.2.1,.i .i64 r.2.2]
theorem zZ (s:bZ) (t:LTerm):∀ l:List LAsk,U1 s t l≤l.length
 | []=>by simp [U1]
 | a::l=>by
   have:=zZ s t l
   rw [U1,aI]
   split <;> omega
theorem aJf {s:bZ} {t:LTerm}:∀ {l:List gZ},(∀ r ∈ l,r.left.length≤1000000)→oL s t l≤l.length * 1000000
 | [],_=>by simp [oL]
 | r::l,h=>by
   have:=aJf (s:=s) (t:=t) (l:=l) (fun x hx=>h x (by simp [hx]))
   have:=zZ s t r.left
   have:=h r (by simp)
   rw [oL,aI]; omega
theorem yJ (s:bZ) (t:LTerm):∀ (l m:List gZ),kS s t (l++m)=kS s t l++kS s t m
 | [],m=>rfl
 | r::l,m=>by rw [bR,kS,kS,yJ s t l m,bL]
theorem yV (s:bZ) (t:LTerm):∀ (l m:List gZ),oL s t (l++m)=oL s t l+oL s t m
 | [],m=>by simp [oL]
 | r::l,m=>by rw [bR,oL,oL,yV s t l m]; omega
theorem kA {α:Type} [Inhabited α] {l:List α} {k:Nat} (h:k < l.length):l.take (k+1)=l.take k++[l.getD k default]:=by
 rw [List.take_add_one]; simp [List.getD,h]
theorem aLa {s:bZ} {t:LTerm} {l:List gZ} {k:Nat} (h:k < l.length):kS s t (l.take (k+1))=kS s t (l.take k)++(if ((l.getD k default).left.all fun a=>fQ s a t)=true then [(l.getD k default).index] else []):=by
 rw [kA h,yJ]; simp [kS]
theorem aMi {s:bZ} {t:LTerm} {l:List gZ} {k:Nat} (h:k < l.length):oL s t (l.take (k+1))=oL s t (l.take k)+U1 s t (l.getD k default).left:=by
 rw [kA h,yV]; simp [oL]
theorem aAa {s:bZ} {t:LTerm}:∀ {l:List gZ},(kS s t l).length≤l.length
 | []=>by simp [kS]
 | r::l=>by
   have:=aAa (s:=s) (t:=t) (l:=l)
   rw [kS,aE,aI]
   split <;> simp <;> omega
theorem bAi {s:bZ} {t:LTerm}:∀ {l:List LAsk},(idx (fun a => !fQ s a t) l < 0→(l.all fun a=>fQ s a t)=true∧U1 s t l=l.length)∧(0≤idx (fun a => !fQ s a t) l→(l.all fun a=>fQ s a t)=false∧(U1 s t l:Int)=idx (fun a => !fQ s a t) l+1):=by
 intro l
 induction l with
 | nil=>exact ⟨fun _=>⟨rfl,rfl⟩,fun h=>absurd h (by simp [idx])⟩
 | cons a l ih=>
   unfold idx at ih ⊢
   rw [fE,eC,U1,aI]
   rcases eM (fQ s a t) with h | h
   · simp only [h,Bool.not_true,aM,if_false,if_true,Bool.true_and]
     cases hf:l.findIdx? (fun a => !fQ s a t) with
     | none=>
       rw [hf] at ih
       have:=ih.1 (by decide)
       exact ⟨fun _=>⟨this.1,by rw [this.2]⟩,fun h=>absurd h (by simp)⟩
     | some i=>
       rw [hf] at ih
       have:=ih.2 (by simp)
       refine ⟨fun h=>absurd h (by simp; omega),fun _=>⟨this.1,?_⟩⟩
       have h2:=this.2
       simp only [cJ] at h2 ⊢
       omega
   · simp only [h,Bool.not_false,aM,if_false,if_true,Bool.false_and]
     exact ⟨fun h=>absurd h (by simp),fun _=>⟨trivial,rfl⟩⟩
theorem aQj {x:cA} {d:Int} (h1:x.yes.length=1) (h2:x.no.length=1) (hd:nodT x d≤5000):d≤500∧nodT (x.yes.getD 0 default) (d+1)≤5000∧nodT (x.no.getD 0 default) (d+1)≤5000:=by
 have e:=qI x d
 have hd5:d≤500:=by
   by_cases h:500 < d
   · rw [if_pos h] at e; omega
   · omega
 rw [if_neg (by omega)] at e
 have l1:x.yes=[x.yes.getD 0 default]:=by
   match x.yes,h1 with
   | [y],_=>rfl
 have l2:x.no=[x.no.getD 0 default]:=by
   match x.no,h2 with
   | [y],_=>rfl
 rw [l1,l2] at e
 generalize x.yes.getD 0 default=y at *
 generalize x.no.getD 0 default=z at *
 have a:=zW y (d+1)
 have b:=zW z (d+1)
 rw [sV (y:=y),if_pos (by decide),sV] at e
 split at e <;> exact ⟨hd5,by omega,by omega⟩
theorem aEf {s:bZ} {x:cA} (h:nodesV s x=true) (hy:x.yes.length ≠ 0):x.yes.length=1∧x.no.length=1∧isAskV s x.ask=true∧nodesV s (x.yes.getD 0 default)=true∧nodesV s (x.no.getD 0 default)=true:=by
 rw [lY,if_neg (by omega)] at h
 simp only [aA,decide_eq_true_eq] at h
 exact ⟨h.2.1,h.2.2.1,h.2.2.2.1,h.2.2.2.2.1,h.2.2.2.2.2⟩
structure L5 (s:bZ) (t:LTerm) (x0 x:cA) (n:Int):Prop where
 ok:OkV x
 nodes:nodesV s x=true
 n0:0≤n
 nod:nodT x (n+1)≤5000
 go:goT s t x0 0=goT s t x n
theorem L5.step {s:bZ} {t:LTerm} {x0 x:cA} {n:Int} (h:L5 s t x0 x n) (hy:x.yes.length ≠ 0) :
   n≤499∧x.yes.length=1∧x.no.length=1∧OkK x.ask∧(fQ s x.ask t=true→L5 s t x0 (x.yes.getD 0 default) (n+1))∧(fQ s x.ask t=false→L5 s t x0 (x.no.getD 0 default) (n+1)):=by
 obtain ⟨a,b,_,c,d⟩:=aEf h.nodes hy
 obtain ⟨e1,e2,e3⟩:=aQj a b h.nod
 have hh:OkK x.ask∧(∀ k ∈ x.yes,OkV k)∧(∀ k ∈ x.no,OkV k):=by have:=h.ok; cases this; exact ⟨by assumption,by assumption,by assumption⟩
 have g:=h.go
 have n0:=h.n0
 rw [aBn s t x n (.inr ⟨hy,by omega⟩),if_neg hy] at g
 refine ⟨by omega,a,b,hh.1,fun q=>?_,fun q=>?_⟩
 · rw [if_pos q] at g
   exact ⟨hh.2.1 _ (aU (by omega)),c,by omega,e2,g⟩
 · rw [if_neg (by rw [q]; simp)] at g
   exact ⟨hh.2.2 _ (aU (by omega)),d,by omega,e3,g⟩
theorem L5.start {s:bZ} {t:LTerm} {x:cA} (ho:OkV x) (h:aGd s x=true):L5 s t x x 0:=by
 simp only [aGd,aA,decide_eq_true_eq] at h
 exact ⟨ho,h.2.2,by decide,h.2.1,rfl⟩
theorem L5.fin {s:bZ} {t:LTerm} {x0 x:cA} {n:Int} (h:L5 s t x0 x n) (hy:x.yes.length=0):goT s t x0 0=(x,n)∧n≤500∧x.rows.length≤1000000∧(∀ r ∈ x.rows,r.left.length≤1000000∧∀ a ∈ r.left,OkK a):=by
 have g:=h.go
 rw [aBn s t x n (.inl hy),if_pos hy] at g
 have hh:x.rows.length≤1000000∧(∀ r ∈ x.rows,r.left.length≤1000000∧∀ a ∈ r.left,OkK a):=by have:=h.ok; cases this; exact ⟨by assumption,by assumption⟩
 have e:=qI x (n+1)
 have:=h.nod
 refine ⟨g,?_,hh⟩
 by_cases q:500 < n+1
 · rw [if_pos q] at e; omega
 · omega
theorem aYu {pre g:List AObj} {sz n:Nat} {out:AV} {cells:List AV} {m e:Int} (ho:dV sz pre.length g out cells n) (hp:persL cells=true):Fin (pre++g) (.tup [out,.i .i64 m,.i .i64 e]) (.tup [.sl cells n,.i .i64 m,.i .i64 e]):=by
 rcases ho with ⟨rfl,rfl,rfl⟩ | ⟨i,rfl,hi,hl⟩
 · exact .inr ⟨⟨rfl,rfl,rfl,trivial⟩,by simp [bW,finIdsL],by simp [bW,finIdsL]⟩
 · have e1:lD (pre++g) (.hs (i+pre.length) 0 n false) (.sl cells n):=by
     show AV.sl cells n=gH dep (pre++g) (.hs (i+pre.length) 0 n false)
     have hg:(pre++g)[i+pre.length]? = some (.arr false sz cells):=by
       rw [aK (by omega)]; simpa using hi
     have hd:(cells.drop 0).take (n * sz)=cells:=by rw [cZ,aH (by omega)]
     simp only [fV,pers,rH,hg,hd,hp,if_true,aM,if_false]
     rw [if_pos (by omega)]
   exact .inr ⟨⟨e1,rfl,rfl,trivial⟩,by simp [bW,finIdsL],by simp [bW,finIdsL]⟩

theorem bOv (s:bZ) (a:LAsk) (t:LTerm) (hs:Small s) (ha:OkK a) (ht:OkT t): CT 64 [.agg (aJ a),.box [cX s] 0,.box (aC t) 0] (.b (!fQ s a t)):=by
 refine bQ mixed Tryz.func64 g0 ?_
 · simp -implicitDefEqProofs (disch:=omega) only [Tryz.f64,go_sem,List.replicate,↓reduceIte,reduceAdd,reduceSub,reduceMul,reduceLeDiff,reduceLT,reduceEqDiff,reduceNeg,Nat.reduceBEq,aJ,avt,bC]
   have c:=aSs s a t hs ha.test ha.path ht
   simp only [aJ,avt] at c
   (refine zt1 c ?_; repeat' first | exact trivial | refine zJ ?_ ?_ | refine zH fun hc=>?_)
   all_goals exact aF rfl rfl
theorem aXz (s:bZ) (r:gZ) (t:LTerm) (hs:Small s) (hl:r.left.length≤1000000) (ho:∀ a ∈ r.left,OkK a) (ht:OkT t):CT 63 [ava r.left,.fn 64 [] [.box [cX s] 0,.box (aC t) 0]] (.i .i64 (idx (fun a => !fQ s a t) r.left)):=
 aSq r.left 64 [] [.box [cX s] 0,.box (aC t) 0] (fun a => !fQ s a t) hl rfl (by simp only [persL,pers,vL,bGj,Bool.and_true]) (fun k hk=>bOv s _ t hs (ho _ (aU hk)) ht)
theorem bPf (s : bZ) (x:cA) (t:LTerm) (hm:Small s) (hs:OkS s) (hx:OkV x) (ht:OkT t): CT 22 [.agg (aO s),elX x,elT t] (aPp (vK s x t)):=by
 refine bQ mixed Tryz.func22 g0 ?_
 · generalize hR:((aPp (vK s x t)):AV)=R
   simp -implicitDefEqProofs (disch:=omega) only [Tryz.f22,go_sem,List.replicate,↓reduceIte,reduceAdd,reduceSub,reduceMul,reduceLeDiff,reduceLT,reduceEqDiff,reduceNeg,Nat.reduceBEq]
   have c1:=bIw s x hm hs hx
   have c2:=aSt s t hm hs ht
   simp only [elX,cW,avr,avt,avx] at c1
   rcases eM (aGd s x) with h1 | h1
   · rw [h1] at c1
     rcases eM (dM s && lH s t) with h2 | h2
     · rw [h2] at c2
       have hv:=((aA _ _).mp h2).1
       have c3:=aBz s hm (iE hv)
       have hp:vK s x t=(kS s t (goT s t x 0).1.rows,(goT s t x 0).2+(oL s t (goT s t x 0).1.rows:Int),0):=by rw [vK,h1,h2,dY,if_pos rfl]
       have st:=L5.start (t:=t) hx h1
       (refine zt3 c1 c2 c3 ?_; repeat' first | exact trivial | refine zJ ?_ ?_ | refine zH fun hc=>?_)
       refine bP (fun (q:cA × Int)=>[.k,.k,.k,.k,.k,.k,.k,.v (.i .i64 q.2),.k,.k,.k,.k,.k,.k,.k,.k,.k,.k,.k,.k,.k,.k,.k,.k,.k,.j,.j,.j,.j,.j,.j,.j,.j,.j,.j,.j,.j,.j,.j,.j,.j,.j,.j,.j,.k,.k,.k,.k,.k,.k,.k,.k,.k,.k,.k,.k,.k,.k,.k,.k,.k,.k,.k,.k,.k,.k,.k,.k,.k,.k,.k,.k,.k,.k]) (fun q=>[.box false (aO s),.box false [.sl ((q.1).rows.flatMap bM) (q.1).rows.length,.sl ((q.1).ask.path.map (.i .i64)) (q.1).ask.path.length,.i .i64 (q.1).ask.test.op,.i .i64 (q.1).ask.test.term.kind,.i .i64 (q.1).ask.test.term.n,.s (q.1).ask.test.term.text,.s (q.1).ask.test.term.sort,.sl ((q.1).ask.test.term.kids.flatMap aC) (q.1).ask.test.term.kids.length,.sl ((q.1).ask.test.term.rest.flatMap aC) (q.1).ask.test.term.rest.length,.s (q.1).ask.test.text,.i .i64 (q.1).ask.test.n,.sl ((q.1).yes.flatMap bX) (q.1).yes.length,.sl ((q.1).no.flatMap bX) (q.1).no.length],.box false [.i .i64 (t).kind,.i .i64 (t).n,.s (t).text,.s (t).sort,.sl ((t).kids.flatMap aC) (t).kids.length,.sl ((t).rest.flatMap aC) (t).rest.length],.box false [cX s]]) (fun q=>L5 s t x q.1 q.2) (fun q=>SizeOf.sizeOf q.1) ((x,0)) st rfl (by simp [eN]) ?_
       rintro ⟨y,n⟩ j hd
       dsimp only at hd
       by_cases hy:y.yes.length=0
       · have zy:¬ (0:Int) < ((y.yes.length:Nat):Int):=by omega
         obtain ⟨g1,g2,g3,g4⟩:=hd.fin hy
         rw [g1] at hp
         dsimp only at hp
         have n0:=hd.n0
         refine zh (zf zy) ?_
         refine bP (fun (q:Nat × Int × AV × List AObj)=>[.k,.k,.k,.k,.k,.k,.v (q.2.2.1),.v (.i .i64 q.2.1),.k,.k,.k,.j,.j,.k,.k,.k,.k,.k,.k,.k,.k,.k,.k,.k,.k,.k,.k,.k,.k,.k,.k,.k,.k,.k,.k,.k,.k,.k,.k,.k,.k,.k,.k,.k,.k,.k,.k,.v (.i .i64 (q.1:Nat)),.j,.j,.j,.j,.j,.j,.j,.j,.j,.j,.j,.j,.j,.j,.j,.j,.j,.j,.j,.j,.j,.j,.j,.j,.k,.k]) (fun q=>(.box false (aO s)::.box false [.sl ((y).rows.flatMap bM) (y).rows.length,.sl ((y).ask.path.map (.i .i64)) (y).ask.path.length,.i .i64 (y).ask.test.op,.i .i64 (y).ask.test.term.kind,.i .i64 (y).ask.test.term.n,.s (y).ask.test.term.text,.s (y).ask.test.term.sort,.sl ((y).ask.test.term.kids.flatMap aC) (y).ask.test.term.kids.length,.sl ((y).ask.test.term.rest.flatMap aC) (y).ask.test.term.rest.length,.s (y).ask.test.text,.i .i64 (y).ask.test.n,.sl ((y).yes.flatMap bX) (y).yes.length,.sl ((y).no.flatMap bX) (y).no.length]::.box false [.i .i64 (t).kind,.i .i64 (t).n,.s (t).text,.s (t).sort,.sl ((t).kids.flatMap aC) (t).kids.length,.sl ((t).rest.flatMap aC) (t).rest.length]::.box false [cX s]::q.2.2.2)) (fun q=>q.1≤y.rows.length∧q.2.1=n+(oL s t (y.rows.take q.1):Int)∧dV 1 4 q.2.2.2 q.2.2.1 (ints (kS s t (y.rows.take q.1))) (kS s t (y.rows.take q.1)).length) (fun q=>y.rows.length - q.1) ((0,n,.e0,[])) ⟨aG _,by simp [oL],jC⟩ rfl (by simp [eN]) ?_
         rintro ⟨k,m,out,g⟩ j2 ⟨hk,hm0,hout⟩
         dsimp only at hk hm0 hout
         by_cases hlt:k < y.rows.length
         · have hki:(k:Int) < ((y.rows.length:Nat):Int):=by omega
           obtain ⟨q1,q2⟩:=g4 _ (aU (d:=default) hlt)
           have c4:=aXz s (y.rows.getD k default) t hm q1 q2 ht
           have hci:=bAi (s:=s) (t:=t) (l:=(y.rows.getD k default).left)
           have hca:=zZ s t (y.rows.getD k default).left
           have hck:=aJf (s:=s) (t:=t) (l:=y.rows.take k) (fun r hr=>(g4 r (nN hr)).1)
           have hrl:=aAa (s:=s) (t:=t) (l:=y.rows.take k)
           have htr:=aLa (s:=s) (t:=t) hlt
           have htc:=aMi (s:=s) (t:=t) hlt
           rw [dS] at hck hrl
           have hck2:oL s t (y.rows.take k)≤1000000000000:=dI hck (by
             have:min k y.rows.length≤1000000:=by omega
             exact cL 1000000 this)
           simp only [ava,bC,avt] at c4
           generalize idx (fun a => !fQ s a t) (y.rows.getD k default).left=I at *
           by_cases hI:0≤I
           · obtain ⟨e1,e2⟩:=hci.2 hI
             rw [e1,if_neg (by simp),List.append_nil] at htr
             have w1:IntKind.i64.wrap (I+1)=I+1:=wrap64 (by omega) (by omega)
             have w2:IntKind.i64.wrap (m+(I+1))=m+(I+1):=wrap64 (by omega) (by omega)
             refine zh (zA2 (zt hki) @bM.eq_1) ?_
             (refine zy1 (zA2 (zt hki) (zA2 @bM.eq_1 (zA2 (zt hI) (zA2 w1 w2)))) c4 ?_; repeat' first | exact trivial | refine zJ ?_ ?_ | refine zH fun hc=>?_)
             refine ⟨(k+1,m+(I+1),out,_),⟨by dsimp only; omega,?_,?_⟩,by dsimp only; omega,rfl,rfl,rfl,by simp⟩
             · dsimp only
               rw [htc,hm0]; omega
             · dsimp only
               rw [htr]
               exact hout.more _
           · obtain ⟨e1,e2⟩:=hci.1 (by omega)
             rw [e1,if_pos rfl] at htr
             have w2:IntKind.i64.wrap (m+(((y.rows.getD k default).left.length:Nat):Int))=m+(((y.rows.getD k default).left.length:Nat):Int):=wrap64 (by omega) (by omega)
             refine zh (zA2 (zt hki) @bM.eq_1) ?_
             (refine zy1 (zA2 (zt hki) (zA2 @bM.eq_1 (zA2 (zf hI) w2))) c4 ?_; repeat' first | exact trivial | refine zJ ?_ ?_ | refine zH fun hc=>?_)
             refine dU (pre:=[_,_,_,_]) (news:=[.i .i64 (y.rows.getD k default).index]) (m:=1) hout rfl rfl bVx zo3 sz3 by3 rfl (by decide) (by simp -implicitDefEqProofs (disch:=omega) only [go_sem,↓reduceIte,reduceAdd,reduceSub,reduceMul,reduceLeDiff,reduceLT,reduceEqDiff,reduceNeg,Nat.reduceBEq]) (by simp -implicitDefEqProofs (disch:=omega) only [go_sem,↓reduceIte,reduceAdd,reduceSub,reduceMul,reduceLeDiff,reduceLT,reduceEqDiff,reduceNeg,Nat.reduceBEq]) ⟨by omega,by omega⟩ ?_
             intro out' g' ho' _
             refine zg ?_
             refine ⟨(k+1,m+(((y.rows.getD k default).left.length:Nat):Int),out',g'),⟨by dsimp only; omega,?_,?_⟩,by dsimp only; omega,rfl,rfl,rfl,by simp⟩
             · dsimp only
               rw [htc,hm0]; omega
             · dsimp only
               rw [htr,ints,aV,aE]
               exact ho'
         · have hki:¬ (k:Int) < ((y.rows.length:Nat):Int):=by omega
           have hkt:y.rows.take k=y.rows:=aH (by omega)
           rw [hkt] at hout hm0
           refine zh (zf hki) ?_
           subst hR
           rw [hp,hm0]
           exact aYu (pre:=[_,_,_,_]) hout eP
       · have zy:(0:Int) < ((y.yes.length:Nat):Int):=by omega
         obtain ⟨f1,f2,f3,f4,f5,f6⟩:=hd.step hy
         have n0:=hd.n0
         have c4:=aSs s y.ask t hm f4.test f4.path ht
         simp only [aJ,avt] at c4
         rcases eM (fQ s y.ask t) with h3 | h3
         · rw [h3] at c4
           refine zh (zt zy) ?_
           (refine zy1 (zt zy) c4 ?_; repeat' first | exact trivial | refine zJ ?_ ?_ | refine zH fun hc=>?_)
           exact ⟨(y.yes.getD 0 default,n+1),f5 h3,aGl (aU (by omega)),rfl,by simp⟩
         · rw [h3] at c4
           refine zh (zt zy) ?_
           (refine zy1 (zt zy) c4 ?_; repeat' first | exact trivial | refine zJ ?_ ?_ | refine zH fun hc=>?_)
           exact ⟨(y.no.getD 0 default,n+1),f6 h3,aOs (aU (by omega)),rfl,by simp⟩
     · rw [h2] at c2
       have hp:vK s x t=([],0,2):=by rw [vK,h2,Bool.and_false,if_neg (by simp)]
       (refine zt2 c1 c2 ?_; repeat' first | exact trivial | refine zJ ?_ ?_ | refine zH fun hc=>?_)
       subst hR
       all_goals exact .inr ⟨by rw [hp]; exact ⟨rfl,rfl,rfl,trivial⟩,cR,fun i hi=>absurd hi (by show ¬ i ∈ []; simp)⟩
   · rw [h1] at c1
     have hp:vK s x t=([],0,2):=by rw [vK,h1,Bool.false_and,if_neg (by simp)]
     (refine zt1 c1 ?_; repeat' first | exact trivial | refine zJ ?_ ?_ | refine zH fun hc=>?_)
     subst hR
     all_goals exact .inr ⟨by rw [hp]; exact ⟨rfl,rfl,rfl,trivial⟩,cR,fun i hi=>absurd hi (by show ¬ i ∈ []; simp)⟩

theorem bAx {s:bZ} {a:LAsk} (h:isAskV s a=true):PathOk a.path:=by
 simp only [isAskV,aA,decide_eq_true_eq,bV,eW] at h
 refine ⟨by omega,fun i hi=>?_⟩
 have:=h.2.1 i hi
 simp only [pN,bJ,decide_eq_true_eq,not_or] at this
 exact ⟨by omega,by omega⟩

def rC (k:Str) (a:LAsk):Bool:=decide (keyS a=k)
def mD (k:Str):List LAsk→Nat
 | []=>0
 | a::l=>(if rC k a=true then 1 else 0)+mD k l
def jT (k:Str):List gZ→Nat
 | []=>0
 | r::l=>mD k r.left+jT k l
def tF (rows:List gZ):List gZ→LAsk × Nat→LAsk × Nat
 | [],p=>p
 | r::l,p=>tF rows l (if 0 < r.left.length∧p.2 < jT (keyS (r.left.getD 0 default)) rows then (r.left.getD 0 default,jT (keyS (r.left.getD 0 default)) rows) else p)
def gU (rows:List gZ):LAsk × Nat:=tF rows rows (zA,0)
def wT (l:List gZ) (k:Str):List gZ:=l.map fun r=>⟨r.index,r.left.filter fun a => !rC k a⟩
def wF (l:List gZ) (k:Str):List gZ:=l.filter fun r=>r.left.all fun a => !rC k a
def gJ:Nat→Int→List gZ→cA × Int
 | 0,b,l=>(.mk l zA [] [],b)
 | f+1,b,l=>if (gU l).2=0∨b < 2∨l.length < 2 then (.mk l zA [] [],b)
   else (.mk [] (gU l).1 [(gJ f (b - 2) (wT l (keyS (gU l).1))).1] [(gJ f (gJ f (b - 2) (wT l (keyS (gU l).1))).2 (wF l (keyS (gU l).1))).1],(gJ f (gJ f (b - 2) (wT l (keyS (gU l).1))).2 (wF l (keyS (gU l).1))).2)
structure aCu (s:bZ) (l:List gZ):Prop where
 pos:∀ r ∈ l,0≤r.index
 inc:l.Pairwise fun a b=>a.index < b.index
 len:∀ r ∈ l,r.left.length≤4000
 nod:∀ r ∈ l,r.left.Pairwise fun a b=>keyS a ≠ keyS b
 good:∀ r ∈ l,∀ a ∈ r.left,GoodA a
 ask:∀ r ∈ l,∀ a ∈ r.left,isAskV s a=true
theorem aCu.wT {s:bZ} {l:List gZ} {k:Str} (h:aCu s l):aCu s (wT l k):=by
 have m:∀ r ∈ Go.Proofs.YtifefbhllfdmlaaGreatDoor.wT l k,∃ q ∈ l,r=⟨q.index,q.left.filter fun a => !rC k a⟩:=fun r hr=>by
   obtain ⟨q,hq,e⟩:=dQ.1 hr
   exact ⟨q,hq,e.symm⟩
 refine ⟨fun r hr=>?_,?_,fun r hr=>?_,fun r hr=>?_,fun r hr a ha=>?_,fun r hr a ha=>?_⟩
 · obtain ⟨q,hq,rfl⟩:=m r hr; exact h.pos q hq
 · rw [Go.Proofs.YtifefbhllfdmlaaGreatDoor.wT,List.pairwise_map]; exact h.inc
 · obtain ⟨q,hq,rfl⟩:=m r hr; exact dI (fK _ _) (h.len q hq)
 · obtain ⟨q,hq,rfl⟩:=m r hr; exact (h.nod q hq).filter _
 · obtain ⟨q,hq,rfl⟩:=m r hr; exact h.good q hq a (eG.1 ha).1
 · obtain ⟨q,hq,rfl⟩:=m r hr; exact h.ask q hq a (eG.1 ha).1
theorem aCu.wF {s:bZ} {l:List gZ} {k:Str} (h:aCu s l):aCu s (wF l k):=by
 have m:∀ r ∈ Go.Proofs.YtifefbhllfdmlaaGreatDoor.wF l k,r ∈ l:=fun r hr=>(eG.1 hr).1
 exact ⟨fun r hr=>h.pos r (m r hr),h.inc.filter _,fun r hr=>h.len r (m r hr),fun r hr=>h.nod r (m r hr),fun r hr=>h.good r (m r hr),fun r hr=>h.ask r (m r hr)⟩
theorem I1 {rows:List gZ}:∀ {l:List gZ} {p:LAsk × Nat},tF rows l p=p∨∃ r ∈ l,0 < r.left.length∧(tF rows l p).1=r.left.getD 0 default
 | [],p=>.inl rfl
 | r :: l,p=>by
   rw [tF]
   split
   · rename_i h
     rcases I1 (rows:=rows) (l:=l) (p:=(r.left.getD 0 default,jT (keyS (r.left.getD 0 default)) rows)) with e | ⟨q,hq,h1,h2⟩
     · exact .inr ⟨r,by simp,h.1,by rw [e]⟩
     · exact .inr ⟨q,by simp [hq],h1,h2⟩
   · rcases I1 (rows:=rows) (l:=l) (p:=p) with e | ⟨q,hq,h1,h2⟩
     · exact .inl e
     · exact .inr ⟨q,by simp [hq],h1,h2⟩
theorem wU {l:List gZ} (h:(gU l).2 ≠ 0):∃ r ∈ l,(gU l).1 ∈ r.left:=by
 rcases I1 (rows:=l) (l:=l) (p:=(zA,0)) with e | ⟨r,hr,h1,h2⟩
 · exact absurd (by rw [gU,e]) h
 · exact ⟨r,hr,by rw [gU,h2]; exact aU h1⟩
theorem aHy {a b:LAsk} (ha:GoodA a) (hb:GoodA b):rC (keyS b) a=true↔a=b:=by
 rw [rC,decide_eq_true_eq]
 exact ⟨aQw ha hb,fun e=>by rw [e]⟩
theorem qJ (f:Nat) (b:Int) (l:List gZ):gJ (f+1) b l=if (gU l).2=0∨b < 2∨l.length < 2 then (.mk l zA [] [],b)
   else (.mk [] (gU l).1 [(gJ f (b - 2) (wT l (keyS (gU l).1))).1] [(gJ f (gJ f (b - 2) (wT l (keyS (gU l).1))).2 (wF l (keyS (gU l).1))).1],(gJ f (gJ f (b - 2) (wT l (keyS (gU l).1))).2 (wF l (keyS (gU l).1))).2):=by rw [gJ]
theorem aGq {s:bZ}:∀ {l:List gZ} {p:Option Int},aCu s l→(∀ q,p=some q→∀ r ∈ l,q < r.index)→nB s l p=true
 | [],_,_,_=>rfl
 | r :: l,p,h,hp=>by
   have h2:aCu s l:=⟨fun r hr=>h.pos r (by simp [hr]),(iK.1 h.inc).2,fun r hr=>h.len r (by simp [hr]),fun r hr=>h.nod r (by simp [hr]),fun r hr=>h.good r (by simp [hr]),fun r hr=>h.ask r (by simp [hr])⟩
   rw [nB,mM,zt (h.pos r (by simp)),zt (h.len r (by simp)),aN.2 (h.ask r (by simp))]
   have e:aAi p r=true:=by
     cases p with
     | none=>rfl
     | some q=>exact zt (hp q rfl r (by simp))
   rw [e,aGq h2 (fun q hq x hx=>by cases hq; exact (iK.1 h.inc).1 x hx)]; rfl
theorem N7 {s:bZ} {l:List gZ} (h:aCu s l):nodesV s (.mk l zA [] [])=true:=by
 rw [lY]
 simp only [cA.yes,cA.no,cA.rows,cA.ask,aX,A8,if_true]
 rw [aEp,aGq h (fun q hq=>by cases hq),Q4]; rfl
theorem pF {s:bZ}:∀ {f:Nat} {b:Int} {l:List gZ},aCu s l→nodesV s (gJ f b l).1=true
 | 0,b,l,h=>by rw [gJ]; exact N7 h
 | f + 1,b,l,h=>by
   rw [qJ]
   split
   · exact N7 h
   · rename_i hc
     obtain ⟨r,hr,hb⟩:=wU (l:=l) (fun e=>hc (.inl e))
     rw [lY]
     simp only [cA.yes,cA.no,cA.rows,cA.ask,aI,aX,gW]
     rw [pF (f:=f) h.wT,pF (f:=f) h.wF,h.ask r hr _ hb]; rfl
theorem xN:∀ {f:Nat} {b d:Int} {l:List gZ},0≤b→b≤4999→d+f=500→0≤(gJ f b l).2∧(gJ f b l).2≤b∧nodT (gJ f b l).1 d=1+(b - (gJ f b l).2)
 | 0,b,d,l,h0,h4,hd=>by
   rw [gJ]
   refine ⟨h0,yE _,?_⟩
   rw [qI,if_neg (by omega)]
   simp only [cA.yes,cA.no,nodL]
   omega
 | f + 1,b,d,l,h0,h4,hd=>by
   rw [qJ]
   split
   · refine ⟨h0,yE _,?_⟩
     rw [qI,if_neg (by omega)]
     simp only [cA.yes,cA.no,nodL]
     omega
   · rename_i hc
     have hb:¬ b < 2:=fun h=>hc (.inr (.inl h))
     have y:=xN (f:=f) (b:=b - 2) (d:=d+1) (l:=wT l (keyS (gU l).1)) (by omega) (by omega) (by omega)
     generalize gJ f (b - 2) (wT l (keyS (gU l).1))=Y at *
     have n:=xN (f:=f) (b:=Y.2) (d:=d+1) (l:=wF l (keyS (gU l).1)) y.1 (by omega) (by omega)
     generalize gJ f Y.2 (wF l (keyS (gU l).1))=N at *
     refine ⟨n.1,by dsimp only; omega,?_⟩
     rw [qI,if_neg (by omega)]
     simp only [cA.yes,cA.no]
     rw [sV (y:=Y.1),if_pos (by decide),sV,if_pos (by omega)]
     omega
theorem aXt {s:bZ} {l:List gZ} (hv:dM s=true) (h:aCu s l):aGd s (gJ 499 4999 l).1=true:=by
 have n:=xN (f:=499) (b:=4999) (d:=1) (l:=l) (by decide) (by decide) (by decide)
 rw [aGd,hv,pF h,zt (by omega)]; rfl
theorem aUt {s:bZ} {t:LTerm} {l:List LAsk} {c:LAsk} (hg:∀ a ∈ l,GoodA a) (hc:GoodA c) (hh:fQ s c t=true):((l.filter fun a => !rC (keyS c) a).all fun a=>fQ s a t)=(l.all fun a=>fQ s a t):=by
 rw [cI,aN,aN]
 constructor
 · intro h a ha
   rcases eM (rC (keyS c) a) with q | q
   · rw [(aHy (hg a ha) hc).1 q]; exact hh
   · exact h a (eG.2 ⟨ha,by rw [q]; rfl⟩)
 · intro h a ha
   exact h a (eG.1 ha).1
theorem aGs {s:bZ} {t:LTerm} {c:LAsk} (hc:GoodA c) (hh:fQ s c t=true):∀ {l:List gZ},(∀ r ∈ l,∀ a ∈ r.left,GoodA a)→kS s t (wT l (keyS c))=kS s t l
 | [],_=>rfl
 | r::l,h=>by
   have ih:=aGs hc hh (l:=l) (fun r hr=>h r (by simp [hr]))
   rw [wT] at ih ⊢
   rw [aT,kS,kS,ih,aUt (h r (by simp)) hc hh]
theorem aGt {s:bZ} {t:LTerm} {c:LAsk} (hc:GoodA c) (hh:fQ s c t=false):∀ {l:List gZ},(∀ r ∈ l,∀ a ∈ r.left,GoodA a)→kS s t (wF l (keyS c))=kS s t l
 | [],_=>rfl
 | r :: l,h=>by
   have ih:=aGt hc hh (l:=l) (fun r hr=>h r (by simp [hr]))
   rw [wF] at ih ⊢
   rw [cV]
   split
   · rw [kS,kS,ih]
   · rename_i q
     rw [ih,kS]
     have q2:(r.left.all fun a => !rC (keyS c) a)=false:=by simpa using q
     obtain ⟨a,ha,hq⟩:=fR.1 q2
     have e:a=c:=(aHy (h r (by simp) a ha) hc).1 (by simpa using hq)
     have:(r.left.all fun a=>fQ s a t)=false:=fR.2 ⟨a,ha,by rw [e,hh]; simp⟩
     rw [this,if_neg (by simp),cH]
def nQ:List gZ→Nat
 | []=>0
 | r::l=>r.left.length+nQ l
theorem U0 {s:bZ} {t:LTerm}:∀ {l:List gZ},oL s t l≤nQ l
 | []=>aZ _
 | r::l=>by
   have:=U0 (s:=s) (t:=t) (l:=l)
   have:=zZ s t r.left
   rw [oL,nQ]; omega
theorem aOe {k:Str}:∀ {l:List gZ},nQ (wT l k)≤nQ l
 | []=>aZ _
 | r::l=>by
   have:=aOe (k:=k) (l:=l)
   rw [wT] at this ⊢
   rw [aT,nQ,nQ]
   have:=fK (fun a => !rC k a) r.left
   dsimp only
   omega
theorem aOf {k:Str}:∀ {l:List gZ},nQ (wF l k)≤nQ l
 | []=>aZ _
 | r::l=>by
   have:=aOf (k:=k) (l:=l)
   rw [wF] at this ⊢
   rw [cV]
   split
   · rw [nQ,nQ]; omega
   · rw [nQ]; omega
theorem filter_lt {α:Type} {p:α→Bool}:∀ {l:List α} {a:α},a ∈ l→p a=false→(l.filter p).length+1≤l.length
 | x :: l,a,h,hp=>by
   rw [cV]
   rcases bT.1 h with rfl | h
   · rw [hp,if_neg (by simp),aI]
     have:=fK p l; omega
   · have:=filter_lt h hp
     split
     · rw [aI,aI]; omega
     · rw [aI]; omega
theorem Y9 {c:LAsk}:∀ {l:List gZ},(∃ r ∈ l,c ∈ r.left)→nQ (wT l (keyS c))+1≤nQ l
 | r :: l,⟨q,hq,hc⟩=>by
   rw [wT,aT,nQ,nQ]
   dsimp only
   rcases bT.1 hq with rfl | hq
   · have h1:=filter_lt (p:=fun a => !rC (keyS c) a) hc (by simp [rC])
     have h2:=aOe (k:=keyS c) (l:=l)
     rw [wT] at h2
     omega
   · have h1:=fK (fun a => !rC (keyS c) a) r.left
     have h2:=Y9 (l:=l) ⟨q,hq,hc⟩
     rw [wT] at h2
     omega
theorem Z0 {c:LAsk}:∀ {l:List gZ},(∃ r ∈ l,c ∈ r.left)→nQ (wF l (keyS c))+1≤nQ l
 | r :: l,⟨q,hq,hc⟩=>by
   rw [wF,cV]
   rcases bT.1 hq with rfl | hq
   · have h1:(q.left.all fun a => !rC (keyS c) a)=false:=fR.2 ⟨c,hc,by simp [rC]⟩
     have h2:=aOf (k:=keyS c) (l:=l)
     have h3:0 < q.left.length:=dZ hc
     rw [wF] at h2
     rw [h1,if_neg (by simp),nQ]
     omega
   · have h2:=Z0 (l:=l) ⟨q,hq,hc⟩
     rw [wF] at h2
     split
     · rw [nQ,nQ]; omega
     · rw [nQ]; omega
theorem E5 {s:bZ} {t:LTerm}:∀ {f:Nat} {b n:Int} {l:List gZ},aCu s l →
   kS s t (goT s t (gJ f b l).1 n).1.rows=kS s t l∧(goT s t (gJ f b l).1 n).2+(oL s t (goT s t (gJ f b l).1 n).1.rows:Int)≤n+(nQ l:Int)
 | 0,b,n,l,h=>by
   rw [gJ,aBn s t _ n (.inl rfl),if_pos (show (cA.mk l zA [] []).yes.length=0 from rfl)]
   have:=U0 (s:=s) (t:=t) (l:=l)
   exact ⟨rfl,by simp only [cA.rows]; omega⟩
 | f + 1,b,n,l,h=>by
   rw [qJ]
   split
   · rw [aBn s t _ n (.inl rfl),if_pos (show (cA.mk l zA [] []).yes.length=0 from rfl)]
     have:=U0 (s:=s) (t:=t) (l:=l)
     exact ⟨rfl,by simp only [cA.rows]; omega⟩
   · rename_i hc
     obtain ⟨r,hr,hb⟩:=wU (l:=l) (fun e=>hc (.inl e))
     have hg:=h.good r hr _ hb
     rw [aBn s t _ n (.inr ⟨by simp [cA.yes],by simp [cA.no]⟩),if_neg (by simp [cA.yes])]
     simp only [cA.yes,cA.no,cA.ask,gW]
     split
     · rename_i hh
       have ih:=E5 (s:=s) (t:=t) (f:=f) (b:=b - 2) (n:=n+1) (l:=wT l (keyS (gU l).1)) h.wT
       have hs:=Y9 ⟨r,hr,hb⟩
       rw [aGs hg hh h.good] at ih
       exact ⟨ih.1,by omega⟩
     · rename_i hh
       have ih:=E5 (s:=s) (t:=t) (f:=f) (b:=(gJ f (b - 2) (wT l (keyS (gU l).1))).2) (n:=n+1) (l:=wF l (keyS (gU l).1)) h.wF
       have hs:=Z0 ⟨r,hr,hb⟩
       rw [aGt hg (by simpa using hh) h.good] at ih
       exact ⟨ih.1,by omega⟩
theorem aDl {a b:LAsk}:oH a b=true↔a=b:=by
 obtain ⟨p,o,t,x,n⟩:=a
 obtain ⟨p2,o2,t2,x2,n2⟩:=b
 simp only [oH,jA,aA,decide_eq_true_eq,LAsk.mk.injEq,LTest.mk.injEq]
 constructor
 · rintro ⟨a,b,c,d,e⟩; exact ⟨a,b,e,c,d⟩
 · rintro ⟨a,b,c,d,e⟩; exact ⟨a,b,d,e,c⟩
def zM (l:List LAsk) (a:LAsk):Bool:=l.any fun b=>oH a b
theorem aJv {l:List LAsk} {a:LAsk} (h:a ∉ l):zM l a=false:=by
 rw [zM,eW]
 intro b hb e
 exact h (aDl.1 e ▸ hb)
def zD:List LAsk→List LAsk→Bool
 | _,[]=>true
 | now,a::l => !zM now a && zD (now++[a]) l
def aLm (before:List LAsk) (l:List gZ):Bool:=l.all fun r=>zD before r.left
mutual
def uC:cA→List LAsk→Bool
 | .mk rows ask yes no,before=>if 0 < yes.length then !zM before ask && (onceL yes (before++[ask]) && onceL no (before++[ask])) else aLm before rows
def onceL:List cA→List LAsk→Bool
 | [],_=>true
 | y::_,before=>uC y before
end
theorem aHi:∀ {l now:List LAsk},l.Pairwise (fun a b=>keyS a ≠ keyS b)→(∀ a ∈ l,a ∉ now)→zD now l=true
 | [],_,_,_=>rfl
 | a :: l,now,h,hn=>by
   rw [zD,aJv (hn a (by simp)),aHi (iK.1 h).2 (fun b hb=>?_)]
   · rfl
   · intro hm
     rcases bA.1 hm with hm | hm
     · exact hn b (by simp [hb]) hm
     · rw [aS] at hm
       exact (iK.1 h).1 b hb (by rw [hm])
theorem aHh {s:bZ} {l:List gZ} {before:List LAsk} (h:aCu s l) (hn:∀ r ∈ l,∀ a ∈ r.left,a ∉ before):aLm before l=true:=
 aN.2 fun r hr=>aHi (h.nod r hr) (hn r hr)
theorem E6 {s:bZ}:∀ {f:Nat} {b:Int} {l:List gZ} {before:List LAsk},aCu s l→(∀ r ∈ l,∀ a ∈ r.left,a ∉ before)→uC (gJ f b l).1 before=true
 | 0,b,l,before,h,hn=>by
   rw [gJ,uC,if_neg (by simp)]
   exact aHh h hn
 | f + 1,b,l,before,h,hn=>by
   rw [qJ]
   split
   · rw [uC,if_neg (by simp)]
     exact aHh h hn
   · rename_i hc
     obtain ⟨r,hr,hb⟩:=wU (l:=l) (fun e=>hc (.inl e))
     have hg:=h.good r hr _ hb
     rw [uC,if_pos (by simp),aJv (hn r hr _ hb),onceL,onceL]
     rw [E6 (f:=f) h.wT (fun q hq a ha=>?_),E6 (f:=f) h.wF (fun q hq a ha=>?_)]
     · rfl
     · intro hm
       obtain ⟨hq1,hq2⟩:=eG.1 hq
       rcases bA.1 hm with hm | hm
       · exact hn q hq1 a ha hm
       · rw [aS] at hm
         have:=aN.1 hq2 a ha
         rw [hm] at this
         simp [rC] at this
     · intro hm
       obtain ⟨q0,hq0,e⟩:=dQ.1 hq
       subst e
       obtain ⟨ha1,ha2⟩:=eG.1 ha
       rcases bA.1 hm with hm | hm
       · exact hn q0 hq0 a ha1 hm
       · rw [aS] at hm
         rw [hm] at ha2
         simp [rC] at ha2

def TOk (s:bZ) (a:LAsk):Prop:=GoodA a∧isAskV s a=true∧a.test.text.length≤1000
theorem bBz {s:bZ} {p:List Int} {x:LTest} (hp:p.length≤60) (hi:∀ i ∈ p,0≤i∧i≤2000) (hg:GoodA ⟨p,x⟩) (ht:jH s x true=true) (hl:x.text.length≤1000):TOk s ⟨p,x⟩:=by
 refine ⟨hg,?_,hl⟩
 have hb:p.any pN=false:=by
   rw [eW]
   intro i hm
   have:=hi i hm
   rw [pN,zf (by omega),zf (by omega)]; simp
 rw [isAskV]
 show (decide (p.length≤60) && (!p.any pN && jH s x true))=true
 rw [zt hp,hb,ht]; rfl
theorem bCo {s:Str} (h:dN s=true):s.length≤40:=by
 simp only [dN,aA,decide_eq_true_eq] at h
 exact h.1.1.2
theorem aAu {s:Str} (h:yM s=true):s.length≤42:=by
 have e:=congrArg List.length (P2 s)
 have hb:=bCo (s:=tG s) h
 have hf:(frame s).length≤2:=by
   unfold frame
   split
   · rw [oF]; omega
   · simp
 rw [aE] at e
 omega
theorem aNv (s:bZ):∀ t:LTerm,wfT nodeB t=true→mQ s t=true→nodesT t≤2000→∀ p:List Int,p.length+highT t≤60→(∀ i ∈ p,0≤i∧i≤2000)→∀ a ∈ cK t p,TOk s a:=
 dO (Q := fun t=>wfT nodeB t=true→mQ s t=true→nodesT t≤2000→∀ p:List Int,p.length+highT t≤60→(∀ i ∈ p,0≤i∧i≤2000)→∀ a ∈ cK t p,TOk s a) fun t hk _ hw hf hnn p hp hi=>by
   have e:=wC t
   have en:=rX t
   have hl:=xM t.kids
   have hw':=oR.1 hw
   rw [S7,aA,aN] at hf
   obtain ⟨hf1,hf2⟩:=hf
   have hN:nodesL t.kids≤2000:=by omega
   have L:∀ (l:List LTerm) (i:Nat),(∀ k ∈ l,k ∈ t.kids)→i+l.length≤t.kids.length→nodesL l≤2000→p.length+1+highL l≤60→∀ a ∈ testsL l p i,TOk s a:=by
     intro l
     induction l with
     | nil=>intro i _ _ _ _ a ha; simp [testsL] at ha
     | cons x l ih=>
       intro i hm hil hnl hh a ha
       rw [highL] at hh
       rw [nodesL] at hnl
       rw [aI] at hil
       rw [testsL,bA] at ha
       rcases ha with ha | ha
       · have hx:=hm x (by simp)
         refine hk x hx (hw'.2 x hx) (hf1 x hx) (by omega) (p++[(i:Int)]) (by simp only [aE,aI,aX]; omega) (fun j hj=>?_) a ha
         rcases bA.1 hj with hj | hj
         · exact hi j hj
         · rw [aS] at hj; omega
       · exact ih (i+1) (fun k hk=>hm k (by simp [hk])) (by omega) (by omega) (by omega) a ha
   have hn:=hw'.1
   rw [nodeB] at hn
   have z:∀ {o n:Int} {x:Str},o ≠ 1→x.all tokc=true→jH s ⟨o,zT,x,n⟩ true=true→x.length≤1000→TOk s ⟨p,⟨o,zT,x,n⟩⟩:=fun ho hx ht hl=>bBz (by omega) hi ⟨hx,fun h=>absurd h ho,fun _=>rfl⟩ ht hl
   intro a ha
   rw [hX] at ha
   by_cases h5:t.kind=5
   · rw [if_pos h5] at ha
     simp only [h5,(by decide:¬ (5:Int)=1),(by decide:¬ (5:Int)=2),(by decide:¬ (5:Int)=3),(by decide:¬ (5:Int)=4),if_false,if_true,aA,decide_eq_true_eq] at hn
     rcases bT.1 ha with rfl | ha
     · exact z (by decide) (bMg hn.1.1) (by simp [jH,hn.1.1]; omega) (dI (aAu hn.1.1) (by decide))
     · exact L t.kids 0 (fun k hk=>hk) (by omega) hN (by omega) a ha
   rw [if_neg h5] at ha
   by_cases h7:t.kind=7
   · rw [if_pos h7] at ha
     rcases bT.1 ha with rfl | ha
     · by_cases hr:0 < t.rest.length
       · rw [if_pos hr]; exact z (by decide) rfl (by simp [jH]; omega) (by decide)
       · rw [if_neg hr]; exact z (by decide) rfl (by simp [jH]; omega) (by decide)
     · exact L t.kids 0 (fun k hk=>hk) (by omega) hN (by omega) a ha
   rw [if_neg h7] at ha
   by_cases h8:t.kind=8
   · rw [if_pos h8,aS] at ha
     subst ha
     exact z (by decide) rfl (by simp [jH]) (by decide)
   rw [if_neg h8] at ha
   by_cases h6:t.kind=6
   · rw [if_pos h6] at ha
     simp only [h6,(by decide:¬ (6:Int)=1),(by decide:¬ (6:Int)=2),(by decide:¬ (6:Int)=3),(by decide:¬ (6:Int)=4),(by decide:¬ (6:Int)=5),if_false,if_true] at hn
     rw [if_pos h6] at hf2
     split at ha
     · cases ha
     · rename_i hs
       rw [aS] at ha
       subst ha
       split at hn
       · simp only [aA,decide_eq_true_eq] at hn
         exact absurd hn.1 hs
       · simp only [aA] at hn
         exact z (by decide) (aHq hn.1.2) (by simp [jH,hf2]) (dI (bCo hn.1.2) (by decide))
   · rw [if_neg h6,aS] at ha
     subst ha
     have hk4:1≤t.kind∧t.kind≤4:=by
       by_cases a1:t.kind=1
       · omega
       by_cases a2:t.kind=2
       · omega
       by_cases a3:t.kind=3
       · omega
       by_cases a4:t.kind=4
       · omega
       rw [if_neg a1,if_neg a2,if_neg a3,if_neg a4,if_neg h5,if_neg h6,if_neg h7,if_neg h8] at hn
       cases hn
     have hv:fO nodeB t=true:=by
       rw [fO,hw,zt (by omega),zt (by omega)]; rfl
     exact bBz (by omega) hi ⟨rfl,fun _=>⟨hk4,hw'.1⟩,fun h=>absurd rfl h⟩ (by simp [jH,hk4,hv]) (by simp)
theorem Y6 : ∀ (t:LTerm) (p:List Int),∀ a ∈ cK t p,∃ q,a.path=p++q:=
 dO (Q := fun t=>∀ (p:List Int),∀ a ∈ cK t p,∃ q,a.path=p++q) fun t hk _ p=>by
   have L:∀ (l:List LTerm) (i:Nat),(∀ k ∈ l,k ∈ t.kids)→∀ a ∈ testsL l p i,∃ q,a.path=p++q:=by
     intro l
     induction l with
     | nil=>intro i _ a ha; simp [testsL] at ha
     | cons x l ih=>
       intro i hm a ha
       rw [testsL,bA] at ha
       rcases ha with ha | ha
       · obtain ⟨q,hq⟩:=hk x (hm x (by simp)) _ a ha
         exact ⟨[(i:Int)]++q,by rw [hq,bL]⟩
       · exact ih (i+1) (fun k hk=>hm k (by simp [hk])) a ha
   have z:∀ x,∃ q,(⟨p,x⟩:LAsk).path=p++q:=fun x=>⟨[],(List.append_nil _).symm⟩
   intro a ha
   rw [hX] at ha
   split at ha
   · rcases bT.1 ha with rfl | ha
     · exact z _
     · exact L _ _ (fun _ h=>h) a ha
   · split at ha
     · rcases bT.1 ha with rfl | ha
       · exact z _
       · exact L _ _ (fun _ h=>h) a ha
     · split at ha
       · rw [aS] at ha; subst ha; exact z _
       · split at ha
         · split at ha
           · cases ha
           · rw [aS] at ha; subst ha; exact z _
         · rw [aS] at ha; subst ha; exact z _
theorem xH:∀ (l:List LTerm) (p:List Int) (i:Nat),∀ a ∈ testsL l p i,∃ (j:Nat) (q:List Int),i≤j∧a.path=p++(j:Int)::q
 | [],p,i,a,ha=>by simp [testsL] at ha
 | x :: l,p,i,a,ha=>by
   rw [testsL,bA] at ha
   rcases ha with ha | ha
   · obtain ⟨q,hq⟩:=Y6 x _ a ha
     exact ⟨i,q,aZ _,by rw [hq,bL]; rfl⟩
   · obtain ⟨j,q,hj,e⟩:=xH l p (i+1) a ha
     exact ⟨j,q,by omega,e⟩
theorem aKm:∀ (t:LTerm) (p:List Int),(cK t p).Pairwise fun a b=>a.path ≠ b.path:=
 dO (Q := fun t=>∀ (p:List Int),(cK t p).Pairwise fun a b=>a.path ≠ b.path) fun t hk _ p=>by
   have L:∀ (l:List LTerm) (i:Nat),(∀ k ∈ l,k ∈ t.kids)→(testsL l p i).Pairwise fun a b=>a.path ≠ b.path:=by
     intro l
     induction l with
     | nil=>intro i _; rw [testsL]; exact List.Pairwise.nil
     | cons x l ih=>
       intro i hm
       rw [testsL,List.pairwise_append]
       refine ⟨hk x (hm x (by simp)) _,ih (i+1) (fun k hk=>hm k (by simp [hk])),fun a ha b hb e=>?_⟩
       obtain ⟨q,hq⟩:=Y6 x _ a ha
       obtain ⟨j,q2,hj,e2⟩:=xH l p (i+1) b hb
       rw [hq,e2,bL] at e
       have:=List.append_cancel_left e
       have:=(fF this).1
       omega
   have C:∀ x:LTest,((⟨p,x⟩:LAsk)::testsL t.kids p 0).Pairwise fun a b=>a.path ≠ b.path:=fun x=>by
     rw [iK]
     refine ⟨fun b hb e=>?_,L _ _ (fun _ h=>h)⟩
     obtain ⟨j,q,_,e2⟩:=xH _ _ _ b hb
     have:=congrArg List.length e
     rw [e2,aE,aI] at this
     simp only at this
     omega
   rw [hX]
   split
   · exact C _
   · split
     · exact C _
     · split
       · exact V7 _ _
       · split
         · split
           · exact List.Pairwise.nil
           · exact V7 _ _
         · exact V7 _ _
def lC:List LTerm→Nat→List gZ
 | [],_=>[]
 | p::l,i=>⟨(i:Int),cK p []⟩::lC l (i+1)
def pM:List LTerm→Nat
 | []=>0
 | p::l=>(cK p []).length+pM l
theorem vD:∀ {l:List LTerm} {i:Nat},∀ r ∈ lC l i,∃ p ∈ l,r.left=cK p []∧(i:Int)≤r.index
 | p :: l,i,r,hr=>by
   rw [lC] at hr
   rcases bT.1 hr with rfl | hr
   · exact ⟨p,by simp,rfl,yE _⟩
   · obtain ⟨q,hq,e,h⟩:=vD (l:=l) (i:=i+1) r hr
     exact ⟨q,by simp [hq],e,by omega⟩
theorem aAb:∀ {l:List LTerm} {i:Nat},(lC l i).Pairwise fun a b=>a.index < b.index
 | [],_=>List.Pairwise.nil
 | p::l,i=>by
   rw [lC,iK]
   refine ⟨fun b hb=>?_,aAb⟩
   obtain ⟨q,hq,e,h⟩:=vD b hb
   show (i:Int) < b.index
   omega
theorem C4 {s:bZ} {t:LTerm}:∀ {l:List LTerm} {i:Nat},kS s t (lC l i)=qU s t l i
 | [],_=>rfl
 | p::l,i=>by rw [lC,kS,qU,C4 (l:=l) (i:=i+1)]; rfl
theorem B6:∀ {l:List LTerm} {i:Nat},nQ (lC l i)=pM l
 | [],_=>rfl
 | p::l,i=>by rw [lC,nQ,pM,B6 (l:=l) (i:=i+1)]
theorem uB {s:bZ} {t:LTerm} (h:xD s t=true):(cK t []).length≤2000∧∀ a ∈ cK t [],TOk s a:=by
 have hv:=lL h
 have hf:mQ s t=true:=by
   rw [xD,bCg,aA,aA,aA] at h; exact h.2.2.1
 have hw:=zN hv
 simp only [fO,aA,decide_eq_true_eq] at hv
 exact ⟨dI (oU t []) hv.2,aNv s t hw hf hv.2 [] (by simp only [aX]; omega) (by simp)⟩
theorem rR {s:bZ} {l:List LTerm} (h:∀ p ∈ l,xD s p=true):aCu s (lC l 0):=by
 refine ⟨fun r hr=>?_,aAb,fun r hr=>?_,fun r hr=>?_,fun r hr a ha=>?_,fun r hr a ha=>?_⟩ <;> obtain ⟨p,hp,e,hi⟩:=vD r hr
 · omega
 · rw [e]; exact dI (uB (h p hp)).1 (by decide)
 · rw [e]
   refine (aKm p []).imp_of_mem (fun {a b} ha hb hab hk=>hab ?_)
   have k:=(uB (h p hp)).2
   rw [aQw (k a ha).1 (k b hb).1 hk]
 · rw [e] at ha; exact ((uB (h p hp)).2 a ha).1
 · rw [e] at ha; exact ((uB (h p hp)).2 a ha).2.1
def jE (s:bZ) (l:List LTerm):cA × Int:=if gP s l=true then ((gJ 499 4999 (lC l 0)).1,0) else (.mk [] zA [] [],2)
theorem aCk {s:bZ} {l:List LTerm} (h:gP s l=true):aGd s (jE s l).1=true∧uC (jE s l).1 []=true:=by
 obtain ⟨a,_,b⟩:=pC h
 have i:=rR b
 rw [jE,if_pos h]
 exact ⟨aXt a i,E6 i (fun _ _ _ _=>by simp)⟩
theorem aMq {s:bZ} {l:List LTerm} {t:LTerm} (h:gP s l=true):(vK s (jE s l).1 t).1=(oN s l t).1∧(vK s (jE s l).1 t).2.2=(oN s l t).2∧(vK s (jE s l).1 t).2.1≤(pM l:Int):=by
 have hb:=aCk h
 obtain ⟨a,_,b⟩:=pC h
 have i:=rR b
 rw [vK,oN,hb.1,h,Bool.true_and]
 split
 · have m:=E5 (s:=s) (t:=t) (f:=499) (b:=4999) (n:=0) i
   rw [C4,B6] at m
   rw [jE,if_pos h]
   exact ⟨m.1,rfl,by have:=m.2; dsimp only; omega⟩
 · exact ⟨rfl,rfl,by show (0:Int)≤_; omega⟩
end Go.Proofs.YtifefbhllfdmlaaGreatDoor

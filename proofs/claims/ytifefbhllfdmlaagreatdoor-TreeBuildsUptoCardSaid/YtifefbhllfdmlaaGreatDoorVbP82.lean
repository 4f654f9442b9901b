/-
  What functions of the chapter return, as plain functions of what they are given; no condition beyond those that each theorem names.
-/
import Derived.Test.YtifefbhllfdmlaaGreatDoorVaP87
set_option maxRecDepth 100000
set_option linter.unusedSimpArgs false
set_option linter.unusedVariables false
set_option maxHeartbeats 4000000
namespace Go.Proofs.YtifefbhllfdmlaaGreatDoor
open Go Go.Vo
open Nat (reduceAdd reduceSub reduceMul reduceLeDiff reduceLT reduceEqDiff)
open Int (reduceNeg)

theorem aSa {pre g:List AObj} {sz n:Nat} {out:AV} {cells:List AV} {e:Int} (ho:dV sz pre.length g out cells n) (hp:persL cells=true):Fin (pre++g) (.tup [out,.i .i64 e]) (.tup [.sl cells n,.i .i64 e]):=by
 rcases ho with ⟨rfl,rfl,rfl⟩ | ⟨i,rfl,hi,hl⟩
 · exact .inr ⟨⟨rfl,rfl,trivial⟩,by simp [bW,finIdsL],by simp [bW,finIdsL]⟩
 · have e1:lD (pre++g) (.hs (i+pre.length) 0 n false) (.sl cells n):=by
     show AV.sl cells n=gH dep (pre++g) (.hs (i+pre.length) 0 n false)
     have hg:(pre++g)[i+pre.length]? = some (.arr false sz cells):=by
       rw [aK (by omega)]; simpa using hi
     have hd:(cells.drop 0).take (n * sz)=cells:=by rw [cZ,aH (by omega)]
     simp only [fV,pers,rH,hg,hd,hp,if_true,aM,if_false]
     rw [if_pos (by omega)]
   exact .inr ⟨⟨e1,rfl,trivial⟩,by simp [bW,finIdsL],by simp [bW,finIdsL]⟩
theorem pC {s:bZ} {l:List LTerm} (h:gP s l=true):dM s=true∧l.length≤100∧∀ p ∈ l,xD s p=true:=by
 simp only [gP,aA,decide_eq_true_eq,aN] at h
 exact h
theorem bDo (s:bZ) (l:List LTerm) (hm:Small s) (hs:OkS s) (hl:l.length≤1466015503701) (ho:∀ t ∈ l,OkT t): CT 27 [.agg (aO s),avt l] (.b (gP s l)):=by
 refine bQ mixed Tryz.func27 g0 ?_
 · simp -implicitDefEqProofs (disch:=omega) only [Tryz.f27,go_sem,List.replicate,↓reduceIte,reduceAdd,reduceSub,reduceMul,reduceLeDiff,reduceLT,reduceEqDiff,reduceNeg,Nat.reduceBEq,avt]
   have c2:=aTd s hm hs
   (refine zs0 ?_; repeat' first | exact trivial | refine zJ ?_ ?_ | refine zH fun hc=>?_)
   refine eE (fun (k:Nat)=>[.k,.k,.k,.k,.j,.k,.j,.k,.k,.v (.i .i64 (k:Nat)),.j,.j,.j,.j,.j,.j,.j,.j,.k,.k,.k,.k,.k,.k,.k]) (fun k=>[.box false (aO s)]) (fun k=>k≤l.length∧∀ j,j < k→xD s (l.getD j default)=true) (fun k=>l.length - k) (0) [] ⟨aG _,fun j h=>by omega⟩ (by simp [avs,avb,avi,avo,bK,aO]) (by simp [eN]) ?_
   rintro k g j ⟨hk,hn⟩
   by_cases hlt:k < l.length
   · have hki:(k:Int) < ((l.length:Nat):Int):=by omega
     have hmm:=aU (d:=default) hlt
     have c1:=bDn s (l.getD k default) hm hs (ho _ hmm) (aRy s _ hm hs (ho _ hmm))
     refine zh (zt hki) ?_
     (refine zy1 (zt hki) c1 ?_; repeat' first | exact trivial | refine zJ ?_ ?_ | refine zH fun hc=>?_)
     · exact aF (by
         have:l.all (xD s)=false:=by rw [fR]; exact ⟨_,hmm,by rw [hc]; simp⟩
         rw [gP,this,Bool.and_false,Bool.and_false]) rfl
     · exact ⟨k+1,_,⟨by omega,bD hn hc⟩,by omega,rfl,by simp⟩
   · have hki:¬ (k:Int) < ((l.length:Nat):Int):=by omega
     have ha:l.all (xD s)=true:=mU (fun j hj=>hn j (by omega))
     rw [gP,ha,Bool.and_true]
     generalize dM s=A at *
     refine zh (zf hki) ?_
     (refine zy1 (zf hki) c2 ?_; repeat' first | exact trivial | refine zJ ?_ ?_ | refine zH fun hc=>?_)
     all_goals clear c2
     all_goals exact aF (by (simp_all) <;> (intros; omega)) rfl
theorem bOw (s:bZ) (l:List LAsk) (t:LTerm) (hm:Small s) (hs:OkS s) (hv:dM s=true) (hl:l.length≤1000000) (ho:∀ a ∈ l,OkP a) (ht:OkT t) (hp:lH s t=true): CT 61 [.agg (aO s),ava l,elT t] (.b (l.all fun a=>fQ s a t)):=by
 refine bQ mixed Tryz.func61 g0 ?_
 · simp -implicitDefEqProofs (disch:=omega) only [Tryz.f61,go_sem,List.replicate,↓reduceIte,reduceAdd,reduceSub,reduceMul,reduceLeDiff,reduceLT,reduceEqDiff,reduceNeg,Nat.reduceBEq,ava]
   (refine zs0 ?_; repeat' first | exact trivial | refine zJ ?_ ?_ | refine zH fun hc=>?_)
   refine eE (fun (k:Nat)=>[.k,.k,.k,.k,.k,.k,.j,.k,.j,.k,.k,.v (.i .i64 (k:Nat)),.j,.j,.j,.j,.j,.j,.j,.j,.j]) (fun k=>[.box false (aO s),.box false [.i .i64 (t).kind,.i .i64 (t).n,.s (t).text,.s (t).sort,.sl ((t).kids.flatMap aC) (t).kids.length,.sl ((t).rest.flatMap aC) (t).rest.length]]) (fun k=>k≤l.length∧∀ j,j < k→fQ s (l.getD j default) t=true) (fun k=>l.length - k) (0) [] ⟨aG _,fun j h=>by omega⟩ (by simp [avs,avb,avi,avo,bK,aO]) (by simp [eN]) ?_
   rintro k g j ⟨hk,hn⟩
   by_cases hlt:k < l.length
   · have hki:(k:Int) < ((l.length:Nat):Int):=by omega
     have hmm:=aU (d:=default) hlt
     have oa:=ho _ hmm
     have c1:=bOz s (l.getD k default) t hm hs hv oa.test oa.path ht hp
     simp only [aJ,avt] at c1
     refine zh (zA2 (zt hki) (zA2 @aJ.eq_1 @avt.eq_1)) ?_
     (refine zy1 (zA2 (zt hki) (zA2 @aJ.eq_1 @avt.eq_1)) c1 ?_; repeat' first | exact trivial | refine zJ ?_ ?_ | refine zH fun hc=>?_)
     all_goals first
       | exact ⟨k+1,_,⟨by omega,bD hn hc⟩,by omega,rfl,by simp⟩
       | exact aF (by
           have:(l.all fun a=>fQ s a t)=false:=by rw [fR]; exact ⟨_,hmm,by rw [hc]; simp⟩
           rw [this]) rfl
   · have hki:¬ (k:Int) < ((l.length:Nat):Int):=by omega
     have ha:(l.all fun a=>fQ s a t)=true:=by
       rw [aN]
       intro x hx
       obtain ⟨j,hj,rfl⟩:=bU.1 hx
       have:=hn j (by omega)
       simpa [List.getD,hj] using this
     refine zh (zf hki) ?_
     (refine zx0 (zf hki) ?_; repeat' first | exact trivial | refine zJ ?_ ?_ | refine zH fun hc=>?_)
     all_goals exact aF (by rw [ha]) rfl
theorem bPg (l m:List Int) (hl:l.length≤1000000) (hm:m.length≤1000000): CT 20 [.sl (ints l) l.length,.sl (ints m) m.length] (.b (decide (l=m))):=by
 refine cY (rx:=true) (th:=fun _=>none) mixed Tryz.func20 g0 ?_
 · simp -implicitDefEqProofs (disch:=omega) only [Tryz.f20,go_sem,List.replicate,↓reduceIte,reduceAdd,reduceSub,reduceMul,reduceLeDiff,reduceLT,reduceEqDiff,reduceNeg,Nat.reduceBEq]
   by_cases he:l.length=m.length
   · have hei:((l.length:Nat):Int)=((m.length:Nat):Int):=by omega
     refine zh (zt hei) ?_
     (refine zx0 (zt hei) ?_; repeat' first | exact trivial | refine zJ ?_ ?_ | refine zH fun hc=>?_)
     refine bP (fun (k:Nat)=>[.k,.k,.k,.k,.j,.j,.k,.k,.k,.k,.k,.k,.k,.v (.i .i64 (k:Nat)),.j,.j,.j,.j,.j,.j,.j,.j,.j,.j,.j,.j]) (fun k=>[]) (fun k=>k≤l.length∧∀ j,j < k→l.getD j 0=m.getD j 0) (fun k=>l.length - k) (0) ⟨aG _,fun j h=>by omega⟩ rfl (by simp [eN]) ?_
     rintro k j ⟨hk,ha2⟩
     refine zg ?_
     (refine zs0 ?_; repeat' first | exact trivial | refine zJ ?_ ?_ | refine zH fun hc=>?_)
     all_goals first
       | exact aF (by rw [aPu (by omega) hc]) rfl
       | exact ⟨k+1,⟨by omega,bD ha2 hc⟩,by omega,rfl⟩
       | exact aF (by rw [aAp he (fun j hj=>ha2 j (by omega))]) rfl
   · have hei:¬ ((l.length:Nat):Int)=((m.length:Nat):Int):=by omega
     refine zh (zf hei) ?_
     (refine zx0 (zf hei) ?_; repeat' first | exact trivial | refine zJ ?_ ?_ | refine zH fun hc=>?_)
     all_goals exact aF (by rw [zf (fun e=>he (by rw [e]))]) rfl

theorem bPh (s:bZ) (l:List LTerm) (t:LTerm) (hm:Small s) (hs:OkS s) (hl:l.length≤1466015503701) (ho:∀ p ∈ l,OkT p) (ht:OkT t): CT 19 [.agg (aO s),avt l,elT t] (aCi (oN s l t)):=by
 refine cY (rx:=true) (th:=fun _=>none) mixed Tryz.func19 g0 ?_
 · generalize hR:((aCi (oN s l t)):AV)=R
   simp -implicitDefEqProofs (disch:=omega) only [Tryz.f19,go_sem,List.replicate,↓reduceIte,reduceAdd,reduceSub,reduceMul,reduceLeDiff,reduceLT,reduceEqDiff,reduceNeg,Nat.reduceBEq,avt]
   have c1:=bDo s l hm hs hl ho
   have c2:=bQq s t hm hs ht
   simp only [avt] at c1
   rcases eM (gP s l) with h1 | h1
   · rw [h1] at c1
     obtain ⟨hv,h100,hpl⟩:=pC h1
     rcases eM (dM s && lH s t) with h2 | h2
     · rw [h2] at c2
       have hpv:=((aA _ _).mp h2).2
       (refine zt2 c1 c2 ?_; repeat' first | exact trivial | refine zJ ?_ ?_ | refine zH fun hc=>?_)
       refine bP (fun (q:Nat × AV × List AObj)=>[.k,.k,.k,.k,.k,.k,.k,.k,.v (q.2.1),.j,.j,.k,.k,.k,.k,.k,.k,.k,.k,.k,.k,.k,.k,.v (.i .i64 (q.1:Nat)),.j,.j,.j,.j,.j,.j,.j,.j,.j,.j,.j,.j,.j,.j,.k]) (fun q=>(.box false (aO s)::.box false [.i .i64 (t).kind,.i .i64 (t).n,.s (t).text,.s (t).sort,.sl ((t).kids.flatMap aC) (t).kids.length,.sl ((t).rest.flatMap aC) (t).rest.length]::q.2.2)) (fun q=>q.1≤l.length∧dV 1 2 q.2.2 q.2.1 (ints (qU s t (l.take q.1) 0)) (qU s t (l.take q.1) 0).length) (fun q=>l.length - q.1) ((0,.e0,[])) ⟨aG _,jC⟩ rfl (by simp [eN]) ?_
       rintro ⟨k,out,g⟩ j ⟨hk,hout⟩
       dsimp only at hk hout
       by_cases hlt:k < l.length
       · have hki:(k:Int) < ((l.length:Nat):Int):=by omega
         have hmm:=aU (d:=default) hlt
         have hp:=hpl _ hmm
         have hpo:=ho _ hmm
         have hh:=sO (lL hp)
         have htl:(cK (l.getD k default) []).length≤1000000:=dI (oU _ []) (by omega)
         have c4:=bDm (l.getD k default) hpo [] (by simp only [aX]; omega) htl
         have c5:=bOw s (cK (l.getD k default) []) t hm hs hv htl (Y7 _ hpo [] (by simp only [aX]; omega) (by simp)) ht hpv
         have e:((cK (l.getD k default) []).all fun a=>fQ s a t)=aQg s t (l.getD k default):=rfl
         rw [e] at c5
         simp only [bN,aX] at c4
         have hlen:=wR (s:=s) (t:=t) (l:=l.take k) (i:=0)
         have htk:=xW (s:=s) (t:=t) (i:=0) hlt
         rw [cM] at htk
         rw [dS] at hlen
         clear e
         generalize aQg s t (l.getD k default)=ok at *
         generalize cK (l.getD k default) []=T at *
         simp only [ava,elT,bC,avt] at c4 c5
         refine zh (zt hki) ?_
         (refine zy2 (zt hki) c4 c5 ?_; repeat' first | exact trivial | refine zJ ?_ ?_ | refine zH fun hc=>?_)
         all_goals first
           | (refine ⟨(k+1,out,_),⟨by dsimp only; omega,?_⟩,by dsimp only; omega,rfl,by simp⟩
              dsimp only
              rw [htk,if_neg (by rw [hc]; simp),List.append_nil]
              exact hout.more _)
           | skip
         · refine dU (pre:=[_,_]) (news:=[.i .i64 (k:Nat)]) (m:=1) hout rfl rfl bVx zo3 sz3 by3 rfl (by decide) (by simp -implicitDefEqProofs (disch:=omega) only [go_sem,↓reduceIte,reduceAdd,reduceSub,reduceMul,reduceLeDiff,reduceLT,reduceEqDiff,reduceNeg,Nat.reduceBEq]) (by simp -implicitDefEqProofs (disch:=omega) only [go_sem,↓reduceIte,reduceAdd,reduceSub,reduceMul,reduceLeDiff,reduceLT,reduceEqDiff,reduceNeg,Nat.reduceBEq]) ⟨by omega,by omega⟩ ?_
           intro out' g' ho' _
           refine zg ?_
           refine ⟨(k+1,out',g'),⟨by dsimp only; omega,?_⟩,by dsimp only; omega,rfl,by simp⟩
           dsimp only
           rw [htk,if_pos hc,ints,aV,aE]
           exact ho'
       · have hki:¬ (k:Int) < ((l.length:Nat):Int):=by omega
         have hkt:l.take k=l:=aH (by omega)
         rw [hkt] at hout
         refine zh (zf hki) ?_
         subst hR
         have he:oN s l t=(qU s t l 0,0):=by rw [oN,h1,h2,dY,if_pos rfl]
         rw [he]
         exact aSa (pre:=[_,_]) hout eP
     · rw [h2] at c2
       (refine zt2 c1 c2 ?_; repeat' first | exact trivial | refine zJ ?_ ?_ | refine zH fun hc=>?_)
       subst hR
       all_goals exact .inr ⟨by rw [oN,h2,Bool.and_false,if_neg (by simp)]; exact ⟨rfl,rfl,trivial⟩,cR,fun i hi=>absurd hi (by show ¬ i ∈ []; simp)⟩
   · rw [h1] at c1
     (refine zt1 c1 ?_; repeat' first | exact trivial | refine zJ ?_ ?_ | refine zH fun hc=>?_)
     subst hR
     all_goals exact .inr ⟨by rw [oN,h1,Bool.false_and,if_neg (by simp)]; exact ⟨rfl,rfl,trivial⟩,cR,fun i hi=>absurd hi (by show ¬ i ∈ []; simp)⟩

structure gZ where
 index:Int
 left:List LAsk
instance:Inhabited gZ:=⟨⟨0,[]⟩⟩
inductive cA where
 | mk (rows:List gZ) (ask:LAsk) (yes no:List cA)
namespace cA
def rows:cA→List gZ | mk r _ _ _=>r
def ask:cA→LAsk | mk _ a _ _=>a
def yes:cA→List cA | mk _ _ y _=>y
def no:cA→List cA | mk _ _ _ n=>n
end cA
abbrev zA:LAsk:=⟨[],⟨0,zT,[],0⟩⟩
instance:Inhabited cA:=⟨.mk [] zA [] []⟩
theorem aGl {t k:cA} (h:k ∈ t.yes):SizeOf.sizeOf k < SizeOf.sizeOf t:=by
 cases t; simp only [cA.yes] at h; have:=tI h; simp; omega
theorem aOs {t k:cA} (h:k ∈ t.no):SizeOf.sizeOf k < SizeOf.sizeOf t:=by
 cases t; simp only [cA.no] at h; have:=tI h; simp; omega
theorem kO {Q:cA→Prop} (h:∀ t,(∀ k ∈ t.yes,Q k)→(∀ k ∈ t.no,Q k)→Q t) (t:cA):Q t:=
 h t (fun k hk=>kO h k) (fun k hk=>kO h k)
termination_by SizeOf.sizeOf t
decreasing_by
 · exact aGl hk
 · exact aOs hk
def bM (r:gZ):List AV:=[.i .i64 r.index,.sl (r.left.flatMap aJ) r.left.length]
theorem aDo (r:gZ):(bM r).length=2:=rfl
def avr (l:List gZ):AV:=.sl (l.flatMap bM) l.length
mutual
def bX:cA→List AV
 | .mk r a y n=>avr r::(aJ a++[.sl (treesCells y) y.length,.sl (treesCells n) n.length])
def treesCells:List cA→List AV
 | []=>[]
 | t::l=>bX t++treesCells l
end
theorem uR:∀ (l:List cA),treesCells l=l.flatMap bX
 | []=>by simp [treesCells]
 | t::l=>by rw [treesCells,uR l,dJ]
def avx (l:List cA):AV:=.sl (l.flatMap bX) l.length
theorem cW (x:cA):bX x=[avr x.rows,.sl (x.ask.path.map (.i .i64)) x.ask.path.length,.i .i64 x.ask.test.op,.i .i64 x.ask.test.term.kind,.i .i64 x.ask.test.term.n,.s x.ask.test.term.text,.s x.ask.test.term.sort,avt x.ask.test.term.kids,avt x.ask.test.term.rest,.s x.ask.test.text,.i .i64 x.ask.test.n,avx x.yes,avx x.no]:=by
 cases x
 simp only [bX,uR,cA.rows,cA.ask,cA.yes,cA.no,avx,aJ,bR,cH]
theorem aGh (x:cA):(bX x).length=13:=by rw [cW]; rfl
theorem aPr (r:gZ):persL (bM r)=true:=by simp [bM,persL,pers,rU]
theorem jM {l:List gZ}:persL (l.flatMap bM)=true:=jN fun x _=>aPr x
theorem Q9 (x:cA):persL (bX x)=true:=by
 induction x using kO with
 | h x hy hn=>
   rw [cW]
   simp [persL,avt,avr,avx,pers,iH,eP,jM,jN hy,jN hn]
theorem aAm {l:List cA}:persL (l.flatMap bX)=true:=jN fun x _=>Q9 x
abbrev elX (x:cA):AV:=.agg (bX x)
section
variable {k:Nat} {l:List cA} {r:List gZ}
theorem aGg (h:k < l.length):((l.flatMap bX).drop (k * 13)).take 13=bX (l.getD k default):=by
 rw [qN aGh]
 simp [h,List.getD]
theorem aNt (h:0 < l.length):(l.flatMap bX).take 13=bX (l.getD 0 default):=by
 have:=aGg h
 simpa using this
theorem Q0:(l.flatMap bX).length=l.length * 13:=oA aGh l
theorem bFv (h:k < r.length):((r.flatMap bM).drop (k * 2)).take 2=bM (r.getD k default):=by
 rw [qN aDo]
 simp [h,List.getD]
theorem aWk (h:k < r.length):(r.flatMap bM)[k * 2]? = some (.i .i64 (r.getD k default).index):=by
 have:=aIe aDo r k (j:=0) (by omega)
 simpa [h,List.getD,bM] using this
theorem aAc:(r.flatMap bM).length=r.length * 2:=oA aDo r
end
attribute [go_sem] aGg aNt Q0 bFv aWk aAc aPr jM Q9 aAm cW avr avx

end Go.Proofs.YtifefbhllfdmlaaGreatDoor

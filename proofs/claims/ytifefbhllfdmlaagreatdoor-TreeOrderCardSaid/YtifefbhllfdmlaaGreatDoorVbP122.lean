/-
  What functions of the chapter return, as plain functions of what they are given; no condition beyond those that each theorem names.
-/
import Derived.Test.YtifefbhllfdmlaaGreatDoorVaP127
set_option maxRecDepth 100000
set_option linter.unusedSimpArgs false
set_option linter.unusedVariables false
set_option maxHeartbeats 4000000
namespace Go.Proofs.YtifefbhllfdmlaaGreatDoor
open Go Go.Vo
open Nat (reduceAdd reduceSub reduceMul reduceLeDiff reduceLT reduceEqDiff)
open Int (reduceNeg)

theorem bAf {pre g:List AObj} {sz n:Nat} {out:AV} {cells:List AV} {e:Int} (ho:fD sz pre.length g out cells n) (hp:persL cells=true):Fin (pre++g) (.tup [out,.i .i64 e]) (.tup [.sl cells n,.i .i64 e]):=by
 rcases ho with ⟨rfl,rfl,rfl⟩ | ⟨i,rfl,hi,hl⟩
 · exact .inr ⟨⟨rfl,rfl,trivial⟩,by simp [cD,finIdsL],by simp [cD,finIdsL]⟩
 · have e1:kQ (pre++g) (.hs (i+pre.length) 0 n false) (.sl cells n):=by
     show AV.sl cells n=fU dep (pre++g) (.hs (i+pre.length) 0 n false)
     have hg:(pre++g)[i+pre.length]? = some (.arr false sz cells):=by
       rw [aF (by omega)]; simpa using hi
     have hd:(cells.drop 0).take (n * sz)=cells:=by rw [dX,aJ (by omega)]
     simp only [fS,pers,qX,hg,hd,hp,if_true,aH,if_false]
     rw [if_pos (by omega)]
   exact .inr ⟨⟨e1,rfl,trivial⟩,by simp [cD,finIdsL],by simp [cD,finIdsL]⟩
theorem pM {s:dF} {l:List LTerm} (h:dZ s l=true):gK s=true∧l.length≤100∧∀ p ∈ l,A8 s p=true:=by
 simp only [dZ,aB,decide_eq_true_eq,aV] at h
 exact h
theorem aKi (s:dF) (p t:LTerm) (hm:Small s) (hp:OkT p) (ht:OkT t) (hv:A8 s p=true):CT 59 [ava (dI p []),.fn 60 [] [.box [cU s] 0,.box (aE t) 0]] (.b (!aKj s t p)):=by
 have hh:=qJ (lY hv)
 have hok:=O1 p hp [] (by simp only [aY]; omega) (by simp)
 have c:=aWc (dI p []) 60 [] [.box [cU s] 0,.box (aE t) 0] (fun a => !fV s a t) (dN (pC p []) (by omega)) rfl (by simp only [persL,pers,pK,aQn,bS]) (fun k hk=>bFv s _ t hm (hok _ (cC hk)).k ht)
 have e:((dI p []).any fun a => !fV s a t) = !aKj s t p:=L6.symm
 rw [e] at c
 exact c
theorem aMk (s:dF) (l:List LTerm) (t:LTerm) (hm:Small s) (hs:OkS s) (hl:l.length≤1466015503701) (ho:∀ p ∈ l,OkT p) (ht:OkT t): CT 18 [.agg (cB s),avt l,elT t] (aDo (tT s l t)):=by
 refine cX mixed Tryz.func18 g0 ?_
 · generalize hR:((aDo (tT s l t)):AV)=R
   simp -implicitDefEqProofs (disch:=omega) only [Tryz.f18,go_sem,List.replicate,↓reduceIte,reduceAdd,reduceSub,reduceMul,reduceLeDiff,reduceLT,reduceEqDiff,reduceNeg,Nat.reduceBEq,avt]
   have c1:=aWd s l hm hs hl ho
   have c2:=aMl s t hm hs ht
   simp only [avt] at c1
   rcases iC (dZ s l) with h1 | h1
   · rw [h1] at c1
     obtain ⟨hv,h100,hpl⟩:=pM h1
     rcases iC (gK s && nK s t) with h2 | h2
     · rw [h2] at c2
       have c3:=T5 s hm (iB hv)
       (refine zt3 c1 c2 c3 ?_; repeat' first | exact trivial | refine zJ ?_ ?_ | refine zH fun hc=>?_)
       refine dD (fun (q:Nat × AV × List AObj)=>[.k,.k,.k,.k,.k,.k,.k,.k,.k,.v (q.2.1),.j,.j,.k,.k,.k,.k,.k,.k,.k,.k,.k,.k,.k,.k,.k,.k,.v (.i .i64 (q.1:Nat)),.j,.j,.j,.j,.j,.j,.j,.j,.j,.j,.j,.j,.j,.j,.k]) (fun q=>(.box false (cB s)::.box false [.i .i64 (t).kind,.i .i64 (t).n,.s (t).text,.s (t).sort,.sl ((t).kids.flatMap aE) (t).kids.length,.sl ((t).rest.flatMap aE) (t).rest.length]::.box false [cU s]::q.2.2)) (fun q=>q.1≤l.length∧fD 1 3 q.2.2 q.2.1 (ints (fC s t (l.take q.1) 0)) (fC s t (l.take q.1) 0).length) (fun q=>l.length - q.1) ((0,.e0,[])) ⟨aT _,kK⟩ rfl (by simp [iL]) ?_
       rintro ⟨k,out,g⟩ j ⟨hk,hout⟩
       dsimp only at hk hout
       by_cases hlt:k < l.length
       · have hki:(k:Int) < ((l.length:Nat):Int):=by omega
         have hmm:=cC (d:=default) hlt
         have hp:=hpl _ hmm
         have hpo:=ho _ hmm
         have hh:=qJ (lY hp)
         have c4:=F5 (l.getD k default) hpo (by omega) (dN (pC _ []) (by omega))
         have c5:=aKi s (l.getD k default) t hm hpo ht hp
         have hlen:=tU (s:=s) (t:=t) (l:=l.take k) (i:=0)
         have htk:=F7 (s:=s) (t:=t) (i:=0) hlt
         rw [cZ] at htk
         rw [eZ] at hlen
         generalize aKj s t (l.getD k default)=ok at *
         generalize dI (l.getD k default) []=T at *
         simp only [ava,elT,bT,avt] at c4 c5
         refine zh (zt hki) ?_
         (refine zy2 (zt hki) c4 c5 ?_; repeat' first | exact trivial | refine zJ ?_ ?_ | refine zH fun hc=>?_)
         · refine fE (pre:=[_,_,_]) (news:=[.i .i64 (k:Nat)]) (m:=1) hout rfl rfl bOm zo3 sz3 by3 rfl (by decide) (by simp -implicitDefEqProofs (disch:=omega) only [go_sem,↓reduceIte,reduceAdd,reduceSub,reduceMul,reduceLeDiff,reduceLT,reduceEqDiff,reduceNeg,Nat.reduceBEq]) (by simp -implicitDefEqProofs (disch:=omega) only [go_sem,↓reduceIte,reduceAdd,reduceSub,reduceMul,reduceLeDiff,reduceLT,reduceEqDiff,reduceNeg,Nat.reduceBEq]) ⟨by omega,by omega⟩ ?_
           intro out' g' ho' _
           refine zg ?_
           refine ⟨(k+1,out',g'),⟨by dsimp only; omega,?_⟩,by dsimp only; omega,rfl,by simp⟩
           dsimp only
           rw [htk,if_pos hc,ints,bF,aG]
           exact ho'
         · refine ⟨(k+1,out,_),⟨by dsimp only; omega,?_⟩,by dsimp only; omega,rfl,by simp⟩
           dsimp only
           rw [htk,if_neg (by rw [hc]; simp),List.append_nil]
           exact hout.more _
       · have hki:¬ (k:Int) < ((l.length:Nat):Int):=by omega
         have hkt:l.take k=l:=aJ (by omega)
         rw [hkt] at hout
         refine zh (zf hki) ?_
         subst hR
         have he:tT s l t=(fC s t l 0,0):=by rw [tT,h1,h2,dV,if_pos rfl]
         rw [he]
         exact bAf (pre:=[_,_,_]) hout fX
     · rw [h2] at c2
       (refine zt2 c1 c2 ?_; repeat' first | exact trivial | refine zJ ?_ ?_ | refine zH fun hc=>?_)
       subst hR
       all_goals exact .inr ⟨by rw [tT,h2,aW,if_neg (by simp)]; exact ⟨rfl,rfl,trivial⟩,fL,fun i hi=>absurd hi (by show ¬ i ∈ []; simp)⟩
   · rw [h1] at c1
     (refine zt1 c1 ?_; repeat' first | exact trivial | refine zJ ?_ ?_ | refine zH fun hc=>?_)
     subst hR
     all_goals exact .inr ⟨by rw [tT,h1,aS,if_neg (by simp)]; exact ⟨rfl,rfl,trivial⟩,fL,fun i hi=>absurd hi (by show ¬ i ∈ []; simp)⟩
theorem aMj (l m:List Int) (hl:l.length≤1000000) (hm:m.length≤1000000): CT 20 [.sl (ints l) l.length,.sl (ints m) m.length] (.b (decide (l=m))):=by
 refine eD (rx:=true) (th:=fun _=>none) mixed Tryz.func20 g0 ?_
 · simp -implicitDefEqProofs (disch:=omega) only [Tryz.f20,go_sem,List.replicate,↓reduceIte,reduceAdd,reduceSub,reduceMul,reduceLeDiff,reduceLT,reduceEqDiff,reduceNeg,Nat.reduceBEq]
   by_cases he:l.length=m.length
   · have hei:((l.length:Nat):Int)=((m.length:Nat):Int):=by omega
     refine zh (zt hei) ?_
     (refine zx0 (zt hei) ?_; repeat' first | exact trivial | refine zJ ?_ ?_ | refine zH fun hc=>?_)
     refine dD (fun (k:Nat)=>[.k,.k,.k,.k,.j,.j,.k,.k,.k,.k,.k,.k,.k,.v (.i .i64 (k:Nat)),.j,.j,.j,.j,.j,.j,.j,.j,.j,.j,.j,.j]) (fun k=>[]) (fun k=>k≤l.length∧∀ j,j < k→l.getD j 0=m.getD j 0) (fun k=>l.length - k) (0) ⟨aT _,fun j h=>by omega⟩ rfl (by simp [iL]) ?_
     rintro k j ⟨hk,ha2⟩
     refine zg ?_
     (refine zs0 ?_; repeat' first | exact trivial | refine zJ ?_ ?_ | refine zH fun hc=>?_)
     all_goals first
       | exact aP (by rw [aYo (by omega) hc]) rfl
       | exact ⟨k+1,⟨by omega,dS ha2 hc⟩,by omega,rfl⟩
       | exact aP (by rw [aJv he (fun j hj=>ha2 j (by omega))]) rfl
   · have hei:¬ ((l.length:Nat):Int)=((m.length:Nat):Int):=by omega
     refine zh (zf hei) ?_
     (refine zx0 (zf hei) ?_; repeat' first | exact trivial | refine zJ ?_ ?_ | refine zH fun hc=>?_)
     all_goals exact aP (by rw [zf (fun e=>he (by rw [e]))]) rfl


structure hZ where
 index:Int
 left:List LAsk
instance:Inhabited hZ:=⟨⟨0,[]⟩⟩
inductive cM where
 | mk (rows:List hZ) (ask:LAsk) (yes no:List cM)
namespace cM
def rows:cM→List hZ | mk r _ _ _=>r
def ask:cM→LAsk | mk _ a _ _=>a
def yes:cM→List cM | mk _ _ y _=>y
def no:cM→List cM | mk _ _ _ n=>n
end cM
abbrev zA:LAsk:=⟨[],⟨0,zT,[],0⟩⟩
instance:Inhabited cM:=⟨.mk [] zA [] []⟩
theorem aBn {t k:cM} (h:k ∈ t.yes):SizeOf.sizeOf k < SizeOf.sizeOf t:=by
 cases t; simp only [cM.yes] at h; have:=rC h; simp; omega
theorem aIs {t k:cM} (h:k ∈ t.no):SizeOf.sizeOf k < SizeOf.sizeOf t:=by
 cases t; simp only [cM.no] at h; have:=rC h; simp; omega
theorem mP {Q:cM→Prop} (h:∀ t,(∀ k ∈ t.yes,Q k)→(∀ k ∈ t.no,Q k)→Q t) (t:cM):Q t:=
 h t (fun k hk=>mP h k) (fun k hk=>mP h k)
termination_by SizeOf.sizeOf t
decreasing_by
 · exact aBn hk
 · exact aIs hk
def cN (r:hZ):List AV:=[.i .i64 r.index,.sl (r.left.flatMap aL) r.left.length]
theorem X6 (r:hZ):(cN r).length=2:=rfl
def avr (l:List hZ):AV:=.sl (l.flatMap cN) l.length
mutual
def dG:cM→List AV
 | .mk r a y n=>avr r::(aL a++[.sl (treesCells y) y.length,.sl (treesCells n) n.length])
def treesCells:List cM→List AV
 | []=>[]
 | t::l=>dG t++treesCells l
end
theorem sI:∀ (l:List cM),treesCells l=l.flatMap dG
 | []=>by simp [treesCells]
 | t::l=>by rw [treesCells,sI l,dL]
def avx (l:List cM):AV:=.sl (l.flatMap dG) l.length
theorem dU (x:cM):dG x=[avr x.rows,.sl (x.ask.path.map (.i .i64)) x.ask.path.length,.i .i64 x.ask.test.op,.i .i64 x.ask.test.term.kind,.i .i64 x.ask.test.term.n,.s x.ask.test.term.text,.s x.ask.test.term.sort,avt x.ask.test.term.kids,avt x.ask.test.term.rest,.s x.ask.test.text,.i .i64 x.ask.test.n,avx x.yes,avx x.no]:=by
 cases x
 simp only [dG,sI,cM.rows,cM.ask,cM.yes,cM.no,avx,aL,aU,bJ]
theorem aBl (x:cM):(dG x).length=13:=by rw [dU]; rfl
theorem aJr (r:hZ):persL (cN r)=true:=by simp [cN,persL,pers,yC]
theorem jD {l:List hZ}:persL (l.flatMap cN)=true:=jF fun x _=>aJr x
theorem xZ (x:cM):persL (dG x)=true:=by
 induction x using mP with
 | h x hy hn=>
   rw [dU]
   simp [persL,avt,avr,avx,pers,iF,fX,jD,jF hy,jF hn]
theorem Q5 {l:List cM}:persL (l.flatMap dG)=true:=jF fun x _=>xZ x
abbrev elX (x:cM):AV:=.agg (dG x)
section
variable {k:Nat} {l:List cM} {r:List hZ}
theorem aBk (h:k < l.length):((l.flatMap dG).drop (k * 13)).take 13=dG (l.getD k default):=by
 rw [oK aBl]
 simp [h,List.getD]
theorem aHq (h:0 < l.length):(l.flatMap dG).take 13=dG (l.getD 0 default):=by
 have:=aBk h
 simpa using this
theorem G7:(l.flatMap dG).length=l.length * 13:=mV aBl l
theorem aXy (h:k < r.length):((r.flatMap cN).drop (k * 2)).take 2=cN (r.getD k default):=by
 rw [oK X6]
 simp [h,List.getD]
theorem aPy (h:k < r.length):(r.flatMap cN)[k * 2]? = some (.i .i64 (r.getD k default).index):=by
 have:=aCr X6 r k (j:=0) (by omega)
 simpa [h,List.getD,cN] using this
theorem P8:(r.flatMap cN).length=r.length * 2:=mV X6 r
end
attribute [go_sem] aBk aHq G7 aXy aPy P8 aJr jD xZ Q5 dU avr avx
@[go_sem] theorem bNa:zeroOf Tryz.prog 56=some [.e0,.e0,.i .i64 0,.i .i64 0,.i .i64 0,.s [],.s [],.e0,.e0,.s [],.i .i64 0,.e0,.e0]:=by kernel_rfl

end Go.Proofs.YtifefbhllfdmlaaGreatDoor

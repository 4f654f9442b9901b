/-
  Functions of the chapter, as plain functions of what they are given; no condition.
-/
import Derived.Test.YtdjcggcjlphdoaaGreatDoorVcP13
import Derived.Test.YtdjcggcjlphdoaaGreatDoorVdP12
set_option maxRecDepth 100000
set_option linter.unusedSimpArgs false
set_option linter.unusedVariables false
set_option maxHeartbeats 4000000
namespace Go.Proofs.YtdjcggcjlphdoaaGreatDoor
open Go Go.Vo
open Nat (reduceAdd reduceSub reduceMul reduceLeDiff reduceLT reduceEqDiff)
open Int (reduceNeg)

abbrev AF:=LTerm→LTerm→List LSub→Bool→MR
def nO (A:AF):Prop:=∀ p t l,(A p t l true).2=true
def bRb (A:AF):Prop:=∀ p t b,A p t [] b=([],b)
theorem yN {l:List LSub}:(oN true l).2=true:=by rw [oN]; split <;> rfl
section
variable {A:AF} {s:eD} {key value:LTerm}
theorem aHs (hA:nO A):∀ {ps ts:List LTerm} {l:List LSub},(iS A ps ts l true).2=true
 | [],ts,l=>by rw [sV]
 | p::ps,[],l=>rfl
 | p::ps,t::ts,l=>by rw [iS,hA]; exact aHs hA
theorem T9 (hA:bRb A) {b:Bool}:∀ {ps ts:List LTerm},iS A ps ts [] b=([],b)
 | [],ts=>sV
 | p::ps,[]=>rfl
 | p::ps,t::ts=>by rw [iS,hA]; exact T9 hA
theorem yW:∀ {ps ts:List LTerm} {l:List LSub} {b:Bool} (k:Nat),iS A ps ts l b=iS A (ps.drop k) (ts.drop k) (iS A (ps.take k) (ts.take k) l b).1 (iS A (ps.take k) (ts.take k) l b).2
 | ps,ts,l,b,0=>by simp
 | [],ts,l,b,k+1=>by simp
 | p::ps,[],l,b,k+1=>by
   simp only [List.take_nil,List.drop_nil,aL,aU,iS]
   cases ps.drop k <;> rfl
 | p::ps,t::ts,l,b,k+1=>by rw [iS,yW k]; simp only [aL,aU,iS]
theorem aZa (hA:nO A) {w:mC}:∀ k,(mF A s key value w k true).2=true
 | 0=>rfl
 | k+1=>by
   rw [mF]
   show (A value _ _ _).2=true
   rw [aZa hA k]; exact hA _ _ _
theorem aFq (hA:nO A):∀ ws,(nX A s key value ws true).2=true
 | []=>rfl
 | w::ws=>by
   rw [nX]
   show (nX A s key value ws _).2=true
   rw [aZa hA]; exact aFq hA ws
theorem aOw (hA:nO A) {ws:List mC}:(nA A s key value ws true).2=true:=by
 rw [nA]
 split
 · rfl
 · exact aFq hA ws
theorem aXp (hA:nO A) {p:LTerm} {r:List mC × Bool} (h:r.2=true):∀ k,(nN A s p k r).2=true
 | 0=>h
 | k+1=>by rw [nN,aXp hA h k]; exact aOw hA
theorem bAr (hA:nO A) {p t:LTerm} {l:List LSub}:(jT A s p t l true).2=true:=by
 rw [jT,aXp hA rfl]; exact yN
theorem aKx {p:LTerm} {b:Bool}:∀ k,nN A s p k ([],b)=([],b)
 | 0=>rfl
 | k+1=>by rw [nN,aKx k]; rfl
theorem aSl {p t:LTerm} {b:Bool}:jT A s p t [] b=([],b):=by
 rw [jT,aW,aKx]; rfl
end
theorem aDk {s:eD}:∀ n,nO (eH s n)
 | 0=>fun p t l=>rfl
 | n + 1=>fun p t l=>by
   have hA:=aDk (s:=s) n
   rw [eH]
   split
   · split
     · exact aHs hA
     · rfl
   split
   · split
     · split
       · rw [aHs hA]; exact yN
       · exact aHs hA
     · rfl
   split
   · split
     · exact bAr hA
     · rfl
   exact yN
theorem aGx {s:eD}:∀ n,bRb (eH s n)
 | 0=>fun p t b=>rfl
 | n + 1=>fun p t b=>by
   have hA:=aGx (s:=s) n
   rw [eH]
   split
   · split
     · exact T9 hA
     · rfl
   split
   · split
     · split
       · rw [T9 hA]; rfl
       · exact T9 hA
     · rfl
   split
   · split
     · exact aSl
     · rfl
   rfl
structure jQ where
 u:LSub
 tk:List Bool
instance:Inhabited jQ:=⟨⟨[],[]⟩⟩
def leftOf:List LTerm→List Bool→List LTerm
 | a::b::l,x::tk=>if x=true then leftOf l tk else a::b::leftOf l tk
 | _,_=>[]
def iJ (ks:List LTerm) (w:jQ):mC:=⟨w.u,leftOf ks w.tk⟩
def cntF:Nat→List Bool→Nat
 | 0,_=>0
 | _,[]=>0
 | k+1,x::tk=>(if x=true then 0 else 1)+cntF k tk
theorem aFc:∀ {m:Nat} {ks:List LTerm},ks.length=2 * m→leftOf ks (List.replicate m false)=ks
 | 0,ks,h=>by
   have:ks=[]:=List.eq_nil_of_length_eq_zero (by omega)
   subst this; rfl
 | m+1,a::b::ks,h=>by rw [fR,leftOf,if_neg (by simp),aFc (m:=m) (by simp at h; omega)]
 | m+1,[a],h=>by simp at h; omega
 | m+1,[],h=>by simp at h
theorem uM:∀ {ks:List LTerm} {tk:List Bool},ks.length=2 * tk.length→(leftOf ks tk).length=2 * cntF tk.length tk
 | ks,[],h=>by
   have:ks=[]:=List.eq_nil_of_length_eq_zero (by simpa using h)
   subst this; rfl
 | a::b::ks,x::tk,h=>by
   have ih:=uM (ks:=ks) (tk:=tk) (by simp at h; omega)
   rw [leftOf,bH,cntF]
   split
   · rw [ih]; omega
   · rw [bH,bH,ih]; omega
 | [a],x::tk,h=>by simp at h; omega
 | [],x::tk,h=>by simp at h
theorem uY:∀ {k:Nat} {tk:List Bool},k < tk.length→cntF (k+1) tk=cntF k tk+(if tk.getD k false=true then 0 else 1)
 | 0,x::tk,_=>by simp [cntF]
 | k+1,x::tk,h=>by
   rw [cntF,uY (by simpa using h),cntF,dZ]; omega
theorem aPt:∀ {k:Nat} {tk:List Bool},cntF k tk≤k
 | 0,_=>by simp [cntF]
 | k+1,[]=>by simp [cntF]
 | k+1,x::tk=>by
   have:=aPt (k:=k) (tk:=tk)
   rw [cntF]; split <;> omega
theorem left_at:∀ {i:Nat} {ks:List LTerm} {tk:List Bool},ks.length=2 * tk.length→i < tk.length→tk.getD i false=false →
   (leftOf ks tk).getD (2 * cntF i tk) default=ks.getD (2 * i) default∧(leftOf ks tk).getD (2 * cntF i tk+1) default=ks.getD (2 * i+1) default∧bDa (leftOf ks tk) (2 * cntF i tk)=leftOf ks (tk.set i true)
 | 0,a::b::ks,x::tk,hl,hi,hx=>by
   simp only [fS] at hx
   subst hx
   simp [leftOf,cntF,bDa]
 | i + 1,a::b::ks,x::tk,hl,hi,hx=>by
   obtain ⟨h1,h2,h3⟩:=left_at (i:=i) (ks:=ks) (tk:=tk) (by simp at hl; omega) (by simpa using hi) (by simpa using hx)
   cases x with
   | true=>
     simp only [leftOf,cntF,if_true,dL,lS]
     exact ⟨by rw [h1]; rfl,by rw [h2]; rfl,h3⟩
   | false=>
     have e:2 * (1+cntF i tk)=2 * cntF i tk+1+1:=by omega
     have e2:2 * (i+1)=2 * i+1+1:=by omega
     simp only [leftOf,cntF,if_neg (show ¬ false=true by simp),lS]
     rw [e,e2]
     refine ⟨by simpa only [dZ] using h1,by simpa only [dZ] using h2,?_⟩
     rw [bDa] at h3 ⊢
     rw [← h3,aL,aL,aU,aU]
     rfl
 | i,[a],x::tk,hl,_,_=>by simp at hl; omega
 | i,[],x::tk,hl,_,_=>by simp at hl
 | i,ks,[],_,hi,_=>by simp at hi
section
variable (A:AF) (s:eD) (key value:LTerm) (ks:List LTerm)
def F3 (w:jQ) (i:Nat) (b:Bool):List jQ × Bool:=
 ((pJ A s key value (iJ ks w) (cntF i w.tk) b).1.map fun v=>⟨v.u,w.tk.set i true⟩,(pJ A s key value (iJ ks w) (cntF i w.tk) b).2)
def jW (w:jQ):Nat→Bool→List jQ × Bool
 | 0,b=>([],b)
 | i+1,b=>if w.tk.getD i false=true then jW w i b else ((jW w i b).1++(F3 A s key value ks w i (jW w i b).2).1,(F3 A s key value ks w i (jW w i b).2).2)
def iQ:List jQ→Bool→List jQ × Bool
 | [],b=>([],b)
 | w::ws,b=>((jW A s key value ks w w.tk.length b).1++(iQ ws (jW A s key value ks w w.tk.length b).2).1,(iQ ws (jW A s key value ks w w.tk.length b).2).2)
end
section
variable {A:AF} {s:eD} {key value:LTerm} {ks:List LTerm}
theorem aMs {w:jQ} {i:Nat} {b:Bool} (hl:ks.length=2 * w.tk.length) (hi:i < w.tk.length) (hx:w.tk.getD i false=false) :
   (F3 A s key value ks w i b).1.map (iJ ks)=(pJ A s key value (iJ ks w) (cntF i w.tk) b).1:=by
 have h3:=(left_at hl hi hx).2.2
 rw [F3,pJ]
 simp only [List.map_map]
 refine iE fun u hu=>?_
 simp only [Function.comp,iJ,← h3]
theorem zR {w:jQ} {b:Bool} (hl:ks.length=2 * w.tk.length):∀ {i:Nat},i≤w.tk.length →
   ((jW A s key value ks w i b).1.map (iJ ks),(jW A s key value ks w i b).2)=mF A s key value (iJ ks w) (cntF i w.tk) b
 | 0,_=>by
   have:cntF 0 w.tk=0:=by cases w.tk <;> rfl
   rw [this]; rfl
 | i + 1,hi=>by
   have ih:=zR (b:=b) hl (i:=i) (by omega)
   rw [uY (by omega),jW]
   by_cases hx:w.tk.getD i false=true
   · rw [if_pos hx,if_pos hx]; exact ih
   · have hx':=cT.2 hx
     rw [if_neg hx,if_neg hx,mF,← ih]
     dsimp only
     rw [cB,aMs hl (by omega) hx']
     rfl
theorem V8:∀ {ws:List jQ} {b:Bool},(∀ w ∈ ws,ks.length=2 * w.tk.length) →
   ((iQ A s key value ks ws b).1.map (iJ ks),(iQ A s key value ks ws b).2)=nX A s key value (ws.map (iJ ks)) b
 | [],b,_=>rfl
 | w::ws,b,h=>by
   have hw:=h w (by simp)
   have e1:=zR (A:=A) (s:=s) (key:=key) (value:=value) (b:=b) hw (bQ _)
   have hlen:(iJ ks w).left.length / 2=cntF w.tk.length w.tk:=by rw [iJ,uM hw]; omega
   have e2:=V8 (ws:=ws) (b:=(jW A s key value ks w w.tk.length b).2) (fun x hx=>h x (by simp [hx]))
   rw [iQ,aN,nX,hlen,← e1]
   dsimp only
   rw [← e2,cB]
theorem aCa (hA:nO A) {w:jQ}:∀ i,(jW A s key value ks w i true).2=true
 | 0=>rfl
 | i + 1=>by
   rw [jW]
   split
   · exact aCa hA i
   · show (pJ A s key value _ _ _).2=true
     rw [aCa hA i]; exact hA _ _ _
theorem aCb (hA:nO A):∀ ws,(iQ A s key value ks ws true).2=true
 | []=>rfl
 | w::ws=>by
   rw [iQ]
   show (iQ A s key value ks ws _).2=true
   rw [aCa hA]; exact aCb hA ws
end

def uO (s:eD) (p t:LTerm) (u:LSub):LSub × Bool:=
 if p.kind=6 then (if lZ s (oF s t) p.sort=true then (if p.text=[95] then (u,true) else match mOf u p.text with
   | some o=>(u,decide (o=t))
   | none=>(aEz u p.text t,true)) else ([],false)) else (u,decide (p=t))
theorem Y3 {s:eD} {p t:LTerm} {u:LSub}:iP s p t u=if (uO s p t u).2=true then [(uO s p t u).1] else []:=by
 rw [iP,uO]
 split
 · rw [mP]
   split
   · split
     · rfl
     · cases mOf u p.text with
       | none=>rfl
       | some o=>by_cases h:o=t <;> simp [h]
   · rfl
 · by_cases h:p=t <;> simp [h]
theorem bIq {h:List AObj} {b:Bool}:Vo.Fin h (.tup [.e0,.b b]) (.tup [avu [],.b b]):=.inr ⟨⟨rfl,rfl,trivial⟩,fJ,fun i hi=>by cases hi⟩
theorem aFk {h:List AObj} {u:LSub} {n:Nat} {b:Bool} (hn:n=u.length):Vo.Fin h (.tup [.sl (u.flatMap prT) n,.b b]) (.tup [avu u,.b b]):=by subst hn; exact .inl ⟨rfl,by simp [pers,persL,mE]⟩
theorem aZg (s:eD) (u:LSub) (p t:LTerm) (hm:Small s) (ha:AscU u) (hu:OkU 1000000 u) (op:OkT p) (ot:OkT t): CT 168 [.agg [cC s],avu u,elT p,elT t] (.tup [avu (uO s p t u).1,.b (uO s p t u).2]):=by
 refine dN cU Tryz.func168 g0 ?_
 · generalize hR:((.tup [avu (uO s p t u).1,.b (uO s p t u).2]):AV)=R
   simp -implicitDefEqProofs (disch:=omega) only [Tryz.f168,go_sem,List.replicate,simprocAttr,avu,elT,aS]
   have c1:=aFx p t op ot
   have c2:=aAf s t
   have c3:=aIw s (oF s t) p.sort hm
   have hul:=hu.1
   have c4:=aPm u p.text ha (by omega)
   simp only [avu,cC] at c2 c3 c4
   rw [uO] at hR
   by_cases h6:p.kind=6
   · rw [if_pos h6] at hR
     by_cases hat:lZ s (oF s t) p.sort=true
     · rw [if_pos hat] at hR
       rw [hat] at c3
       by_cases hw:p.text=[95]
       · rw [if_pos hw] at hR
         simp -implicitDefEqProofs (disch:=omega) only [zt h6,aB,cC,go_sem,simprocAttr]
         (repeat' (first | refine gT ?_ ?_ | refine gF ?_ ?_ | refine gC ?_ ?_ | ((first | (refine bU (c2) ?_ ?_; (focus (simp -implicitDefEqProofs (disch:=omega) only [zt h6,zt hw,cC,aB,zdB,go_sem,simprocAttr]; done))) | (refine bU (c3) ?_ ?_; (focus (simp -implicitDefEqProofs (disch:=omega) only [zt h6,zt hw,cC,aB,zdB,go_sem,simprocAttr]; done)))); simp -implicitDefEqProofs (disch:=omega) only [zt h6,zt hw,cC,aB,go_sem,simprocAttr]) | refine bG (by omega) ?_ | (intro hr; have hc:=hr; (try simp only [zdz] at hc); simp -implicitDefEqProofs (disch:=omega) only [hr,zt h6,zt hw,cC,aB,go_sem,simprocAttr]; (try clear hr))))
         subst hR
         exact aFk rfl
       · rw [if_neg hw] at hR
         cases ho:mOf u p.text with
         | some o=>
           rw [ho] at hR c4
           rw [F4,elT,aS] at c4
           have c5:=aFx o t (aYk hu ho) ot
           simp -implicitDefEqProofs (disch:=omega) only [zt h6,aB,cC,go_sem,simprocAttr]
           (repeat' (first | refine gT ?_ ?_ | refine gF ?_ ?_ | refine gC ?_ ?_ | ((first | (refine bU (c2) ?_ ?_; (focus (simp -implicitDefEqProofs (disch:=omega) only [zt h6,zf hw,cC,aB,zdB,go_sem,simprocAttr]; done))) | (refine bU (c3) ?_ ?_; (focus (simp -implicitDefEqProofs (disch:=omega) only [zt h6,zf hw,cC,aB,zdB,go_sem,simprocAttr]; done))) | (refine bU (c4) ?_ ?_; (focus (simp -implicitDefEqProofs (disch:=omega) only [zt h6,zf hw,cC,aB,zdB,go_sem,simprocAttr]; done))) | (refine bU (c5) ?_ ?_; (focus (simp -implicitDefEqProofs (disch:=omega) only [zt h6,zf hw,cC,aB,zdB,go_sem,simprocAttr]; done)))); simp -implicitDefEqProofs (disch:=omega) only [zt h6,zf hw,cC,aB,go_sem,simprocAttr]) | refine bG (by omega) ?_ | (intro hr; have hc:=hr; (try simp only [zdz] at hc); simp -implicitDefEqProofs (disch:=omega) only [hr,zt h6,zf hw,cC,aB,go_sem,simprocAttr]; (try clear hr))))
           subst hR
           exact aFk rfl
         | none=>
           rw [ho] at hR c4
           rw [F4,elT,aS] at c4
           have c5:=aZi u p.text t ha ho (by omega)
           simp only [avu] at c5
           simp -implicitDefEqProofs (disch:=omega) only [zt h6,aB,cC,go_sem,simprocAttr]
           (repeat' (first | refine gT ?_ ?_ | refine gF ?_ ?_ | refine gC ?_ ?_ | ((first | (refine bU (c2) ?_ ?_; (focus (simp -implicitDefEqProofs (disch:=omega) only [zt h6,zf hw,cC,aB,zdB,go_sem,simprocAttr]; done))) | (refine bU (c3) ?_ ?_; (focus (simp -implicitDefEqProofs (disch:=omega) only [zt h6,zf hw,cC,aB,zdB,go_sem,simprocAttr]; done))) | (refine bU (c4) ?_ ?_; (focus (simp -implicitDefEqProofs (disch:=omega) only [zt h6,zf hw,cC,aB,zdB,go_sem,simprocAttr]; done))) | (refine bU (c5) ?_ ?_; (focus (simp -implicitDefEqProofs (disch:=omega) only [zt h6,zf hw,cC,aB,zdB,go_sem,simprocAttr]; done)))); simp -implicitDefEqProofs (disch:=omega) only [zt h6,zf hw,cC,aB,go_sem,simprocAttr]) | refine bG (by omega) ?_ | (intro hr; have hc:=hr; (try simp only [zdz] at hc); simp -implicitDefEqProofs (disch:=omega) only [hr,zt h6,zf hw,cC,aB,go_sem,simprocAttr]; (try clear hr))))
           subst hR
           exact aFk rfl
     · rw [if_neg hat] at hR
       rw [cT.2 hat] at c3
       simp -implicitDefEqProofs (disch:=omega) only [zt h6,aB,cC,go_sem,simprocAttr]
       (repeat' (first | refine gT ?_ ?_ | refine gF ?_ ?_ | refine gC ?_ ?_ | ((first | (refine bU (c2) ?_ ?_; (focus (simp -implicitDefEqProofs (disch:=omega) only [zt h6,cC,aB,zdB,go_sem,simprocAttr]; done))) | (refine bU (c3) ?_ ?_; (focus (simp -implicitDefEqProofs (disch:=omega) only [zt h6,cC,aB,zdB,go_sem,simprocAttr]; done)))); simp -implicitDefEqProofs (disch:=omega) only [zt h6,cC,aB,go_sem,simprocAttr]) | refine bG (by omega) ?_ | (intro hr; have hc:=hr; (try simp only [zdz] at hc); simp -implicitDefEqProofs (disch:=omega) only [hr,zt h6,cC,aB,go_sem,simprocAttr]; (try clear hr))))
       subst hR
       exact bIq
   · rw [if_neg h6] at hR
     simp -implicitDefEqProofs (disch:=omega) only [zf h6,aD,go_sem,simprocAttr]
     (repeat' (first | refine gT ?_ ?_ | refine gF ?_ ?_ | refine gC ?_ ?_ | ((refine bU (c1) ?_ ?_; (focus (simp -implicitDefEqProofs (disch:=omega) only [zf h6,aD,zdB,go_sem,simprocAttr]; done))); simp -implicitDefEqProofs (disch:=omega) only [zf h6,aD,go_sem,simprocAttr]) | refine bG (by omega) ?_ | (intro hr; have hc:=hr; (try simp only [zdz] at hc); simp -implicitDefEqProofs (disch:=omega) only [hr,zf h6,aD,go_sem,simprocAttr]; (try clear hr))))
     subst hR
     exact aFk rfl
end Go.Proofs.YtdjcggcjlphdoaaGreatDoor

/-
  Functions of the chapter, as plain functions of what they are given; no condition.
-/
import Derived.Test.YtdjcggcjlphdoaaGreatDoorVdP16
import Derived.Test.YtdjcggcjlphdoaaGreatDoorVaP13
import Derived.Test.YtdjcggcjlphdoaaGreatDoorVdP15
set_option maxRecDepth 100000
set_option linter.unusedSimpArgs false
set_option linter.unusedVariables false
set_option maxHeartbeats 4000000
namespace Go.Proofs.YtdjcggcjlphdoaaGreatDoor
open Go Go.Vo
open Nat (reduceAdd reduceSub reduceMul reduceLeDiff reduceLT reduceEqDiff)
open Int (reduceNeg)
section
variable {s:dX} {g:Str→Str} {p:LTerm}
end
structure cFx(s:dX)(g:Str→Str)(p:LTerm):Prop where
 nd:wfT nodeB p=true
 pw:wfT pwB p=true
 ex:wfT (exC s) p=true
 sg:wfT (sgB g) p=true
theorem aEt{x:Str}(h:eQ x=true):¬x.head? = some 95:=fun e=>by
 cases x with
 |nil=>cases e
 |cons c r=>
  cases e;rw[eQ]at h;simp only[aA]at h;exact absurd h.1.2 (by show ¬yS (at_ (95::r) 0)=true;rw[show at_ (95::r) 0=95 from rfl];decide)
theorem yP{x:Str}(h:eQ x=true):¬x=[95]:=fun e=>aEt h (by rw[e];rfl)
theorem lR{t:LTerm}(h:nodeB t=true):∀r∈t.rest,r.kind=6∧eQ r.text=true∧(r.sort=B8∨r.sort=aHi)∧r.kids=[]∧r.rest=[]:=by
 have z:∀{a b c d},gK t a b c d false=true→t.rest=[]:=fun h=>(oV h).2.2.2.2 rfl;have rb:∀{so},oH t so=true→(so=B8∨so=aHi)→∀r∈t.rest,r.kind=6∧eQ r.text=true∧(r.sort=B8∨r.sort=aHi)∧r.kids=[]∧r.rest=[]:=by
  intro so h hso r hr;obtain⟨_,z2,z3⟩:=aHy h r hr;simp only[oH,cC,aA,decide_eq_true_eq]at h;obtain⟨i,hi,rfl⟩:=dC.1 hr;rcases h with h|h
  ·omega
  ·have hi0:i=0:=by omega
   subst hi0;rw[show t.rest.getD 0 default=t.rest[0] by rw[fN,bL hi];rfl]at h;exact⟨h.1.1.1.2,h.1.1.2,by rw[h.1.2];exact hso,z2,z3⟩
 unfold nodeB at h;repeat' split at h
 all_goals try simp only[aA]at h
 all_goals first
  |exact rb h.1 (.inl rfl)
  |exact rb h.1.1 (.inr rfl)
  |(rw[z h.2];intro r hr;cases hr)
  |cases h
theorem cCy{s:dX}:∀(p:LTerm),wfT nodeB p=true→yX p=true→tG s p=true→wfT pwB p=true∧wfT (exC s) p=true:=
 fH (Q := fun p=>wfT nodeB p=true→yX p=true→tG s p=true→wfT pwB p=true∧wfT (exC s) p=true) fun t hk _ hw hkr hf=>by
  have hw':=gS.1 hw;rw[aMs,nM]at hkr;have hk1:∀j,j<t.kids.length→yX (t.kids.getD j default)=true∧bPg (decide (t.kind=8)) j (t.kids.getD j default)=true:=fun j hj=>by
   have:=hkr j hj;rwa[aA]at this
  rw[aNa,aA,bF]at hf;have IH:∀k∈t.kids,wfT pwB k=true∧wfT (exC s) k=true:=fun k hm=>by
   obtain⟨j,hj,rfl⟩:=dC.1 hm;have e:t.kids[j]=t.kids.getD j default:=by simp[List.getD,hj]
   exact hk _ hm (hw'.2 _ hm) (by rw[e];exact(hk1 j hj).1) (hf.1 _ hm)
  have hrn:=lR hw'.1;refine⟨gS.2 ⟨?_,fun k hm=>(IH k hm).1⟩,gS.2 ⟨?_,fun k hm=>(IH k hm).2⟩⟩
  ·rw[pwB,aA]
   constructor
   ·rw[cC,aA];exact .inr ⟨zt (kQ t hw'.1),bF.2 fun r hr=>zt (hrn r hr).1⟩
   ·by_cases h8:t.kind=8
    ·rw[zt h8,aN,cU,aA,bF,decide_eq_true_eq];refine⟨aVs hw'.1 h8,fun i hi=>?_⟩;rw[fE]at hi;have h2:=(hk1 (2*i) (by omega)).2;rw[bPg,zt h8,aI,zt (by omega:2*i % 2=0),aI]at h2;by_cases h6:(t.kids.getD (2*i) default).kind=6
     ·rw[zt h6,bC]
     ·rw[zf h6,aS,bC,bA,Bool.not_not]at h2;rw[h2,bD]
    ·rw[zf h8];rfl
  ·rw[exC,aA,bF]
   refine⟨?_,fun r hr=>?_⟩
   ·by_cases h6:t.kind=6
    ·have:=hf.2;rw[if_pos h6]at this;rw[this,bD]
    ·rw[zf h6];rfl
   ·obtain⟨_,_,h3,h4,h5⟩:=hrn r hr;rw[h4,h5,bFz (by rcases h3 with e|e<;>rw[e]<;>decide)];rfl
theorem cCp{g:Str→Str}:∀(t:LTerm),wfT nodeB t=true→∀d:Int,((vis t d).any fun v=>isV v.1 && !decide (v.1.sort=g v.1.text))=false→wfT (sgB g) t=true:=
 fH (Q := fun t=>wfT nodeB t=true→∀d:Int,((vis t d).any fun v=>isV v.1 && !decide (v.1.sort=g v.1.text))=false→wfT (sgB g) t=true) fun t hk _ hw d h=>by
  have hw':=gS.1 hw;rw[uY (f:=fun x=>isV x && !decide (x.sort=g x.text)),gR,fQ]at h;have one:∀x:LTerm,(isV x && !decide (x.sort=g x.text))=false→x.kind=6→x.text=[95]∨x.sort=g x.text:=fun x hx h6=>by
   rw[isV,zt h6,aI]at hx;by_cases hw:x.text=[95]
   ·exact .inl hw
   ·rw[zf hw]at hx;exact .inr (by simpa using hx)
  refine gS.2 ⟨?_,fun k hm=>hk k hm (hw'.2 k hm) (d+1) (by have:=h.2 k (dK _ hm);simpa using this)⟩;rw[sgB,aA,bF];refine⟨?_,fun r hr=>?_⟩
  ·by_cases h6:t.kind=6
   ·have:=one t h.1 h6;simp[this]
   ·rw[zf h6];rfl
  ·have hr2:=h.2 r (eO _ hr);rw[xR,uY (f:=fun x=>isV x && !decide (x.sort=g x.text)),gR]at hr2;have:=one r hr2.1 (lR hw'.1 r hr).1;simp[this]
theorem bBq:∀(t:LTerm),wfT nodeB t=true→∀d:Int,((vis t d).any fun v=>isV v.1&&decide (v.1.text.head? = some 95))=false:=
 fH (Q := fun t=>wfT nodeB t=true→∀d:Int,((vis t d).any fun v=>isV v.1&&decide (v.1.text.head? = some 95))=false) fun t hk _ hw d=>by
  have hw':=gS.1 hw;have one:∀x:LTerm,(x.kind=6→x.text=[95]∨x.text=[36]∨eQ x.text=true)→(isV x&&decide (x.text.head? = some 95))=false:=fun x hx=>by
   by_cases h6:x.kind=6
   ·rcases hx h6 with e|e|e
    ·simp[isV,e]
    ·simp[e]
    ·rw[zf (aEt e),aM]
   ·simp[isV,h6]
  rw[uY (f:=fun x=>isV x&&decide (x.text.head? = some 95)),gR,fQ];refine⟨one t fun h6=>?_,fun k hm=>?_⟩
  ·have:=hw'.1;simp only[nodeB,h6,Int.reduceEq,if_true,if_false]at this;split at this
   ·rename_i ho;simp only[yM,cC,decide_eq_true_eq]at ho;rcases ho with e|e
    ·exact .inl e
    ·exact .inr (.inl e)
   ·simp only[aA]at this;exact .inr (.inr this.1.1)
  ·rw[xR];rcases bM.1 hm with hm|hm
   ·exact hk k hm (hw'.2 k hm) (d+1)
   ·obtain⟨r1,r2,_,r4,r5⟩:=lR hw'.1 k hm;rw[uY (f:=fun x=>isV x&&decide (x.text.head? = some 95)),r4,r5,one k fun _=>.inr (.inr r2)];rfl
theorem bUs{s:dX}{p:LTerm}(z:Str)(h:aAm s p=true):∃g:Str→Str,cFx s (fun x=>if x.head? = some 95 then z else g x) p:=by
 rw[aAm,aA,bDr,cDc]at h;simp only[aA,eF]at h;obtain⟨_,⟨hV,hf⟩,_,hk,_,ho⟩:=h;have hw:=oF hV;obtain⟨h1,h2⟩:=cCy p hw hk hf;have hc:=(aVk (l:=J6 p) (fun a ha b hb e=>aUw (xV hw ha) (xV hw hb) e)).1 ho;let g:Str→Str:=fun x=>match (J6 p).find? fun v=>decide (v.text=x)with
  |some v=>v.sort
  |none=>[]
 have hg:∀v∈J6 p,v.sort=g v.text:=fun v hv=>by
  show v.sort=match (J6 p).find? fun w=>decide (w.text=v.text)with|some v=>v.sort|none=>[]
  cases hx:(J6 p).find? fun w=>decide (w.text=v.text)with
  |none=>
   rw[J0]at hx;exact absurd (zt rfl) (hx v hv)
  |some w=>
   have hw1:=List.find?_some hx;have hw2:=lN hx;simp only[decide_eq_true_eq]at hw1;exact hc _ (dS.2 ⟨v,hv,rfl⟩) _ (dS.2 ⟨w,hw2,rfl⟩) hw1.symm
 refine⟨g,hw,h1,h2,cCp p hw 1 ?_⟩;rw[fQ];intro v hv hb;rw[aA]at hb;have hm:v.1∈J6 p:=jV.2 ⟨dS.2 ⟨v,hv,rfl⟩,hb.1⟩;have h6:=(xV hw hm).2;have hw0:¬v.1.text=[95]:=by have:=hb.1;rw[isV,aA]at this;simpa using this.2
 have hh:¬v.1.text.head? = some 95:=by
  have:=fQ.1 (bBq p hw 1) v hv;rw[hb.1,aI,decide_eq_true_eq]at this;exact this
 have e:v.1.sort=(if v.1.text.head? = some 95 then z else g v.1.text):=by rw[if_neg hh];exact hg _ hm
 have h9:=hb.2;rw[← e]at h9;simp at h9
end Go.Proofs.YtdjcggcjlphdoaaGreatDoor

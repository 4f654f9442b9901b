/-
  Functions of the chapter, as plain functions of what they are given; no condition.
-/
import Derived.Test.YtdjcggcjlphdoaaGreatDoorTeP14
import Derived.Test.YtdjcggcjlphdoaaGreatDoorTeP13
set_option maxRecDepth 100000
set_option linter.unusedSimpArgs false
set_option linter.unusedVariables false
set_option maxHeartbeats 4000000
namespace Go.Proofs.YtdjcggcjlphdoaaGreatDoor
open Go Go.Vo
open Nat (reduceAdd reduceSub reduceMul reduceLeDiff reduceLT reduceEqDiff)
open Int (reduceNeg)

mutual
def vis:LTerm→Int→List (LTerm × Int)
 | .mk k n x s ks rs,d=>(.mk k n x s ks rs,d)::(visL ks (d+1)++visL rs (d+1))
def visL:List LTerm→Int→List (LTerm × Int)
 | [],_=>[]
 | t::l,d=>vis t d++visL l d
end
theorem pA:∀ {l m:List LTerm} {d:Int},visL (l++m) d=visL l d++visL m d
 | [],m,d=>rfl
 | t::l,m,d=>by rw [aI,visL,visL,pA,cD]
theorem wY (t:LTerm) (d:Int):vis t d=(t,d)::visL (t.kids++t.rest) (d+1):=by cases t; rw [vis,pA]; rfl
theorem aKh {l:List LTerm} {k:Nat} {d:Int} (h:k < l.length):visL (l.drop k) d=vis (l.getD k default) d++visL (l.drop (k+1)) d:=by
 rw [eX h,visL]; simp [List.getD,h]
def xY {α:Type} (φ:LTerm × Int→α→α) (a:α) (l:List (LTerm × Int)):α:=l.foldl (fun a v=>φ v a) a
theorem aBi {α:Type} {φ:LTerm × Int→α→α} {a:α} {l m:List (LTerm × Int)}:xY φ a (l++m)=xY φ (xY φ a l) m:=by simp [xY,List.foldl_append]
theorem bGh:∀ (t:LTerm),OkT t→∀ (d:Int),∀ v ∈ vis t d,OkT v.1:=
 iR fun t hk hr ht d v hv=>by
   have L:∀ (l:List LTerm),(∀ x ∈ l,OkT x∧∀ (d:Int),∀ v ∈ vis x d,OkT v.1)→∀ v ∈ visL l (d+1),OkT v.1:=by
     intro l
     induction l with
     | nil=>intro _ v hv; simp [visL] at hv
     | cons x l ih=>
       intro h v hv
       rw [visL,cR] at hv
       rcases hv with hv | hv
       · exact (h x (by simp)).2 _ v hv
       · exact ih (fun y hy=>h y (by simp [hy])) v hv
   rw [wY,dE] at hv
   rcases hv with rfl | hv
   · exact ht
   · refine L _ (fun x hx=>?_) v hv
     rcases cR.1 hx with hx | hx
     · exact ⟨ht.kid x hx,hk x hx (ht.kid x hx)⟩
     · exact ⟨ht.rst x hx,hr x hx (ht.rst x hx)⟩

theorem I6 {t:LTerm} (h:eG t=true):t.rest=[]∨∃ r,t.rest=[r]∧r.kids=[]∧r.rest=[]:=by
 have h1:=wB t h
 have h2:=W9 h
 rcases hr:t.rest with _ | ⟨x,_ | ⟨y,l⟩⟩
 · exact .inl rfl
 · rw [hr] at h2
   exact .inr ⟨x,rfl,(h2 x (by simp)).2⟩
 · rw [hr] at h1; simp at h1
theorem L3 {r:LTerm} (h1:r.kids=[]) (h2:r.rest=[]) (d:Int):vis r d=[(r,d)]:=by rw [wY,h1,h2]; rfl
theorem S5 {t:LTerm} (h:eG t=true) (d:Int):visL t.rest d=t.rest.map fun r=>(r,d):=by
 rcases I6 h with e | ⟨r,e,h1,h2⟩
 · rw [e]; rfl
 · rw [e,visL,L3 h1 h2]; rfl
theorem eI (t:LTerm):nodesT t=1+t.rest.length+nodesL t.kids:=by cases t; rw [nodesT]; rfl
theorem aFg (t:LTerm):highT t=1+max t.rest.length (highL t.kids):=by cases t; rw [highT]; rfl
theorem lM:∀ (l:List LTerm),l.length≤nodesL l
 | []=>bQ _
 | t::l=>by rw [nodesL,bH,eI]; have:=lM l; omega
theorem bAj:∀ (t:LTerm),wfT eG t=true→∀ d:Int,(vis t d).length=nodesT t:=
 iR fun t hk _ hw d=>by
   rw [kS] at hw
   have L:∀ (l:List LTerm),(∀ x ∈ l,∀ d:Int,(vis x d).length=nodesT x)→(visL l (d+1)).length=nodesL l:=by
     intro l
     induction l with
     | nil=>intro _; rfl
     | cons x l ih=>intro h; rw [visL,nodesL,List.length_append,h x (by simp),ih (fun y hy=>h y (by simp [hy]))]
   rw [wY,pA,eI,bH,List.length_append,L _ (fun x hx=>hk x hx (hw.2 x hx)),S5 hw.1,dC]
   omega
structure bSz (t:LTerm) (d:Int) (v:LTerm × Int):Prop where
 lo:d≤v.2
 hi:v.2+1≤d+highT t
 len:v.1.kids.length+v.1.rest.length≤nodesT t
theorem bAk:∀ (t:LTerm),wfT eG t=true→∀ d:Int,∀ v ∈ vis t d,bSz t d v:=
 iR fun t hk _ hw d v hv=>by
   rw [kS] at hw
   rw [wY,pA,dE,cR,S5 hw.1,gK] at hv
   have hn:=eI t
   have hh:=aFg t
   have hl:=lM t.kids
   rcases hv with rfl | hv | ⟨r,hr,rfl⟩
   · exact ⟨Int.le_refl _,by dsimp only; omega,by dsimp only; omega⟩
   · have L:∀ (l:List LTerm),(∀ x ∈ l,∀ d:Int,∀ v ∈ vis x d,bSz x d v)→v ∈ visL l (d+1)→d+1≤v.2∧v.2≤d+highL l∧v.1.kids.length+v.1.rest.length≤nodesL l:=by
       intro l
       induction l with
       | nil=>intro _ h; simp [visL] at h
       | cons x l ih=>
         intro h hv
         rw [highL,nodesL]
         rw [visL,cR] at hv
         rcases hv with hv | hv
         · have b:=h x (by simp) _ v hv
           have b1:=b.lo
           have b2:=b.hi
           have b3:=b.len
           exact ⟨b1,by omega,by omega⟩
         · have b:=ih (fun y hy=>h y (by simp [hy])) hv
           omega
     have b:=L _ (fun x hx=>hk x hx (hw.2 x hx)) hv
     exact ⟨by omega,by omega,by omega⟩
   · have e:t.rest.length=1∧r.kids=[]∧r.rest=[]:=by
       rcases I6 hw.1 with e | ⟨r',e,h1,h2⟩
       · rw [e] at hr; cases hr
       · rw [e] at hr; obtain rfl:=bV.1 hr; rw [e]; exact ⟨rfl,h1,h2⟩
     refine ⟨by dsimp only; omega,by dsimp only; omega,?_⟩
     dsimp only
     rw [e.2.1,e.2.2]; simp
def bXe (a:Int) (l:List (LTerm × Int)):Prop:=(0≤a∧a+l.length≤1000000)∧∀ v ∈ l,0≤v.2∧v.2≤1000∧v.1.kids.length+v.1.rest.length≤1000000
theorem aKg {t:LTerm} (h:kV eG t=true):bXe 0 (vis t 1++[]):=by
 rw [List.append_nil]
 simp only [kV,aE,decide_eq_true_eq] at h
 refine ⟨⟨Int.le_refl _,by rw [bAj t h.1.1]; omega⟩,fun v hv=>?_⟩
 have b:=bAk t h.1.1 1 v hv
 have b1:=b.lo
 have b2:=b.hi
 have b3:=b.len
 exact ⟨by omega,by omega,by omega⟩

def F9 (m:List (Str × Str)) (x:Str):Option Str:=(m.find? fun p=>decide (x=p.1)).map (·.2)
theorem bFt {m:List (Str × Str)} {p:Str × Str} {x:Str}:F9 (m++[p]) x=match F9 m x with | some y=>some y | none=>if x=p.1 then some p.2 else none:=by
 unfold F9
 rw [List.find?_append]
 cases h:m.find? fun p=>decide (x=p.1) with
 | some q=>rfl
 | none=>
   simp only [Option.none_or,aDq,List.find?_nil,Option.map_none]
   by_cases hx:x=p.1 <;> simp [hx]
def bOa (r:List (Str × Str) × Str) (x:Str × Str):List (Str × Str) × Str:=
 match F9 r.1 x.1 with
 | some old=>if old ≠ x.2∧(r.2=[]∨x.1 < r.2) then (r.1,x.1) else r
 | none=>(r.1++[x],r.2)
def bHt (t:LTerm):Str × Str:=(t.text,t.sort)

def aIp (s:eD) (v:LTerm × Int) (b:Bool):Bool:=if v.1.kind=5 then b || (nI s v.1.text).2.1 else b
def aYq (k:LTerm):Bool:=A5 k || (decide (k.kind=6) && !decide (k.text=[95]))
def lO (l:List LTerm) (n:Nat):Bool:=aJo n fun j=>aYq (l.getD (2 * j) default)
def N1 (t:LTerm):Bool := !(decide (t.kind=6) && decide (t.text=[36])) && (!decide (t.kind=8) || lO t.kids ((t.kids.length+1) / 2))
def aTl (v:LTerm × Int) (b:Bool):Bool:=b && N1 v.1
def isV (t:LTerm):Bool:=decide (t.kind=6) && !decide (t.text=[95])
def aLd (v:LTerm × Int) (r:List (Str × Str) × Str):List (Str × Str) × Str:=if isV v.1=true then bOa r (bHt v.1) else r
theorem aVf (s:eD):∀ (l:List (LTerm × Int)) (b:Bool),xY (aIp s) b l=(b || l.any fun v=>decide (v.1.kind=5) && (nI s v.1.text).2.1)
 | [],b=>by simp [xY]
 | v::l,b=>by
   show xY (aIp s) (aIp s v b) l=_
   rw [aVf s l,eP,aIp]
   by_cases h:v.1.kind=5 <;> simp [h,lF]
theorem aEp:∀ (l:List (LTerm × Int)) (b:Bool),xY aTl b l=(b && l.all fun v=>N1 v.1)
 | [],b=>by simp [xY]
 | v::l,b=>by
   show xY aTl (aTl v b) l=_
   rw [aEp l,mV,aTl,sG]
mutual
def bPa (s:eD):LTerm→Bool
 | .mk k n x so ks rs=>(decide (k=5) && (s.ops.find? fun o=>decide (o.name=x)).isNone) || hasFRL s ks
def hasFRL (s:eD):List LTerm→Bool
 | []=>false
 | t::l=>bPa s t || hasFRL s l
end
def bDh (m:Bool) (i:Nat) (k:LTerm):Bool := !(m && decide (i % 2=0) && !A5 k && (!decide (k.kind=6) || !fV k.text))
mutual
def A3:LTerm→Bool
 | .mk k n x so ks rs=>keysRL (decide (k=8)) 0 ks
def keysRL (m:Bool) (i:Nat):List LTerm→Bool
 | []=>true
 | t::l=>(A3 t && bDh m i t) && keysRL m (i+1) l
end
theorem Y6 (m:Bool):∀ (l:List LTerm) (i:Nat),keysRL m i l=aJo l.length fun j=>A3 (l.getD j default) && bDh m (i+j) (l.getD j default)
 | [],i=>rfl
 | t :: l,i=>by
   rw [keysRL,Y6 m l]
   rw [fT,aE,sD,sD]
   constructor
   · rintro ⟨h1,h2⟩ j hj
     cases j with
     | zero=>exact h1
     | succ j=>
       have:=h2 j (by simpa using hj)
       rw [show i+(j+1)=i+1+j by omega]
       exact this
   · intro h
     refine ⟨h 0 (by simp),fun j hj=>?_⟩
     have:=h (j+1) (by simpa using hj)
     rw [show i+(j+1)=i+1+j by omega] at this
     exact this
theorem aFf (t:LTerm):A3 t=aJo t.kids.length fun j=>A3 (t.kids.getD j default) && bDh (decide (t.kind=8)) j (t.kids.getD j default):=by
 cases t; rw [A3,Y6]; simp only [dL]; rfl
theorem aRh {f:LTerm→Bool} (t:LTerm) (d:Int):((vis t d).any fun v=>f v.1)=(f t || ((t.kids++t.rest).any fun k=>(vis k (d+1)).any fun v=>f v.1)):=by
 have L:∀ (l:List LTerm) (d:Int),((visL l d).any fun v=>f v.1)=l.any fun k=>(vis k d).any fun v=>f v.1:=by
   intro l
   induction l with
   | nil=>intro d; rfl
   | cons x l ih=>intro d; rw [visL,List.any_append,ih,eP]
 rw [wY,eP,L]
theorem bFh {f:LTerm→Bool} (t:LTerm) (d:Int):((vis t d).all fun v=>f v.1)=(f t && ((t.kids++t.rest).all fun k=>(vis k (d+1)).all fun v=>f v.1)):=by
 have L:∀ (l:List LTerm) (d:Int),((visL l d).all fun v=>f v.1)=l.all fun k=>(vis k d).all fun v=>f v.1:=by
   intro l
   induction l with
   | nil=>intro d; rfl
   | cons x l ih=>intro d; rw [visL,List.all_append,ih,mV]
 rw [wY,mV,L]
theorem U0 {t r:LTerm} (h:eG t=true) (hr:r ∈ t.rest):r.kind=6∧fV r.text=true∧r.kids=[]∧r.rest=[]:=by
 have h2:=W9 h r hr
 refine ⟨?_,?_,h2.2.1,h2.2.2⟩
 all_goals
   have z0:∀ {a b c d},gO t a b c d false=true→t.rest=[]:=by
     intro a b c d h
     simp only [gO,aE,cN,decide_eq_true_eq,aG,false_or] at h
     exact h.2
   have r0:∀ {s},qU t s=true→r.kind=6∧fV r.text=true:=by
     intro s h
     simp only [qU,aE,cN,decide_eq_true_eq] at h
     have hl:0 < t.rest.length:=List.length_pos_of_mem hr
     rcases h with h | h
     · omega
     · obtain ⟨⟨⟨⟨h1,hk⟩,hn⟩,_⟩,_⟩:=h
       have hx:∃ x,t.rest=[x]:=List.length_eq_one_iff.1 h1
       obtain ⟨x,hx⟩:=hx
       rw [hx] at hr hk hn
       rw [bV] at hr; subst hr
       exact ⟨hk,hn⟩
   have hh:=h
   unfold eG at hh
   repeat' split at hh
   all_goals try simp only [aE] at hh
   all_goals first
     | exact absurd hr (by rw [z0 hh.2]; simp)
     | exact (r0 hh.1).1
     | exact (r0 hh.1).2
     | exact (r0 hh.1.1).1
     | exact (r0 hh.1.1).2
     | cases hh
def dol (t:LTerm) (d:Int):Bool:=(vis t d).any fun v=>decide (v.1.kind=6) && decide (v.1.text=[36])
theorem aPe:fV [36]=false:=by decide +kernel
theorem bAm:fV [95]=false:=by decide +kernel
theorem aZc {t:LTerm} {d:Int} (h:dol t d=false):¬ (t.kind=6∧t.text=[36]):=by
 unfold dol at h
 rw [aRh (f:=fun x=>decide (x.kind=6) && decide (x.text=[36])),tP] at h
 intro q
 have:=h.1
 simp [q.1,q.2] at this
theorem aDv {k:LTerm} (h:eG k=true) (h6:k.kind=6) (hd:¬ k.text=[36]):fV k.text = !decide (k.text=[95]):=by
 by_cases h5:k.text=[95]
 · rw [h5,bAm]; simp
 · have:M8 k.text=false:=by simp [M8,h5,hd]
   have hh:eG k=(if M8 k.text=true then decide (k.sort=bQz) && gO k false true true false false else fV k.text && fV k.sort && gO k false true true false false):=by simp only [eG,h6,Int.reduceEq,if_false,if_true]
   rw [hh,this,if_neg (by simp)] at h
   simp only [aE] at h
   rw [h.1.1]; simp [h5]
theorem aNw:∀ t:LTerm,wfT eG t=true→∀ d:Int,((vis t d).all fun v=>N1 v.1)=(!dol t d && A3 t):=
 iR (Q := fun t=>wfT eG t=true→∀ d:Int,((vis t d).all fun v=>N1 v.1)=(!dol t d && A3 t)) fun t hk hr hw d=>by
   have hw':=kS.1 hw
   have ek:(t.kids.all fun k=>(vis k (d+1)).all fun v=>N1 v.1)=(t.kids.all fun k => !dol k (d+1) && A3 k):=by
     rw [fT,bL,bL]
     exact ⟨fun h k hm=>by rw [← hk k hm (hw'.2 k hm) (d+1)]; exact h k hm,fun h k hm=>by rw [hk k hm (hw'.2 k hm) (d+1)]; exact h k hm⟩
   have er:(t.rest.all fun k=>(vis k (d+1)).all fun v=>N1 v.1)=true:=by
     rw [bL]
     intro r hm
     obtain ⟨h6,hn,h1,h2⟩:=U0 hw'.1 hm
     rw [L3 h1 h2]
     have:¬ r.text=[36]:=fun e=>by rw [e,aPe] at hn; cases hn
     simp [N1,h6,this]
   have dr:(t.rest.any fun k=>(vis k (d+1)).any fun v=>decide (v.1.kind=6) && decide (v.1.text=[36]))=false:=by
     rw [List.any_eq_false]
     intro r hm
     obtain ⟨h6,hn,h1,h2⟩:=U0 hw'.1 hm
     rw [L3 h1 h2]
     have:¬ r.text=[36]:=fun e=>by rw [e,aPe] at hn; cases hn
     simp [this]
   have ed:dol t d=((decide (t.kind=6) && decide (t.text=[36])) || t.kids.any fun k=>dol k (d+1)):=by
     unfold dol
     rw [aRh (f:=fun x=>decide (x.kind=6) && decide (x.text=[36])),List.any_append,dr,aH]
   rw [bFh,List.all_append,ek,er,aX,ed,aFf]
   rw [fT]
   simp only [N1,aE,fL,tP,cN,bL,List.any_eq_false,sD]
   constructor
   · rintro ⟨⟨h1,h2⟩,h3⟩
     refine ⟨⟨h1,fun k hm=>by simpa using (h3 k hm).1⟩,fun j hj=>?_⟩
     have hm:=cQ (d:=default) hj
     refine ⟨(h3 _ hm).2,?_⟩
     unfold bDh
     by_cases h8:t.kind=8
     · by_cases he:j % 2=0
       · rcases h2 with h2 | h2
         · simp [h8] at h2
         · unfold lO at h2
           rw [sD] at h2
           have q:=h2 (j / 2) (by omega)
           rw [show 2 * (j / 2)=j by omega] at q
           have hd:=aZc (h3 _ hm).1
           generalize t.kids.getD j default=k at *
           unfold aYq at q
           by_cases hkk:A5 k=true
           · simp [hkk]
           · simp only [Bool.not_eq_true] at hkk
             rw [hkk,cO,aE,decide_eq_true_eq] at q
             have hv:=aDv (kS.1 (hw'.2 _ hm)).1 q.1 (fun e=>hd ⟨q.1,e⟩)
             rw [hv,q.2]; simp [q.1]
       · simp [he]
     · simp [h8]
   · rintro ⟨⟨h1,h2⟩,h3⟩
     have hall:∀ k ∈ t.kids,dol k (d+1)=false∧A3 k=true:=fun k hm=>by
       obtain ⟨j,hj,he⟩:=dU.1 hm
       have:=(h3 j hj).1
       rw [show t.kids.getD j default=k by simp [List.getD,hj,he]] at this
       exact ⟨by simpa using h2 k hm,this⟩
     refine ⟨⟨h1,?_⟩,hall⟩
     by_cases h8:t.kind=8
     · right
       unfold lO
       rw [sD]
       intro j hj
       have hj2:2 * j < t.kids.length:=by omega
       have q:=(h3 (2 * j) hj2).2
       have hm:=cQ (d:=default) hj2
       have hd:=aZc (hall _ hm).1
       generalize t.kids.getD (2 * j) default=k at *
       unfold bDh at q
       unfold aYq
       by_cases hkk:A5 k=true
       · simp [hkk]
       · simp only [Bool.not_eq_true] at hkk
         simp only [h8,decide_true,hkk,aD,aX,aO,show 2 * j % 2=0 by omega,fL,tP,decide_eq_false_iff_not,Decidable.not_not] at q
         have q1:k.kind=6:=by simpa using q.1
         have q2:fV k.text=true:=by simpa using q.2
         have hv:=aDv (kS.1 (hw'.2 _ hm)).1 q1 (fun e=>hd ⟨q1,e⟩)
         rw [hv] at q2
         simp [q1,q2]
     · left; simp [h8]

structure LTest where
 op:Int
 term:LTerm
 text:Str
 n:Int
structure bMv where
 path:List Int
 test:LTest
instance:Inhabited LTest:=⟨⟨0,default,[],0⟩⟩
instance:Inhabited bMv:=⟨⟨[],default⟩⟩

section
variable {k:Nat} {l:List bMv}
end


abbrev zT:LTerm:=.mk 0 0 [] [] [] []
end Go.Proofs.YtdjcggcjlphdoaaGreatDoor

/-
  What functions of the chapter return, as plain functions of what they are given; no condition beyond those that each theorem names.
-/
import Derived.Test.YtifefbhllfdmlaaGreatDoorTeP104
import Derived.Test.YtifefbhllfdmlaaGreatDoorTeP103
set_option maxRecDepth 100000
set_option linter.unusedSimpArgs false
set_option linter.unusedVariables false
set_option maxHeartbeats 4000000
namespace Go.Proofs.YtifefbhllfdmlaaGreatDoor
open Go Go.Vo
open Nat (reduceAdd reduceSub reduceMul reduceLeDiff reduceLT reduceEqDiff)
open Int (reduceNeg)

mutual
def vis:LTerm→Int→List (LTerm × Int)
 | .mk k n x s ks rs,d=>(.mk k n x s ks rs,d)::(visL ks (d+1)++visL rs (d+1))
def visL:List LTerm→Int→List (LTerm × Int)
 | [],_=>[]
 | t::l,d=>vis t d++visL l d
end
theorem jZ:∀ {l m:List LTerm} {d:Int},visL (l++m) d=visL l d++visL m d
 | [],m,d=>rfl
 | t::l,m,d=>by rw [cC,visL,visL,jZ,bS]
theorem mT (t:LTerm) (d:Int):vis t d=(t,d)::visL (t.kids++t.rest) (d+1):=by cases t; rw [vis,jZ]; rfl
theorem wM {l:List LTerm} {k:Nat} {d:Int} (h:k < l.length):visL (l.drop k) d=vis (l.getD k default) d++visL (l.drop (k+1)) d:=by
 rw [bR h,visL]; simp [List.getD,h]
def xL {α:Type} (φ:LTerm × Int→α→α) (a:α) (l:List (LTerm × Int)):α:=l.foldl (fun a v=>φ v a) a
theorem aBg {α:Type} {φ:LTerm × Int→α→α} {a:α} {l m:List (LTerm × Int)}:xL φ a (l++m)=xL φ (xL φ a l) m:=by simp [xL,mO]
theorem aYt:∀ (t:LTerm),OkT t→∀ (d:Int),∀ v ∈ vis t d,OkT v.1:=
 dK fun t hk hr ht d v hv=>by
   have L:∀ (l:List LTerm),(∀ x ∈ l,OkT x∧∀ (d:Int),∀ v ∈ vis x d,OkT v.1)→∀ v ∈ visL l (d+1),OkT v.1:=by
     intro l
     induction l with
     | nil=>intro _ v hv; simp [visL] at hv
     | cons x l ih=>
       intro h v hv
       rw [visL,bC] at hv
       rcases hv with hv | hv
       · exact (h x (by simp)).2 _ v hv
       · exact ih (fun y hy=>h y (by simp [hy])) v hv
   rw [mT,cD] at hv
   rcases hv with rfl | hv
   · exact ht
   · refine L _ (fun x hx=>?_) v hv
     rcases bC.1 hx with hx | hx
     · exact ⟨ht.kid x hx,hk x hx (ht.kid x hx)⟩
     · exact ⟨ht.rst x hx,hr x hx (ht.rst x hx)⟩

theorem J4 {t:LTerm} (h:cP t=true):t.rest=[]∨∃ r,t.rest=[r]∧r.kids=[]∧r.rest=[]:=by
 have h1:=pJ t h
 have h2:=C0 h
 rcases hr:t.rest with _ | ⟨x,_ | ⟨y,l⟩⟩
 · exact .inl rfl
 · rw [hr] at h2
   exact .inr ⟨x,rfl,(h2 x (by simp)).2⟩
 · rw [hr] at h1; simp at h1
theorem uG {r:LTerm} (h1:r.kids=[]) (h2:r.rest=[]) (d:Int):vis r d=[(r,d)]:=by rw [mT,h1,h2]; rfl
theorem S6 {t:LTerm} (h:cP t=true) (d:Int):visL t.rest d=t.rest.map fun r=>(r,d):=by
 rcases J4 h with e | ⟨r,e,h1,h2⟩
 · rw [e]; rfl
 · rw [e,visL,uG h1 h2]; rfl
theorem gL (t:LTerm):nodesT t=1+t.rest.length+nodesL t.kids:=by cases t; rw [nodesT]; rfl
theorem qM (t:LTerm):highT t=1+max t.rest.length (highL t.kids):=by cases t; rw [highT]; rfl
theorem sM:∀ (l:List LTerm),l.length≤nodesL l
 | []=>bA _
 | t::l=>by rw [nodesL,aL,gL]; have:=sM l; omega
theorem bBo:∀ (t:LTerm),wfT cP t=true→∀ d:Int,(vis t d).length=nodesT t:=
 dK fun t hk _ hw d=>by
   rw [mE] at hw
   have L:∀ (l:List LTerm),(∀ x ∈ l,∀ d:Int,(vis x d).length=nodesT x)→(visL l (d+1)).length=nodesL l:=by
     intro l
     induction l with
     | nil=>intro _; rfl
     | cons x l ih=>intro h; rw [visL,nodesL,List.length_append,h x (by simp),ih (fun y hy=>h y (by simp [hy]))]
   rw [mT,jZ,gL,aL,List.length_append,L _ (fun x hx=>hk x hx (hw.2 x hx)),S6 hw.1,dW]
   omega
structure bVj (t:LTerm) (d:Int) (v:LTerm × Int):Prop where
 lo:d≤v.2
 hi:v.2+1≤d+highT t
 len:v.1.kids.length+v.1.rest.length≤nodesT t
theorem bBp:∀ (t:LTerm),wfT cP t=true→∀ d:Int,∀ v ∈ vis t d,bVj t d v:=
 dK fun t hk _ hw d v hv=>by
   rw [mE] at hw
   rw [mT,jZ,cD,bC,S6 hw.1,dQ] at hv
   have hn:=gL t
   have hh:=qM t
   have hl:=sM t.kids
   rcases hv with rfl | hv | ⟨r,hr,rfl⟩
   · exact ⟨Int.le_refl _,by dsimp only; omega,by dsimp only; omega⟩
   · have L:∀ (l:List LTerm),(∀ x ∈ l,∀ d:Int,∀ v ∈ vis x d,bVj x d v)→v ∈ visL l (d+1)→d+1≤v.2∧v.2≤d+highL l∧v.1.kids.length+v.1.rest.length≤nodesL l:=by
       intro l
       induction l with
       | nil=>intro _ h; simp [visL] at h
       | cons x l ih=>
         intro h hv
         rw [highL,nodesL]
         rw [visL,bC] at hv
         rcases hv with hv | hv
         · have b:=h x (by simp) _ v hv
           have b1:=b.lo
           have b2:=b.hi
           have b3:=b.len
           exact ⟨b1,by omega,by omega⟩
         · have b:=ih (fun y hy=>h y (by simp [hy])) hv
           omega
     have b:=L _ (fun x hx=>hk x hx (hw.2 x hx)) hv
     exact ⟨by omega,by omega,by omega⟩
   · have e:t.rest.length=1∧r.kids=[]∧r.rest=[]:=by
       rcases J4 hw.1 with e | ⟨r',e,h1,h2⟩
       · rw [e] at hr; cases hr
       · rw [e] at hr; obtain rfl:=aU.1 hr; rw [e]; exact ⟨rfl,h1,h2⟩
     refine ⟨by dsimp only; omega,by dsimp only; omega,?_⟩
     dsimp only
     rw [e.2.1,e.2.2]; simp
def bZw (a:Int) (l:List (LTerm × Int)):Prop:=(0≤a∧a+l.length≤1000000)∧∀ v ∈ l,0≤v.2∧v.2≤1000∧v.1.kids.length+v.1.rest.length≤1000000
theorem aBh {t:LTerm} (h:gD cP t=true):bZw 0 (vis t 1++[]):=by
 rw [List.append_nil]
 simp only [gD,aC,decide_eq_true_eq] at h
 refine ⟨⟨Int.le_refl _,by rw [bBo t h.1.1]; omega⟩,fun v hv=>?_⟩
 have b:=bBp t h.1.1 1 v hv
 have b1:=b.lo
 have b2:=b.hi
 have b3:=b.len
 exact ⟨by omega,by omega,by omega⟩

def findS (m:List (Str × Str)) (x:Str):Option Str:=(m.find? fun p=>decide (x=p.1)).map (·.2)
theorem xA {m:List (Str × Str)} {p:Str × Str} {x:Str}:findS (m++[p]) x=match findS m x with | some y=>some y | none=>if x=p.1 then some p.2 else none:=by
 unfold findS
 rw [List.find?_append]
 cases h:m.find? fun p=>decide (x=p.1) with
 | some q=>rfl
 | none=>
   simp only [Option.none_or,xJ,List.find?_nil,Option.map_none]
   by_cases hx:x=p.1 <;> simp [hx]
def aTf (r:List (Str × Str) × Str) (x:Str × Str):List (Str × Str) × Str:=
 match findS r.1 x.1 with
 | some old=>if old ≠ x.2∧(r.2=[]∨x.1 < r.2) then (r.1,x.1) else r
 | none=>(r.1++[x],r.2)
def bVf (l:List (Str × Str)):Prop:=∀ a ∈ l,∀ b ∈ l,a.1=b.1→a.2=b.2
structure bPv (l:List (Str × Str)) (r:List (Str × Str) × Str):Prop where
 has:∀ x ∈ l,∃ y,findS r.1 x.1=some y
 of:∀ x y,findS r.1 x=some y→(x,y) ∈ l
 ok:r.2=[]↔∀ x ∈ l,findS r.1 x.1=some x.2
theorem aTe {l:List (Str × Str)} {r:List (Str × Str) × Str} {x:Str × Str} (h:bPv l r) (hx:x.1 ≠ []):bPv (l++[x]) (aTf r x):=by
 unfold aTf
 cases hf:findS r.1 x.1 with
 | some old=>
   simp only
   have hm:(∀ y ∈ l++[x],∃ z,findS r.1 y.1=some z)∧∀ y z,findS r.1 y=some z→(y,z) ∈ l++[x]:=by
     refine ⟨fun y hy=>?_,fun y z hz=>cM _ (h.of y z hz)⟩
     rcases bC.1 hy with hy | hy
     · exact h.has y hy
     · rw [aU] at hy; subst hy; exact ⟨_,hf⟩
   split
   · rename_i hc
     refine ⟨hm.1,hm.2,⟨fun e=>absurd e hx,fun e=>?_⟩⟩
     have:=e x (by simp)
     rw [hf] at this
     exact absurd (fU this) hc.1
   · rename_i hc
     refine ⟨hm.1,hm.2,⟨fun e y hy=>?_,fun e=>h.ok.2 fun y hy=>e y (cM _ hy)⟩⟩
     rcases bC.1 hy with hy | hy
     · exact h.ok.1 e y hy
     · rw [aU] at hy; subst hy
       rw [hf]
       by_cases ho:old=y.2
       · rw [ho]
       · exact absurd ⟨ho,.inl e⟩ hc
 | none=>
   simp only
   have hold:∀ y ∈ l,findS (r.1++[x]) y.1=findS r.1 y.1:=fun y hy=>by
     obtain ⟨z,hz⟩:=h.has y hy
     rw [xA,hz]
   have hnew:findS (r.1++[x]) x.1=some x.2:=by rw [xA,hf]; simp
   refine ⟨fun y hy=>?_,fun y z hz=>?_,⟨fun e y hy=>?_,fun e=>h.ok.2 fun y hy=>?_⟩⟩
   · rcases bC.1 hy with hy | hy
     · rw [hold y hy]; exact h.has y hy
     · rw [aU] at hy; subst hy; exact ⟨_,hnew⟩
   · rw [xA] at hz
     cases hy:findS r.1 y with
     | some q=>rw [hy] at hz; cases hz; exact cM _ (h.of _ _ hy)
     | none=>
       rw [hy] at hz
       simp only at hz
       split at hz
       · rename_i e; cases hz; rw [e]; simp
       · cases hz
   · rcases bC.1 hy with hy | hy
     · rw [hold y hy]; exact h.ok.1 e y hy
     · rw [aU] at hy; subst hy; exact hnew
   · rw [← hold y hy]; exact e y (cM _ hy)
theorem aLv:∀ (m l:List (Str × Str)) (r:List (Str × Str) × Str),bPv l r→(∀ x ∈ m,x.1 ≠ [])→bPv (l++m) (m.foldl aTf r)
 | [],l,r,h,_=>by simpa using h
 | x::m,l,r,h,hn=>by
   have:=aLv m (l++[x]) (aTf r x) (aTe h (hn x (by simp))) (fun y hy=>hn y (by simp [hy]))
   simpa using this
theorem bBz {l:List (Str × Str)} (hn:∀ x ∈ l,x.1 ≠ []):(l.foldl aTf ([],[])).2=[]↔bVf l:=by
 have h:=aLv l [] ([],[]) ⟨by simp,by simp [findS],by simp⟩ hn
 rw [cH] at h
 rw [h.ok]
 constructor
 · intro e a ha b hb hab
   have h1:=e a ha
   have h2:=e b hb
   rw [hab,h2] at h1
   exact (fU h1).symm
 · intro e x hx
   obtain ⟨y,hy⟩:=h.has x hx
   have q:y=x.2:=e (x.1,y) (h.of _ _ hy) x hx rfl
   rw [hy,q]
def zE {α:Type} [DecidableEq α] (out:List α) (v:α):List α:=if v ∈ out then out else out++[v]
theorem Q3 {α:Type} [DecidableEq α]:∀ (m out:List α),out.Nodup→(m.foldl zE out).Nodup∧∀ x,x ∈ m.foldl zE out↔x ∈ out∨x ∈ m
 | [],out,h=>⟨h,by simp⟩
 | v :: m,out,h=>by
   rw [iW]
   have h1:(zE out v).Nodup∧∀ x,x ∈ zE out v↔x ∈ out∨x=v:=by
     unfold zE
     split
     · rename_i hv; exact ⟨h,fun x=>⟨.inl,fun e=>e.elim id fun e=>e ▸ hv⟩⟩
     · rename_i hv
       refine ⟨?_,by simp⟩
       rw [gU]
       exact ⟨h,by simp,fun a ha b hb=>by rw [aU] at hb; subst hb; rintro rfl; exact hv ha⟩
   have h2:=Q3 m _ h1.1
   refine ⟨h2.1,fun x=>?_⟩
   rw [h2.2,h1.2,cD,or_assoc]
def aSl (l:List LTerm):Bool:=H4 l.length fun i=>H4 i fun j => !decide ((l.getD i default).text=(l.getD j default).text)
theorem bDi {l:List LTerm}:aSl l=true↔(l.map LTerm.text).Nodup:=by
 unfold aSl
 rw [lK,List.nodup_iff_pairwise_ne,eC]
 constructor
 · intro h i j hi hj hij
   simp only [dW] at hi hj
   have:=h j hj
   rw [lK] at this
   have:=this i hij
   simp only [cG,decide_eq_false_iff_not,List.getD,hi,hj,aT,dU] at this
   simpa using fun e=>this e.symm
 · intro h j hj
   rw [lK]
   intro i hij
   have hi:i < l.length:=by omega
   have:=h i j (by simpa using hi) (by simpa using hj) hij
   simp only [List.getElem_map] at this
   simp only [cG,decide_eq_false_iff_not,List.getD,hi,hj,aT,dU]
   exact fun e=>this e.symm
def B4 (t:LTerm):Str × Str:=(t.text,t.sort)
theorem bDj {l:List LTerm} (hp:∀ a ∈ l,∀ b ∈ l,B4 a=B4 b→a=b):aSl (l.foldl zE [])=true↔bVf (l.map B4):=by
 obtain ⟨hnd,hm⟩:=Q3 l [] eS
 have hm:∀ x,x ∈ l.foldl zE []↔x ∈ l:=fun x=>by rw [hm]; simp
 rw [bDi]
 generalize l.foldl zE []=L at *
 constructor
 · intro h a ha b hb hab
   obtain ⟨x,hx,rfl⟩:=dQ.1 ha
   obtain ⟨y,hy,rfl⟩:=dQ.1 hb
   have hx':=(hm x).2 hx
   have hy':=(hm y).2 hy
   by_cases e:x=y
   · rw [e]
   · exfalso
     have hinj:∀ (L:List LTerm),(L.map LTerm.text).Nodup→∀ x ∈ L,∀ y ∈ L,x.text=y.text→x=y:=by
       intro L
       induction L with
       | nil=>intro _ x hx; cases hx
       | cons z L ih=>
         intro hn x hx y hy he
         rw [aZ,iV] at hn
         rcases cD.1 hx with ex | hx2 <;> rcases cD.1 hy with ey | hy2
         · rw [ex,ey]
         · exact absurd (dQ.2 ⟨y,hy2,by rw [← he,ex]⟩) hn.1
         · exact absurd (dQ.2 ⟨x,hx2,by rw [he,ey]⟩) hn.1
         · exact ih hn.2 x hx2 y hy2 he
     exact e (hinj L h x hx' y hy' hab)
 · intro h
   have:∀ (L:List LTerm),L.Nodup→(∀ x ∈ L,x ∈ l)→(L.map LTerm.text).Nodup:=by
     intro L
     induction L with
     | nil=>intro _ _; exact eS
     | cons z L ih=>
       intro hn hl
       rw [iV] at hn
       rw [aZ,iV]
       refine ⟨fun hz=>?_,ih hn.2 fun x hx=>hl x (by simp [hx])⟩
       obtain ⟨y,hy,he⟩:=dQ.1 hz
       have hzl:=hl z (by simp)
       have hyl:=hl y (by simp [hy])
       have hs:=h (B4 y) (dQ.2 ⟨y,hyl,rfl⟩) (B4 z) (dQ.2 ⟨z,hzl,rfl⟩) he
       have:=hp y hyl z hzl (Prod.ext he hs)
       exact hn.1 (this ▸ hy)
   exact this L hnd fun x hx=>(hm x).1 hx

def aJi (s:cI) (v:LTerm × Int) (b:Bool):Bool:=if v.1.kind=5 then b || (called s v.1.text).2.1 else b
def aZr (k:LTerm):Bool:=yJ k || (decide (k.kind=6) && !decide (k.text=[95]))
def lF (l:List LTerm) (n:Nat):Bool:=H4 n fun j=>aZr (l.getD (2 * j) default)
def N4 (t:LTerm):Bool := !(decide (t.kind=6) && decide (t.text=[36])) && (!decide (t.kind=8) || lF t.kids ((t.kids.length+1) / 2))
def aUm (v:LTerm × Int) (b:Bool):Bool:=b && N4 v.1
def isV (t:LTerm):Bool:=decide (t.kind=6) && !decide (t.text=[95])
def aBm (v:LTerm × Int) (r:List (Str × Str) × Str):List (Str × Str) × Str:=if isV v.1=true then aTf r (B4 v.1) else r
theorem aFw (s:cI):∀ (l:List (LTerm × Int)) (b:Bool),xL (aJi s) b l=(b || l.any fun v=>decide (v.1.kind=5) && (called s v.1.text).2.1)
 | [],b=>by simp [xL]
 | v::l,b=>by
   show xL (aJi s) (aJi s v b) l=_
   rw [aFw s l,wK,aJi]
   by_cases h:v.1.kind=5 <;> simp [h,Bool.or_assoc]
theorem aEu:∀ (l:List (LTerm × Int)) (b:Bool),xL aUm b l=(b && l.all fun v=>N4 v.1)
 | [],b=>by simp [xL]
 | v::l,b=>by
   show xL aUm (aUm v b) l=_
   rw [aEu l,dH,aUm,kW]
def G4 (t:LTerm):List LTerm:=((vis t 1).map (·.1)).filter isV
theorem aEh:∀ (l:List (LTerm × Int)) (r:List (Str × Str) × Str),xL aBm r l=(((l.map (·.1)).filter isV).map B4).foldl aTf r
 | [],r=>rfl
 | v::l,r=>by
   show xL aBm (aBm v r) l=_
   rw [aEh l,aBm,aZ,fV]
   split <;> simp
mutual
def pO (s:cI):LTerm→Bool
 | .mk k n x so ks rs=>(decide (k=5) && (s.ops.find? fun o=>decide (o.name=x)).isNone) || hasFRL s ks
def hasFRL (s:cI):List LTerm→Bool
 | []=>false
 | t::l=>pO s t || hasFRL s l
end
theorem J9 (s:cI):∀ l,hasFRL s l=l.any (pO s)
 | []=>rfl
 | t::l=>by rw [hasFRL,J9 s l]; rfl
theorem aFs (s:cI) (t:LTerm):pO s t=((decide (t.kind=5) && (s.ops.find? fun o=>decide (o.name=t.text)).isNone) || t.kids.any (pO s)):=by
 cases t; rw [pO,J9]; rfl
def aZq (m:Bool) (i:Nat) (k:LTerm):Bool := !(m && decide (i % 2=0) && !yJ k && (!decide (k.kind=6) || !dP k.text))
mutual
def pM:LTerm→Bool
 | .mk k n x so ks rs=>keysRL (decide (k=8)) 0 ks
def keysRL (m:Bool) (i:Nat):List LTerm→Bool
 | []=>true
 | t::l=>(pM t && aZq m i t) && keysRL m (i+1) l
end
theorem X9 (m:Bool):∀ (l:List LTerm) (i:Nat),keysRL m i l=H4 l.length fun j=>pM (l.getD j default) && aZq m (i+j) (l.getD j default)
 | [],i=>rfl
 | t :: l,i=>by
   rw [keysRL,X9 m l]
   rw [cT,aC,lK,lK]
   constructor
   · rintro ⟨h1,h2⟩ j hj
     cases j with
     | zero=>exact h1
     | succ j=>
       have:=h2 j (by simpa using hj)
       rw [show i+(j+1)=i+1+j by omega]
       exact this
   · intro h
     refine ⟨h 0 (by simp),fun j hj=>?_⟩
     have:=h (j+1) (by simpa using hj)
     rw [show i+(j+1)=i+1+j by omega] at this
     exact this
theorem aFq (t:LTerm):pM t=H4 t.kids.length fun j=>pM (t.kids.getD j default) && aZq (decide (t.kind=8)) j (t.kids.getD j default):=by
 cases t; rw [pM,X9]; simp only [dM]; rfl
theorem aDn {f:LTerm→Bool} (t:LTerm) (d:Int):((vis t d).any fun v=>f v.1)=(f t || ((t.kids++t.rest).any fun k=>(vis k (d+1)).any fun v=>f v.1)):=by
 have L:∀ (l:List LTerm) (d:Int),((visL l d).any fun v=>f v.1)=l.any fun k=>(vis k d).any fun v=>f v.1:=by
   intro l
   induction l with
   | nil=>intro d; rfl
   | cons x l ih=>intro d; rw [visL,List.any_append,ih,wK]
 rw [mT,wK,L]
theorem bGs {f:LTerm→Bool} (t:LTerm) (d:Int):((vis t d).all fun v=>f v.1)=(f t && ((t.kids++t.rest).all fun k=>(vis k (d+1)).all fun v=>f v.1)):=by
 have L:∀ (l:List LTerm) (d:Int),((visL l d).all fun v=>f v.1)=l.all fun k=>(vis k d).all fun v=>f v.1:=by
   intro l
   induction l with
   | nil=>intro d; rfl
   | cons x l ih=>intro d; rw [visL,lZ,ih,dH]
 rw [mT,dH,L]
theorem rP {t r:LTerm} (h:cP t=true) (hr:r ∈ t.rest):r.kind=6∧dP r.text=true∧r.kids=[]∧r.rest=[]:=by
 have h2:=C0 h r hr
 refine ⟨?_,?_,h2.2.1,h2.2.2⟩
 all_goals
   have z0:∀ {a b c d},eY t a b c d false=true→t.rest=[]:=by
     intro a b c d h
     simp only [eY,aC,bH,decide_eq_true_eq,aP,false_or] at h
     exact h.2
   have r0:∀ {s},mV t s=true→r.kind=6∧dP r.text=true:=by
     intro s h
     simp only [mV,aC,bH,decide_eq_true_eq] at h
     have hl:0 < t.rest.length:=aAz hr
     rcases h with h | h
     · omega
     · obtain ⟨⟨⟨⟨h1,hk⟩,hn⟩,_⟩,_⟩:=h
       have hx:∃ x,t.rest=[x]:=rK.1 h1
       obtain ⟨x,hx⟩:=hx
       rw [hx] at hr hk hn
       rw [aU] at hr; subst hr
       exact ⟨hk,hn⟩
   have hh:=h
   unfold cP at hh
   repeat' split at hh
   all_goals try simp only [aC] at hh
   all_goals first
     | exact absurd hr (by rw [z0 hh.2]; simp)
     | exact (r0 hh.1).1
     | exact (r0 hh.1).2
     | exact (r0 hh.1.1).1
     | exact (r0 hh.1.1).2
     | cases hh
theorem aJv {s:cI} {x:Str}:(called s x).2.1=(s.ops.find? fun o=>decide (o.name=x)).isNone:=by
 unfold called N2
 cases s.ops.find? fun o=>decide (o.name=x) with
 | some o=>rfl
 | none=>
   simp only
   cases C8 s x with
   | some o=>rfl
   | none=>
     simp only
     cases sC x <;> rfl
theorem aPb (s:cI):∀ t:LTerm,wfT cP t=true→∀ d:Int,((vis t d).any fun v=>decide (v.1.kind=5) && (called s v.1.text).2.1)=pO s t:=
 dK (Q:=fun t=>wfT cP t=true→∀ d:Int,((vis t d).any fun v=>decide (v.1.kind=5) && (called s v.1.text).2.1)=pO s t) fun t hk hr hw d=>by
   have hw':=mE.1 hw
   rw [aDn (f:=fun x=>decide (x.kind=5) && (called s x.text).2.1),aFs,List.any_append,aJv]
   have e1:(t.kids.any fun k=>(vis k (d+1)).any fun v=>decide (v.1.kind=5) && (called s v.1.text).2.1)=t.kids.any (pO s):=by
     rw [cT,uD,uD]
     exact ⟨fun ⟨k,hm,h⟩=>⟨k,hm,by rw [← hk k hm (hw'.2 k hm) (d+1)]; exact h⟩,fun ⟨k,hm,h⟩=>⟨k,hm,by rw [hk k hm (hw'.2 k hm) (d+1)]; exact h⟩⟩
   have e2:(t.rest.any fun k=>(vis k (d+1)).any fun v=>decide (v.1.kind=5) && (called s v.1.text).2.1)=false:=by
     rw [mP]
     intro r hm
     obtain ⟨h6,_,h1,h2⟩:=rP hw'.1 hm
     rw [uG h1 h2]
     simp [h6]
   rw [e1,e2,cN]
def dol (t:LTerm) (d:Int):Bool:=(vis t d).any fun v=>decide (v.1.kind=6) && decide (v.1.text=[36])
theorem aQd:dP [36]=false:=by decide +kernel
theorem bBr:dP [95]=false:=by decide +kernel
theorem aZy {t:LTerm} {d:Int} (h:dol t d=false):¬ (t.kind=6∧t.text=[36]):=by
 unfold dol at h
 rw [aDn (f:=fun x=>decide (x.kind=6) && decide (x.text=[36])),jX] at h
 intro q
 have:=h.1
 simp [q.1,q.2] at this
theorem aEc {k:LTerm} (h:cP k=true) (h6:k.kind=6) (hd:¬ k.text=[36]):dP k.text = !decide (k.text=[95]):=by
 by_cases h5:k.text=[95]
 · rw [h5,bBr]; simp
 · have:vB k.text=false:=by simp [vB,h5,hd]
   have hh:cP k=(if vB k.text=true then decide (k.sort=P9) && eY k false true true false false else dP k.text && dP k.sort && eY k false true true false false):=by simp only [cP,h6,Int.reduceEq,if_false,if_true]
   rw [hh,this,if_neg (by simp)] at h
   simp only [aC] at h
   rw [h.1.1]; simp [h5]
theorem aOt:∀ t:LTerm,wfT cP t=true→∀ d:Int,((vis t d).all fun v=>N4 v.1)=(!dol t d && pM t):=
 dK (Q := fun t=>wfT cP t=true→∀ d:Int,((vis t d).all fun v=>N4 v.1)=(!dol t d && pM t)) fun t hk hr hw d=>by
   have hw':=mE.1 hw
   have ek:(t.kids.all fun k=>(vis k (d+1)).all fun v=>N4 v.1)=(t.kids.all fun k => !dol k (d+1) && pM k):=by
     rw [cT,aR,aR]
     exact ⟨fun h k hm=>by rw [← hk k hm (hw'.2 k hm) (d+1)]; exact h k hm,fun h k hm=>by rw [hk k hm (hw'.2 k hm) (d+1)]; exact h k hm⟩
   have er:(t.rest.all fun k=>(vis k (d+1)).all fun v=>N4 v.1)=true:=by
     rw [aR]
     intro r hm
     obtain ⟨h6,hn,h1,h2⟩:=rP hw'.1 hm
     rw [uG h1 h2]
     have:¬ r.text=[36]:=fun e=>by rw [e,aQd] at hn; cases hn
     simp [N4,h6,this]
   have dr:(t.rest.any fun k=>(vis k (d+1)).any fun v=>decide (v.1.kind=6) && decide (v.1.text=[36]))=false:=by
     rw [mP]
     intro r hm
     obtain ⟨h6,hn,h1,h2⟩:=rP hw'.1 hm
     rw [uG h1 h2]
     have:¬ r.text=[36]:=fun e=>by rw [e,aQd] at hn; cases hn
     simp [this]
   have ed:dol t d=((decide (t.kind=6) && decide (t.text=[36])) || t.kids.any fun k=>dol k (d+1)):=by
     unfold dol
     rw [aDn (f:=fun x=>decide (x.kind=6) && decide (x.text=[36])),List.any_append,dr,cN]
   rw [bGs,lZ,ek,er,Bool.and_true,ed,aFq]
   rw [cT]
   simp only [N4,aC,cG,jX,bH,aR,mP,lK]
   constructor
   · rintro ⟨⟨h1,h2⟩,h3⟩
     refine ⟨⟨h1,fun k hm=>by simpa using (h3 k hm).1⟩,fun j hj=>?_⟩
     have hm:=bE (d:=default) hj
     refine ⟨(h3 _ hm).2,?_⟩
     unfold aZq
     by_cases h8:t.kind=8
     · by_cases he:j % 2=0
       · rcases h2 with h2 | h2
         · simp [h8] at h2
         · unfold lF at h2
           rw [lK] at h2
           have q:=h2 (j / 2) (by omega)
           rw [show 2 * (j / 2)=j by omega] at q
           have hd:=aZy (h3 _ hm).1
           generalize t.kids.getD j default=k at *
           unfold aZr at q
           by_cases hkk:yJ k=true
           · simp [hkk]
           · simp only [R9] at hkk
             rw [hkk,cO,aC,decide_eq_true_eq] at q
             have hv:=aEc (mE.1 (hw'.2 _ hm)).1 q.1 (fun e=>hd ⟨q.1,e⟩)
             rw [hv,q.2]; simp [q.1]
       · simp [he]
     · simp [h8]
   · rintro ⟨⟨h1,h2⟩,h3⟩
     have hall:∀ k ∈ t.kids,dol k (d+1)=false∧pM k=true:=fun k hm=>by
       obtain ⟨j,hj,he⟩:=bV.1 hm
       have:=(h3 j hj).1
       rw [show t.kids.getD j default=k by simp [List.getD,hj,he]] at this
       exact ⟨by simpa using h2 k hm,this⟩
     refine ⟨⟨h1,?_⟩,hall⟩
     by_cases h8:t.kind=8
     · right
       unfold lF
       rw [lK]
       intro j hj
       have hj2:2 * j < t.kids.length:=by omega
       have q:=(h3 (2 * j) hj2).2
       have hm:=bE (d:=default) hj2
       have hd:=aZy (hall _ hm).1
       generalize t.kids.getD (2 * j) default=k at *
       unfold aZq at q
       unfold aZr
       by_cases hkk:yJ k=true
       · simp [hkk]
       · simp only [R9] at hkk
         simp only [h8,decide_true,hkk,Bool.not_false,Bool.and_true,Bool.true_and,show 2 * j % 2=0 by omega,cG,jX,decide_eq_false_iff_not,H8] at q
         have q1:k.kind=6:=by simpa using q.1
         have q2:dP k.text=true:=by simpa using q.2
         have hv:=aEc (mE.1 (hw'.2 _ hm)).1 q1 (fun e=>hd ⟨q1,e⟩)
         rw [hv] at q2
         simp [q1,q2]
     · left; simp [h8]

structure LTest where
 op:Int
 term:LTerm
 text:Str
 n:Int
structure kD where
 path:List Int
 test:LTest
instance:Inhabited LTest:=⟨⟨0,default,[],0⟩⟩
instance:Inhabited kD:=⟨⟨[],default⟩⟩
def iR (x:LTest):List AV:=[.i .i64 x.op,.i .i64 x.term.kind,.i .i64 x.term.n,.s x.term.text,.s x.term.sort,avt x.term.kids,avt x.term.rest,.s x.text,.i .i64 x.n]
def bT (a:kD):List AV:=[.sl (a.path.map (.i .i64)) a.path.length,.i .i64 a.test.op,.i .i64 a.test.term.kind,.i .i64 a.test.term.n,.s a.test.term.text,.s a.test.term.sort,avt a.test.term.kids,avt a.test.term.rest,.s a.test.text,.i .i64 a.test.n]
theorem aRo (a:kD):(bT a).length=10:=rfl
def ava (l:List kD):AV:=.sl (l.flatMap bT) l.length

theorem bIt (a:kD):persL (bT a)=true:=by
 simp [bT,persL,pers,iT,avt,fE]
theorem W1 {l:List kD}:persL (l.flatMap bT)=true:=kX fun x _=>bIt x
section
variable {k:Nat} {l:List kD}
theorem bGk (h:k < l.length):((l.flatMap bT).drop (k * 10)).take 10=bT (l.getD k default):=by
 rw [qO aRo]
 simp [h,List.getD]
theorem yB:(l.flatMap bT).length=l.length * 10:=oG aRo l
end
attribute [go_sem] bGk yB W1 bIt

abbrev zT:LTerm:=.mk 0 0 [] [] [] []
mutual
def dZ:LTerm→List Int→List kD
 | .mk k n x so ks rs,p=>
   if k=5 then ⟨p,⟨2,zT,x,ks.length⟩⟩::testsL ks p 0
   else if k=7 then ⟨p,⟨if 0 < rs.length then 4 else 3,zT,[],ks.length⟩⟩::testsL ks p 0
   else if k=8 then [⟨p,⟨5,zT,[],0⟩⟩]
   else if k=6 then (if so=P9 then [] else [⟨p,⟨6,zT,so,0⟩⟩])
   else [⟨p,⟨1,.mk k n x so ks rs,[],0⟩⟩]
def testsL:List LTerm→List Int→Nat→List kD
 | [],_,_=>[]
 | t::l,p,i=>dZ t (p++[(i:Int)])++testsL l p (i+1)
end
theorem lL (t:LTerm) (p:List Int):dZ t p=if t.kind=5 then ⟨p,⟨2,zT,t.text,t.kids.length⟩⟩::testsL t.kids p 0
   else if t.kind=7 then ⟨p,⟨if 0 < t.rest.length then 4 else 3,zT,[],t.kids.length⟩⟩::testsL t.kids p 0
   else if t.kind=8 then [⟨p,⟨5,zT,[],0⟩⟩]
   else if t.kind=6 then (if t.sort=P9 then [] else [⟨p,⟨6,zT,t.sort,0⟩⟩])
   else [⟨p,⟨1,t,[],0⟩⟩]:=by cases t; rw [dZ]; rfl
theorem qC:∀ {l:List LTerm} {p:List Int} {i k:Nat},k < l.length→testsL (l.take (k+1)) p i=testsL (l.take k) p i++dZ (l.getD k default) (p++[((i+k:Nat):Int)])
 | t::l,p,i,0,_=>by simp [testsL]
 | t::l,p,i,k+1,h=>by
   rw [cV,testsL,cV,testsL,qC (k:=k) (by simpa using h),bS,show i+1+k=i+(k+1) by omega]; simp
 | [],_,_,_,h=>by simp at h
theorem uL:∀ {l m:List LTerm} {p:List Int} {i:Nat},testsL (l++m) p i=testsL l p i++testsL m p (i+l.length)
 | [],m,p,i=>by simp [testsL]
 | t::l,m,p,i=>by rw [cC,testsL,testsL,uL,bS,aL,show i+1+l.length=i+(l.length+1) by omega]
theorem tK {l:List LTerm} {p:List Int} {k:Nat}:(testsL (l.take k) p 0).length≤(testsL l p 0).length:=by
 have:testsL l p 0=testsL (l.take k) p 0++testsL (l.drop k) p (0+(l.take k).length):=by rw [← uL,eL]
 rw [this,List.length_append]; omega
theorem aHz {t:LTerm} {p:List Int} (h:t.kind=5∨t.kind=7):(dZ t p).length=(testsL t.kids p 0).length+1:=by
 rw [lL]
 rcases h with h | h
 · rw [if_pos h]; rfl
 · rw [if_neg (by omega),if_pos h]; rfl
end Go.Proofs.YtifefbhllfdmlaaGreatDoor

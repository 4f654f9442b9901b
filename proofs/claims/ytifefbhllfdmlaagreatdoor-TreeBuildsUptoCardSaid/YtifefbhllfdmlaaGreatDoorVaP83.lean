/-
  What functions of the chapter return, as plain functions of what they are given; no condition beyond those that each theorem names.
-/
import Derived.Test.YtifefbhllfdmlaaGreatDoorTeP85
import Derived.Test.YtifefbhllfdmlaaGreatDoorTeP83
set_option maxRecDepth 100000
set_option linter.unusedSimpArgs false
set_option linter.unusedVariables false
set_option maxHeartbeats 4000000
namespace Go.Proofs.YtifefbhllfdmlaaGreatDoor
open Go Go.Vo
open Nat (reduceAdd reduceSub reduceMul reduceLeDiff reduceLT reduceEqDiff)
open Int (reduceNeg)

mutual
def vis:LTerm→Int→List (LTerm × Int)
 | .mk k n x s ks rs,d=>(.mk k n x s ks rs,d)::(visL ks (d+1)++visL rs (d+1))
def visL:List LTerm→Int→List (LTerm × Int)
 | [],_=>[]
 | t::l,d=>vis t d++visL l d
end
theorem kF:∀ {l m:List LTerm} {d:Int},visL (l++m) d=visL l d++visL m d
 | [],m,d=>rfl
 | t::l,m,d=>by rw [bR,visL,visL,kF,bL]
theorem mZ (t:LTerm) (d:Int):vis t d=(t,d)::visL (t.kids++t.rest) (d+1):=by cases t; rw [vis,kF]; rfl
theorem xE {l:List LTerm} {k:Nat} {d:Int} (h:k < l.length):visL (l.drop k) d=vis (l.getD k default) d++visL (l.drop (k+1)) d:=by
 rw [bH h,visL]; simp [List.getD,h]
def yG {α:Type} (φ:LTerm × Int→α→α) (a:α) (l:List (LTerm × Int)):α:=l.foldl (fun a v=>φ v a) a
theorem aDe {α:Type} {φ:LTerm × Int→α→α} {a:α} {l m:List (LTerm × Int)}:yG φ a (l++m)=yG φ (yG φ a l) m:=by simp [yG,mW]
theorem bBx:∀ (t:LTerm),OkT t→∀ (d:Int),∀ v ∈ vis t d,OkT v.1:=
 dO fun t hk hr ht d v hv=>by
   have L:∀ (l:List LTerm),(∀ x ∈ l,OkT x∧∀ (d:Int),∀ v ∈ vis x d,OkT v.1)→∀ v ∈ visL l (d+1),OkT v.1:=by
     intro l
     induction l with
     | nil=>intro _ v hv; simp [visL] at hv
     | cons x l ih=>
       intro h v hv
       rw [visL,bA] at hv
       rcases hv with hv | hv
       · exact (h x (by simp)).2 _ v hv
       · exact ih (fun y hy=>h y (by simp [hy])) v hv
   rw [mZ,bT] at hv
   rcases hv with rfl | hv
   · exact ht
   · refine L _ (fun x hx=>?_) v hv
     rcases bA.1 hx with hx | hx
     · exact ⟨ht.kid x hx,hk x hx (ht.kid x hx)⟩
     · exact ⟨ht.rst x hx,hr x hx (ht.rst x hx)⟩

theorem N5 {t:LTerm} (h:nodeB t=true):t.rest=[]∨∃ r,t.rest=[r]∧r.kids=[]∧r.rest=[]:=by
 have h1:=pE t h
 have h2:=E2 h
 rcases hr:t.rest with _ | ⟨x,_ | ⟨y,l⟩⟩
 · exact .inl rfl
 · rw [hr] at h2
   exact .inr ⟨x,rfl,(h2 x (by simp)).2⟩
 · rw [hr] at h1; simp at h1
theorem uP {r:LTerm} (h1:r.kids=[]) (h2:r.rest=[]) (d:Int):vis r d=[(r,d)]:=by rw [mZ,h1,h2]; rfl
theorem Y2 {t:LTerm} (h:nodeB t=true) (d:Int):visL t.rest d=t.rest.map fun r=>(r,d):=by
 rcases N5 h with e | ⟨r,e,h1,h2⟩
 · rw [e]; rfl
 · rw [e,visL,uP h1 h2]; rfl
theorem rX (t:LTerm):nodesT t=1+t.rest.length+nodesL t.kids:=by cases t; rw [nodesT]; rfl
theorem wC (t:LTerm):highT t=1+max t.rest.length (highL t.kids):=by cases t; rw [highT]; rfl
theorem xM:∀ (l:List LTerm),l.length≤nodesL l
 | []=>aZ _
 | t::l=>by rw [nodesL,aI,rX]; have:=xM l; omega
theorem bEy:∀ (t:LTerm),wfT nodeB t=true→∀ d:Int,(vis t d).length=nodesT t:=
 dO fun t hk _ hw d=>by
   rw [oR] at hw
   have L:∀ (l:List LTerm),(∀ x ∈ l,∀ d:Int,(vis x d).length=nodesT x)→(visL l (d+1)).length=nodesL l:=by
     intro l
     induction l with
     | nil=>intro _; rfl
     | cons x l ih=>intro h; rw [visL,nodesL,aE,h x (by simp),ih (fun y hy=>h y (by simp [hy]))]
   rw [mZ,kF,rX,aI,aE,L _ (fun x hx=>hk x hx (hw.2 x hx)),Y2 hw.1,eH]
   omega
structure bYv (t:LTerm) (d:Int) (v:LTerm × Int):Prop where
 lo:d≤v.2
 hi:v.2+1≤d+highT t
 len:v.1.kids.length+v.1.rest.length≤nodesT t
theorem bEz:∀ (t:LTerm),wfT nodeB t=true→∀ d:Int,∀ v ∈ vis t d,bYv t d v:=
 dO fun t hk _ hw d v hv=>by
   rw [oR] at hw
   rw [mZ,kF,bT,bA,Y2 hw.1,dQ] at hv
   have hn:=rX t
   have hh:=wC t
   have hl:=xM t.kids
   rcases hv with rfl | hv | ⟨r,hr,rfl⟩
   · exact ⟨yE _,by dsimp only; omega,by dsimp only; omega⟩
   · have L:∀ (l:List LTerm),(∀ x ∈ l,∀ d:Int,∀ v ∈ vis x d,bYv x d v)→v ∈ visL l (d+1)→d+1≤v.2∧v.2≤d+highL l∧v.1.kids.length+v.1.rest.length≤nodesL l:=by
       intro l
       induction l with
       | nil=>intro _ h; simp [visL] at h
       | cons x l ih=>
         intro h hv
         rw [highL,nodesL]
         rw [visL,bA] at hv
         rcases hv with hv | hv
         · have b:=h x (by simp) _ v hv
           have b1:=b.lo
           have b2:=b.hi
           have b3:=b.len
           exact ⟨b1,by omega,by omega⟩
         · have b:=ih (fun y hy=>h y (by simp [hy])) hv
           omega
     have b:=L _ (fun x hx=>hk x hx (hw.2 x hx)) hv
     exact ⟨by omega,by omega,by omega⟩
   · have e:t.rest.length=1∧r.kids=[]∧r.rest=[]:=by
       rcases N5 hw.1 with e | ⟨r',e,h1,h2⟩
       · rw [e] at hr; cases hr
       · rw [e] at hr; obtain rfl:=aS.1 hr; rw [e]; exact ⟨rfl,h1,h2⟩
     refine ⟨by dsimp only; omega,by dsimp only; omega,?_⟩
     dsimp only
     rw [e.2.1,e.2.2]; simp
def cDc (a:Int) (l:List (LTerm × Int)):Prop:=(0≤a∧a+l.length≤1000000)∧∀ v ∈ l,0≤v.2∧v.2≤1000∧v.1.kids.length+v.1.rest.length≤1000000
theorem aDf {t:LTerm} (h:fO nodeB t=true):cDc 0 (vis t 1++[]):=by
 rw [List.append_nil]
 simp only [fO,aA,decide_eq_true_eq] at h
 refine ⟨⟨yE _,by rw [bEy t h.1.1]; omega⟩,fun v hv=>?_⟩
 have b:=bEz t h.1.1 1 v hv
 have b1:=b.lo
 have b2:=b.hi
 have b3:=b.len
 exact ⟨by omega,by omega,by omega⟩

def findS (m:List (Str × Str)) (x:Str):Option Str:=(m.find? fun p=>decide (x=p.1)).map (·.2)
theorem xR {m:List (Str × Str)} {p:Str × Str} {x:Str}:findS (m++[p]) x=match findS m x with | some y=>some y | none=>if x=p.1 then some p.2 else none:=by
 unfold findS
 rw [List.find?_append]
 cases h:m.find? fun p=>decide (x=p.1) with
 | some q=>rfl
 | none=>
   simp only [Option.none_or,List.find?_cons,List.find?_nil,Option.map_none]
   by_cases hx:x=p.1 <;> simp [hx]
def aVx (r:List (Str × Str) × Str) (x:Str × Str):List (Str × Str) × Str:=
 match findS r.1 x.1 with
 | some old=>if old ≠ x.2∧(r.2=[]∨x.1 < r.2) then (r.1,x.1) else r
 | none=>(r.1++[x],r.2)
def bYt (l:List (Str × Str)):Prop:=∀ a ∈ l,∀ b ∈ l,a.1=b.1→a.2=b.2
structure bTk (l:List (Str × Str)) (r:List (Str × Str) × Str):Prop where
 has:∀ x ∈ l,∃ y,findS r.1 x.1=some y
 of:∀ x y,findS r.1 x=some y→(x,y) ∈ l
 ok:r.2=[]↔∀ x ∈ l,findS r.1 x.1=some x.2
theorem aVw {l:List (Str × Str)} {r:List (Str × Str) × Str} {x:Str × Str} (h:bTk l r) (hx:x.1 ≠ []):bTk (l++[x]) (aVx r x):=by
 unfold aVx
 cases hf:findS r.1 x.1 with
 | some old=>
   simp only
   have hm:(∀ y ∈ l++[x],∃ z,findS r.1 y.1=some z)∧∀ y z,findS r.1 y=some z→(y,z) ∈ l++[x]:=by
     refine ⟨fun y hy=>?_,fun y z hz=>cQ _ (h.of y z hz)⟩
     rcases bA.1 hy with hy | hy
     · exact h.has y hy
     · rw [aS] at hy; subst hy; exact ⟨_,hf⟩
   split
   · rename_i hc
     refine ⟨hm.1,hm.2,⟨fun e=>absurd e hx,fun e=>?_⟩⟩
     have:=e x (by simp)
     rw [hf] at this
     exact absurd (gB this) hc.1
   · rename_i hc
     refine ⟨hm.1,hm.2,⟨fun e y hy=>?_,fun e=>h.ok.2 fun y hy=>e y (cQ _ hy)⟩⟩
     rcases bA.1 hy with hy | hy
     · exact h.ok.1 e y hy
     · rw [aS] at hy; subst hy
       rw [hf]
       by_cases ho:old=y.2
       · rw [ho]
       · exact absurd ⟨ho,.inl e⟩ hc
 | none=>
   simp only
   have hold:∀ y ∈ l,findS (r.1++[x]) y.1=findS r.1 y.1:=fun y hy=>by
     obtain ⟨z,hz⟩:=h.has y hy
     rw [xR,hz]
   have hnew:findS (r.1++[x]) x.1=some x.2:=by rw [xR,hf]; simp
   refine ⟨fun y hy=>?_,fun y z hz=>?_,⟨fun e y hy=>?_,fun e=>h.ok.2 fun y hy=>?_⟩⟩
   · rcases bA.1 hy with hy | hy
     · rw [hold y hy]; exact h.has y hy
     · rw [aS] at hy; subst hy; exact ⟨_,hnew⟩
   · rw [xR] at hz
     cases hy:findS r.1 y with
     | some q=>rw [hy] at hz; cases hz; exact cQ _ (h.of _ _ hy)
     | none=>
       rw [hy] at hz
       simp only at hz
       split at hz
       · rename_i e; cases hz; rw [e]; simp
       · cases hz
   · rcases bA.1 hy with hy | hy
     · rw [hold y hy]; exact h.ok.1 e y hy
     · rw [aS] at hy; subst hy; exact hnew
   · rw [← hold y hy]; exact e y (cQ _ hy)
theorem aOm:∀ (m l:List (Str × Str)) (r:List (Str × Str) × Str),bTk l r→(∀ x ∈ m,x.1 ≠ [])→bTk (l++m) (m.foldl aVx r)
 | [],l,r,h,_=>by simpa using h
 | x::m,l,r,h,hn=>by
   have:=aOm m (l++[x]) (aVx r x) (aVw h (hn x (by simp))) (fun y hy=>hn y (by simp [hy]))
   simpa using this
theorem bFl {l:List (Str × Str)} (hn:∀ x ∈ l,x.1 ≠ []):(l.foldl aVx ([],[])).2=[]↔bYt l:=by
 have h:=aOm l [] ([],[]) ⟨by simp,by simp [findS],by simp⟩ hn
 rw [cH] at h
 rw [h.ok]
 constructor
 · intro e a ha b hb hab
   have h1:=e a ha
   have h2:=e b hb
   rw [hab,h2] at h1
   exact (gB h1).symm
 · intro e x hx
   obtain ⟨y,hy⟩:=h.has x hx
   have q:y=x.2:=e (x.1,y) (h.of _ _ hy) x hx rfl
   rw [hy,q]
def A3 {α:Type} [DecidableEq α] (out:List α) (v:α):List α:=if v ∈ out then out else out++[v]
theorem V4 {α:Type} [DecidableEq α]:∀ (m out:List α),out.Nodup→(m.foldl A3 out).Nodup∧∀ x,x ∈ m.foldl A3 out↔x ∈ out∨x ∈ m
 | [],out,h=>⟨h,by simp⟩
 | v :: m,out,h=>by
   rw [iW]
   have h1:(A3 out v).Nodup∧∀ x,x ∈ A3 out v↔x ∈ out∨x=v:=by
     unfold A3
     split
     · rename_i hv; exact ⟨h,fun x=>⟨.inl,fun e=>e.elim id fun e=>e ▸ hv⟩⟩
     · rename_i hv
       refine ⟨?_,by simp⟩
       rw [kJ]
       exact ⟨h,by simp,fun a ha b hb=>by rw [aS] at hb; subst hb; rintro rfl; exact hv ha⟩
   have h2:=V4 m _ h1.1
   refine ⟨h2.1,fun x=>?_⟩
   rw [h2.2,h1.2,bT,or_assoc]
def aVd (l:List LTerm):Bool:=L0 l.length fun i=>L0 i fun j => !decide ((l.getD i default).text=(l.getD j default).text)
theorem bGr {l:List LTerm}:aVd l=true↔(l.map LTerm.text).Nodup:=by
 unfold aVd
 rw [lV,List.nodup_iff_pairwise_ne,eR]
 constructor
 · intro h i j hi hj hij
   simp only [eH] at hi hj
   have:=h j hj
   rw [lV] at this
   have:=this i hij
   simp only [bV,decide_eq_false_iff_not,List.getD,hi,hj,bG,lF] at this
   simpa using fun e=>this e.symm
 · intro h j hj
   rw [lV]
   intro i hij
   have hi:i < l.length:=by omega
   have:=h i j (by simpa using hi) (by simpa using hj) hij
   simp only [List.getElem_map] at this
   simp only [bV,decide_eq_false_iff_not,List.getD,hi,hj,bG,lF]
   exact fun e=>this e.symm
def D6 (t:LTerm):Str × Str:=(t.text,t.sort)
theorem bGs {l:List LTerm} (hp:∀ a ∈ l,∀ b ∈ l,D6 a=D6 b→a=b):aVd (l.foldl A3 [])=true↔bYt (l.map D6):=by
 obtain ⟨hnd,hm⟩:=V4 l [] cR
 have hm:∀ x,x ∈ l.foldl A3 []↔x ∈ l:=fun x=>by rw [hm]; simp
 rw [bGr]
 generalize l.foldl A3 []=L at *
 constructor
 · intro h a ha b hb hab
   obtain ⟨x,hx,rfl⟩:=dQ.1 ha
   obtain ⟨y,hy,rfl⟩:=dQ.1 hb
   have hx':=(hm x).2 hx
   have hy':=(hm y).2 hy
   by_cases e:x=y
   · rw [e]
   · exfalso
     have hinj:∀ (L:List LTerm),(L.map LTerm.text).Nodup→∀ x ∈ L,∀ y ∈ L,x.text=y.text→x=y:=by
       intro L
       induction L with
       | nil=>intro _ x hx; cases hx
       | cons z L ih=>
         intro hn x hx y hy he
         rw [aT,iV] at hn
         rcases bT.1 hx with ex | hx2 <;> rcases bT.1 hy with ey | hy2
         · rw [ex,ey]
         · exact absurd (dQ.2 ⟨y,hy2,by rw [← he,ex]⟩) hn.1
         · exact absurd (dQ.2 ⟨x,hx2,by rw [he,ey]⟩) hn.1
         · exact ih hn.2 x hx2 y hy2 he
     exact e (hinj L h x hx' y hy' hab)
 · intro h
   have:∀ (L:List LTerm),L.Nodup→(∀ x ∈ L,x ∈ l)→(L.map LTerm.text).Nodup:=by
     intro L
     induction L with
     | nil=>intro _ _; exact cR
     | cons z L ih=>
       intro hn hl
       rw [iV] at hn
       rw [aT,iV]
       refine ⟨fun hz=>?_,ih hn.2 fun x hx=>hl x (by simp [hx])⟩
       obtain ⟨y,hy,he⟩:=dQ.1 hz
       have hzl:=hl z (by simp)
       have hyl:=hl y (by simp [hy])
       have hs:=h (D6 y) (dQ.2 ⟨y,hyl,rfl⟩) (D6 z) (dQ.2 ⟨z,hzl,rfl⟩) he
       have:=hp y hyl z hzl (Prod.ext he hs)
       exact hn.1 (this ▸ hy)
   exact this L hnd fun x hx=>(hm x).1 hx

def aLx (s:bZ) (v:LTerm × Int) (b:Bool):Bool:=if v.1.kind=5 then b || (called s v.1.text).2.1 else b
def bCv (k:LTerm):Bool:=zG k || (decide (k.kind=6) && !decide (k.text=[95]))
def lO (l:List LTerm) (n:Nat):Bool:=L0 n fun j=>bCv (l.getD (2 * j) default)
def R7 (t:LTerm):Bool := !(decide (t.kind=6) && decide (t.text=[36])) && (!decide (t.kind=8) || lO t.kids ((t.kids.length+1) / 2))
def aXc (v:LTerm × Int) (b:Bool):Bool:=b && R7 v.1
def isV (t:LTerm):Bool:=decide (t.kind=6) && !decide (t.text=[95])
def aDk (v:LTerm × Int) (r:List (Str × Str) × Str):List (Str × Str) × Str:=if isV v.1=true then aVx r (D6 v.1) else r
theorem aIc (s:bZ):∀ (l:List (LTerm × Int)) (b:Bool),yG (aLx s) b l=(b || l.any fun v=>decide (v.1.kind=5) && (called s v.1.text).2.1)
 | [],b=>by simp [yG]
 | v::l,b=>by
   show yG (aLx s) (aLx s v b) l=_
   rw [aIc s l,V8,aLx]
   by_cases h:v.1.kind=5 <;> simp [h,Bool.or_assoc]
theorem aHb:∀ (l:List (LTerm × Int)) (b:Bool),yG aXc b l=(b && l.all fun v=>R7 v.1)
 | [],b=>by simp [yG]
 | v::l,b=>by
   show yG aXc (aXc v b) l=_
   rw [aHb l,eC,aXc,jY]
def J5 (t:LTerm):List LTerm:=((vis t 1).map (·.1)).filter isV
theorem aGk:∀ (l:List (LTerm × Int)) (r:List (Str × Str) × Str),yG aDk r l=(((l.map (·.1)).filter isV).map D6).foldl aVx r
 | [],r=>rfl
 | v::l,r=>by
   show yG aDk (aDk v r) l=_
   rw [aGk l,aDk,aT,cV]
   split <;> simp
mutual
def pI (s:bZ):LTerm→Bool
 | .mk k n x so ks rs=>(decide (k=5) && (s.ops.find? fun o=>decide (o.name=x)).isNone) || hasFRL s ks
def hasFRL (s:bZ):List LTerm→Bool
 | []=>false
 | t::l=>pI s t || hasFRL s l
end
theorem O0 (s:bZ):∀ l,hasFRL s l=l.any (pI s)
 | []=>rfl
 | t::l=>by rw [hasFRL,O0 s l]; rfl
theorem aHz (s:bZ) (t:LTerm):pI s t=((decide (t.kind=5) && (s.ops.find? fun o=>decide (o.name=t.text)).isNone) || t.kids.any (pI s)):=by
 cases t; rw [pI,O0]; rfl
def bCu (m:Bool) (i:Nat) (k:LTerm):Bool := !(m && decide (i % 2=0) && !zG k && (!decide (k.kind=6) || !dN k.text))
mutual
def pG:LTerm→Bool
 | .mk k n x so ks rs=>keysRL (decide (k=8)) 0 ks
def keysRL (m:Bool) (i:Nat):List LTerm→Bool
 | []=>true
 | t::l=>(pG t && bCu m i t) && keysRL m (i+1) l
end
theorem aBc (m:Bool):∀ (l:List LTerm) (i:Nat),keysRL m i l=L0 l.length fun j=>pG (l.getD j default) && bCu m (i+j) (l.getD j default)
 | [],i=>rfl
 | t :: l,i=>by
   rw [keysRL,aBc m l]
   rw [cI,aA,lV,lV]
   constructor
   · rintro ⟨h1,h2⟩ j hj
     cases j with
     | zero=>exact h1
     | succ j=>
       have:=h2 j (by simpa using hj)
       rw [show i+(j+1)=i+1+j by omega]
       exact this
   · intro h
     refine ⟨h 0 (by simp),fun j hj=>?_⟩
     have:=h (j+1) (by simpa using hj)
     rw [show i+(j+1)=i+1+j by omega] at this
     exact this
theorem aHw (t:LTerm):pG t=L0 t.kids.length fun j=>pG (t.kids.getD j default) && bCu (decide (t.kind=8)) j (t.kids.getD j default):=by
 cases t; rw [pG,aBc]; simp only [cM]; rfl
theorem aFv {f:LTerm→Bool} (t:LTerm) (d:Int):((vis t d).any fun v=>f v.1)=(f t || ((t.kids++t.rest).any fun k=>(vis k (d+1)).any fun v=>f v.1)):=by
 have L:∀ (l:List LTerm) (d:Int),((visL l d).any fun v=>f v.1)=l.any fun k=>(vis k d).any fun v=>f v.1:=by
   intro l
   induction l with
   | nil=>intro d; rfl
   | cons x l ih=>intro d; rw [visL,List.any_append,ih,V8]
 rw [mZ,V8,L]
theorem bJy {f:LTerm→Bool} (t:LTerm) (d:Int):((vis t d).all fun v=>f v.1)=(f t && ((t.kids++t.rest).all fun k=>(vis k (d+1)).all fun v=>f v.1)):=by
 have L:∀ (l:List LTerm) (d:Int),((visL l d).all fun v=>f v.1)=l.all fun k=>(vis k d).all fun v=>f v.1:=by
   intro l
   induction l with
   | nil=>intro d; rfl
   | cons x l ih=>intro d; rw [visL,iY,ih,eC]
 rw [mZ,eC,L]
theorem rS {t r:LTerm} (h:nodeB t=true) (hr:r ∈ t.rest):r.kind=6∧dN r.text=true∧r.kids=[]∧r.rest=[]:=by
 have h2:=E2 h r hr
 refine ⟨?_,?_,h2.2.1,h2.2.2⟩
 all_goals
   have z0:∀ {a b c d},eY t a b c d false=true→t.rest=[]:=by
     intro a b c d h
     simp only [eY,aA,bJ,decide_eq_true_eq,aM,false_or] at h
     exact h.2
   have r0:∀ {s},qE t s=true→r.kind=6∧dN r.text=true:=by
     intro s h
     simp only [qE,aA,bJ,decide_eq_true_eq] at h
     have hl:0 < t.rest.length:=dZ hr
     rcases h with h | h
     · omega
     · obtain ⟨⟨⟨⟨h1,hk⟩,hn⟩,_⟩,_⟩:=h
       have hx:∃ x,t.rest=[x]:=aCv.1 h1
       obtain ⟨x,hx⟩:=hx
       rw [hx] at hr hk hn
       rw [aS] at hr; subst hr
       exact ⟨hk,hn⟩
   have hh:=h
   unfold nodeB at hh
   repeat' split at hh
   all_goals try simp only [aA] at hh
   all_goals first
     | exact absurd hr (by rw [z0 hh.2]; simp)
     | exact (r0 hh.1).1
     | exact (r0 hh.1).2
     | exact (r0 hh.1.1).1
     | exact (r0 hh.1.1).2
     | cases hh
theorem aMk {s:bZ} {x:Str}:(called s x).2.1=(s.ops.find? fun o=>decide (o.name=x)).isNone:=by
 unfold called J9
 cases s.ops.find? fun o=>decide (o.name=x) with
 | some o=>rfl
 | none=>
   simp only
   cases F0 s x with
   | some o=>rfl
   | none=>
     simp only
     cases sK x <;> rfl
theorem aRh (s:bZ):∀ t:LTerm,wfT nodeB t=true→∀ d:Int,((vis t d).any fun v=>decide (v.1.kind=5) && (called s v.1.text).2.1)=pI s t:=
 dO (Q:=fun t=>wfT nodeB t=true→∀ d:Int,((vis t d).any fun v=>decide (v.1.kind=5) && (called s v.1.text).2.1)=pI s t) fun t hk hr hw d=>by
   have hw':=oR.1 hw
   rw [aFv (f:=fun x=>decide (x.kind=5) && (called s x.text).2.1),aHz,List.any_append,aMk]
   have e1:(t.kids.any fun k=>(vis k (d+1)).any fun v=>decide (v.1.kind=5) && (called s v.1.text).2.1)=t.kids.any (pI s):=by
     rw [cI,lG,lG]
     exact ⟨fun ⟨k,hm,h⟩=>⟨k,hm,by rw [← hk k hm (hw'.2 k hm) (d+1)]; exact h⟩,fun ⟨k,hm,h⟩=>⟨k,hm,by rw [hk k hm (hw'.2 k hm) (d+1)]; exact h⟩⟩
   have e2:(t.rest.any fun k=>(vis k (d+1)).any fun v=>decide (v.1.kind=5) && (called s v.1.text).2.1)=false:=by
     rw [eW]
     intro r hm
     obtain ⟨h6,_,h1,h2⟩:=rS hw'.1 hm
     rw [uP h1 h2]
     simp [h6]
   rw [e1,e2,cG]
def dol (t:LTerm) (d:Int):Bool:=(vis t d).any fun v=>decide (v.1.kind=6) && decide (v.1.text=[36])
theorem aSl:dN [36]=false:=by decide +kernel
theorem bFb:dN [95]=false:=by decide +kernel
theorem bDc {t:LTerm} {d:Int} (h:dol t d=false):¬ (t.kind=6∧t.text=[36]):=by
 unfold dol at h
 rw [aFv (f:=fun x=>decide (x.kind=6) && decide (x.text=[36])),uM] at h
 intro q
 have:=h.1
 simp [q.1,q.2] at this
theorem aGe {k:LTerm} (h:nodeB k=true) (h6:k.kind=6) (hd:¬ k.text=[36]):dN k.text = !decide (k.text=[95]):=by
 by_cases h5:k.text=[95]
 · rw [h5,bFb]; simp
 · have:vO k.text=false:=by simp [vO,h5,hd]
   have hh:nodeB k=(if vO k.text=true then decide (k.sort=aJu) && eY k false true true false false else dN k.text && dN k.sort && eY k false true true false false):=by simp only [nodeB,h6,Int.reduceEq,if_false,if_true]
   rw [hh,this,if_neg (by simp)] at h
   simp only [aA] at h
   rw [h.1.1]; simp [h5]
theorem aQv:∀ t:LTerm,wfT nodeB t=true→∀ d:Int,((vis t d).all fun v=>R7 v.1)=(!dol t d && pG t):=
 dO (Q := fun t=>wfT nodeB t=true→∀ d:Int,((vis t d).all fun v=>R7 v.1)=(!dol t d && pG t)) fun t hk hr hw d=>by
   have hw':=oR.1 hw
   have ek:(t.kids.all fun k=>(vis k (d+1)).all fun v=>R7 v.1)=(t.kids.all fun k => !dol k (d+1) && pG k):=by
     rw [cI,aN,aN]
     exact ⟨fun h k hm=>by rw [← hk k hm (hw'.2 k hm) (d+1)]; exact h k hm,fun h k hm=>by rw [hk k hm (hw'.2 k hm) (d+1)]; exact h k hm⟩
   have er:(t.rest.all fun k=>(vis k (d+1)).all fun v=>R7 v.1)=true:=by
     rw [aN]
     intro r hm
     obtain ⟨h6,hn,h1,h2⟩:=rS hw'.1 hm
     rw [uP h1 h2]
     have:¬ r.text=[36]:=fun e=>by rw [e,aSl] at hn; cases hn
     simp [R7,h6,this]
   have dr:(t.rest.any fun k=>(vis k (d+1)).any fun v=>decide (v.1.kind=6) && decide (v.1.text=[36]))=false:=by
     rw [eW]
     intro r hm
     obtain ⟨h6,hn,h1,h2⟩:=rS hw'.1 hm
     rw [uP h1 h2]
     have:¬ r.text=[36]:=fun e=>by rw [e,aSl] at hn; cases hn
     simp [this]
   have ed:dol t d=((decide (t.kind=6) && decide (t.text=[36])) || t.kids.any fun k=>dol k (d+1)):=by
     unfold dol
     rw [aFv (f:=fun x=>decide (x.kind=6) && decide (x.text=[36])),List.any_append,dr,cG]
   rw [bJy,iY,ek,er,Bool.and_true,ed,aHw]
   rw [cI]
   simp only [R7,aA,bV,uM,bJ,aN,eW,lV]
   constructor
   · rintro ⟨⟨h1,h2⟩,h3⟩
     refine ⟨⟨h1,fun k hm=>by simpa using (h3 k hm).1⟩,fun j hj=>?_⟩
     have hm:=aU (d:=default) hj
     refine ⟨(h3 _ hm).2,?_⟩
     unfold bCu
     by_cases h8:t.kind=8
     · by_cases he:j % 2=0
       · rcases h2 with h2 | h2
         · simp [h8] at h2
         · unfold lO at h2
           rw [lV] at h2
           have q:=h2 (j / 2) (by omega)
           rw [show 2 * (j / 2)=j by omega] at q
           have hd:=bDc (h3 _ hm).1
           generalize t.kids.getD j default=k at *
           unfold bCv at q
           by_cases hkk:zG k=true
           · simp [hkk]
           · simp only [X5] at hkk
             rw [hkk,cT,aA,decide_eq_true_eq] at q
             have hv:=aGe (oR.1 (hw'.2 _ hm)).1 q.1 (fun e=>hd ⟨q.1,e⟩)
             rw [hv,q.2]; simp [q.1]
       · simp [he]
     · simp [h8]
   · rintro ⟨⟨h1,h2⟩,h3⟩
     have hall:∀ k ∈ t.kids,dol k (d+1)=false∧pG k=true:=fun k hm=>by
       obtain ⟨j,hj,he⟩:=bU.1 hm
       have:=(h3 j hj).1
       rw [show t.kids.getD j default=k by simp [List.getD,hj,he]] at this
       exact ⟨by simpa using h2 k hm,this⟩
     refine ⟨⟨h1,?_⟩,hall⟩
     by_cases h8:t.kind=8
     · right
       unfold lO
       rw [lV]
       intro j hj
       have hj2:2 * j < t.kids.length:=by omega
       have q:=(h3 (2 * j) hj2).2
       have hm:=aU (d:=default) hj2
       have hd:=bDc (hall _ hm).1
       generalize t.kids.getD (2 * j) default=k at *
       unfold bCu at q
       unfold bCv
       by_cases hkk:zG k=true
       · simp [hkk]
       · simp only [X5] at hkk
         simp only [h8,decide_true,hkk,Bool.not_false,Bool.and_true,Bool.true_and,show 2 * j % 2=0 by omega,bV,uM,decide_eq_false_iff_not,L6] at q
         have q1:k.kind=6:=by simpa using q.1
         have q2:dN k.text=true:=by simpa using q.2
         have hv:=aGe (oR.1 (hw'.2 _ hm)).1 q1 (fun e=>hd ⟨q1,e⟩)
         rw [hv] at q2
         simp [q1,q2]
     · left; simp [h8]

structure LTest where
 op:Int
 term:LTerm
 text:Str
 n:Int
structure LAsk where
 path:List Int
 test:LTest
instance:Inhabited LTest:=⟨⟨0,default,[],0⟩⟩
instance:Inhabited LAsk:=⟨⟨[],default⟩⟩
def dT (x:LTest):List AV:=[.i .i64 x.op,.i .i64 x.term.kind,.i .i64 x.term.n,.s x.term.text,.s x.term.sort,avt x.term.kids,avt x.term.rest,.s x.text,.i .i64 x.n]
def aJ (a:LAsk):List AV:=[.sl (a.path.map (.i .i64)) a.path.length,.i .i64 a.test.op,.i .i64 a.test.term.kind,.i .i64 a.test.term.n,.s a.test.term.text,.s a.test.term.sort,avt a.test.term.kids,avt a.test.term.rest,.s a.test.text,.i .i64 a.test.n]
theorem I4 (a:LAsk):(aJ a).length=10:=rfl
def ava (l:List LAsk):AV:=.sl (l.flatMap aJ) l.length
def jA (a b:LTest):Bool:=decide (a.op=b.op) && (decide (a.text=b.text) && (decide (a.n=b.n) && decide (a.term=b.term)))
def oH (a b:LAsk):Bool:=decide (a.path=b.path) && jA a.test b.test
theorem bDj (a b:LTest) (ha:OkT a.term) (hb:OkT b.term): CT 111 [.agg (dT a),.agg (dT b)] (.b (jA a b)):=by
 refine bQ mixed Tryz.func111 g0 ?_
 · simp -implicitDefEqProofs (disch:=omega) only [Tryz.f111,go_sem,List.replicate,simprocAttr,dT,avt]
   (refine zt1 (aJd a.term b.term ha hb) ?_; repeat' first | exact trivial | refine zJ ?_ ?_ | refine zH fun hc=>?_)
   all_goals (refine aF ?_ rfl; simp_all [jA])
theorem aPu {l m:List Int} {k:Nat} (hk:k < l.length) (h:¬ l.getD k 0=m.getD k 0):decide (l=m)=false:=zf (fun e=>h (by rw [e]))
theorem aAp {l m:List Int} (hl:l.length=m.length) (h:∀ j,j < l.length→l.getD j 0=m.getD j 0):decide (l=m)=true:=by
 rw [decide_eq_true_eq]
 apply X4 hl
 intro j h1 h2
 have:=h j h1
 simpa [List.getD,h1,h2] using this
theorem bOy (a b:LAsk) (ha:OkT a.test.term) (hb:OkT b.test.term) (hl:a.path.length≤1000000) (hm:b.path.length≤1000000): CT 56 [.agg (aJ a),.agg (aJ b)] (.b (oH a b)):=by
 refine cY (rx:=true) (th:=fun _=>none) mixed Tryz.func56 g0 ?_
 · simp -implicitDefEqProofs (disch:=omega) only [Tryz.f56,go_sem,List.replicate,simprocAttr,aJ,avt]
   have ct:=bDj a.test b.test ha hb
   simp only [dT,avt] at ct
   by_cases he:a.path.length=b.path.length
   · have hei:((a.path.length:Nat):Int)=((b.path.length:Nat):Int):=by omega
     refine zh (zt hei) ?_
     (refine zx0 (zt hei) ?_; repeat' first | exact trivial | refine zJ ?_ ?_ | refine zH fun hc=>?_)
     refine bP (fun (k:Nat)=>[.k,.k,.k,.k,.j,.j,.k,.k,.k,.k,.k,.k,.k,.k,.k,.k,.v (.i .i64 (k:Nat)),.j,.j,.j,.j,.j,.j,.j,.j,.j,.j,.j,.j,.j,.j,.k,.k,.k,.k,.k]) (fun k=>[.box false (aJ a),.box false (aJ b)]) (fun k=>k≤a.path.length∧∀ j,j < k→a.path.getD j 0=b.path.getD j 0) (fun k=>a.path.length - k) (0) ⟨aG _,fun j h=>by omega⟩ rfl (by simp [eN]) ?_
     rintro k j ⟨hk,ha2⟩
     refine zh (zA2 @aJ.eq_1 @avt.eq_1) ?_
     (refine zy1 (zA2 @aJ.eq_1 @avt.eq_1) ct ?_; repeat' first | exact trivial | refine zJ ?_ ?_ | refine zH fun hc=>?_)
     · exact aF (by rw [oH,aPu (by omega) hc]; rfl) rfl
     · exact ⟨k+1,⟨by omega,bD ha2 hc⟩,by omega,rfl⟩
     · exact aF (by rw [oH,aAp he (fun j hj=>ha2 j (by omega)),Bool.true_and]) rfl
   · have hei:¬ ((a.path.length:Nat):Int)=((b.path.length:Nat):Int):=by omega
     refine zh (zf hei) ?_
     (refine zx0 (zf hei) ?_; repeat' first | exact trivial | refine zJ ?_ ?_ | refine zH fun hc=>?_)
     all_goals exact aF (by rw [oH,zf (fun e=>he (by rw [e]))]; rfl) rfl

theorem bGk (a:LAsk):persL (aJ a)=true:=by
 simp [aJ,persL,pers,eP,avt,iH]
theorem rU {l:List LAsk}:persL (l.flatMap aJ)=true:=jN fun x _=>bGk x
section
variable {k:Nat} {l:List LAsk}
theorem aUf (h:k < l.length):((l.flatMap aJ).drop (k * 10)).take 10=aJ (l.getD k default):=by
 rw [qN I4]
 simp [h,List.getD]
theorem oC:(l.flatMap aJ).length=l.length * 10:=oA I4 l
theorem bAw:(l.flatMap aJ).take (k * 10)=(l.take k).flatMap aJ:=F3 I4 l k
end
attribute [go_sem] aUf oC bAw rU bGk

abbrev zT:LTerm:=.mk 0 0 [] [] [] []
mutual
def cK:LTerm→List Int→List LAsk
 | .mk k n x so ks rs,p=>
   if k=5 then ⟨p,⟨2,zT,x,ks.length⟩⟩::testsL ks p 0
   else if k=7 then ⟨p,⟨if 0 < rs.length then 4 else 3,zT,[],ks.length⟩⟩::testsL ks p 0
   else if k=8 then [⟨p,⟨5,zT,[],0⟩⟩]
   else if k=6 then (if so=aJu then [] else [⟨p,⟨6,zT,so,0⟩⟩])
   else [⟨p,⟨1,.mk k n x so ks rs,[],0⟩⟩]
def testsL:List LTerm→List Int→Nat→List LAsk
 | [],_,_=>[]
 | t::l,p,i=>cK t (p++[(i:Int)])++testsL l p (i+1)
end
theorem hX (t:LTerm) (p:List Int):cK t p=if t.kind=5 then ⟨p,⟨2,zT,t.text,t.kids.length⟩⟩::testsL t.kids p 0
   else if t.kind=7 then ⟨p,⟨if 0 < t.rest.length then 4 else 3,zT,[],t.kids.length⟩⟩::testsL t.kids p 0
   else if t.kind=8 then [⟨p,⟨5,zT,[],0⟩⟩]
   else if t.kind=6 then (if t.sort=aJu then [] else [⟨p,⟨6,zT,t.sort,0⟩⟩])
   else [⟨p,⟨1,t,[],0⟩⟩]:=by cases t; rw [cK]; rfl
theorem T0 {H:List AObj} {id:Nat} {p:List Int} {op n:Int} {te:LTerm} {x:Str} {v4 v5:AV} (h4:v4=avt te.kids∨(v4=.e0∧te.kids=[])) (h5:v5=avt te.rest∨(v5=.e0∧te.rest=[]))
   (h:H[id]? = some (.arr false 10 [.sl (p.map (.i .i64)) p.length,.i .i64 op,.i .i64 te.kind,.i .i64 te.n,.s te.text,.s te.sort,v4,v5,.s x,.i .i64 n])):Fin H (.hs id 0 1 false) (ava [⟨p,⟨op,te,x,n⟩⟩]):=by
 refine .inr ⟨?_,cR,fun i hi=>absurd hi (by show ¬ i ∈ []; simp)⟩
 show ava _=gH dep H (.hs id 0 1 false)
 rcases h4 with rfl | ⟨rfl,e4⟩ <;> rcases h5 with rfl | ⟨rfl,e5⟩
 all_goals
   simp only [fV,pers,rH,h,aM,if_false]
   simp [ava,aJ,persL,pers,eP,avt,iH,Z4,aOp, *]
theorem aVs (t:LTerm) (p:List Int) (ht:OkT t) (h5:¬ t.kind=5) (h7:¬ t.kind=7): CT 46 [elT t,.sl (p.map (.i .i64)) p.length] (ava (cK t p)):=by
 refine cY (rx:=true) (th:=fun i=>if i=20 then some ⟨none,[],true,false,false,[],[]⟩ else none) mixed Tryz.func46 g0 ?_
 · simp -implicitDefEqProofs (disch:=omega) only [Tryz.f46,go_sem,List.replicate,↓reduceIte,reduceAdd,reduceSub,reduceMul,reduceLeDiff,reduceLT,reduceEqDiff,reduceNeg,Nat.reduceBEq]
   rw [hX,if_neg h5,if_neg h7]
   by_cases h8:t.kind=8
   · rw [if_pos h8]
     simp -implicitDefEqProofs (disch:=omega) only [zf h5,zf h7,zt h8,fU,go_sem,↓reduceIte,reduceAdd,reduceSub,reduceMul,reduceLeDiff,reduceLT,reduceEqDiff,reduceNeg,Nat.reduceBEq]
     exact T0 (te:=zT) (.inr ⟨rfl,rfl⟩) (.inr ⟨rfl,rfl⟩) rfl
   · rw [if_neg h8]
     by_cases h6:t.kind=6
     · rw [if_pos h6]
       refine zh (zA2 (zf h5) (zA2 (zf h7) (zA2 (zf h8) (zA2 (zt h6) @fU)))) ?_
       (repeat' (first | refine gT ?_ ?_ | refine gF ?_ ?_ | refine gC ?_ ?_ | refine bB (by omega) ?_ | (intro hr; have hc:=hr; (try simp only [zdz] at hc); simp -implicitDefEqProofs (disch:=omega) only [hr,zf h5,zf h7,zf h8,zt h6,fU,go_sem,↓reduceIte,reduceAdd,reduceSub,reduceMul,reduceLeDiff,reduceLT,reduceEqDiff,reduceNeg,Nat.reduceBEq]; (try clear hr))))
       · rw [if_pos hc]
         exact .inr ⟨rfl,cR,fun i hi=>absurd hi (by show ¬ i ∈ []; simp)⟩
       · rw [if_neg hc]
         exact T0 (te:=zT) (.inr ⟨rfl,rfl⟩) (.inr ⟨rfl,rfl⟩) rfl
     · rw [if_neg h6]
       simp -implicitDefEqProofs (disch:=omega) only [zf h5,zf h7,zf h8,zf h6,fU,go_sem,↓reduceIte,reduceAdd,reduceSub,reduceMul,reduceLeDiff,reduceLT,reduceEqDiff,reduceNeg,Nat.reduceBEq]
       exact T0 (te:=t) (.inl rfl) (.inl rfl) rfl
theorem jG:∀ {l:List LTerm} {p:List Int} {i k:Nat},k < l.length→testsL (l.take (k+1)) p i=testsL (l.take k) p i++cK (l.getD k default) (p++[((i+k:Nat):Int)])
 | t::l,p,i,0,_=>by simp [testsL]
 | t::l,p,i,k+1,h=>by
   rw [eO,testsL,eO,testsL,jG (k:=k) (by simpa using h),bL,show i+1+k=i+(k+1) by omega]; simp
 | [],_,_,_,h=>by simp at h
theorem uT:∀ {l m:List LTerm} {p:List Int} {i:Nat},testsL (l++m) p i=testsL l p i++testsL m p (i+l.length)
 | [],m,p,i=>by simp [testsL]
 | t::l,m,p,i=>by rw [bR,testsL,testsL,uT,bL,aI,show i+1+l.length=i+(l.length+1) by omega]
theorem kG {l:List LTerm} {p:List Int} {k:Nat}:(testsL (l.take k) p 0).length≤(testsL l p 0).length:=by
 have:testsL l p 0=testsL (l.take k) p 0++testsL (l.drop k) p (0+(l.take k).length):=by rw [← uT,fJ]
 rw [this,aE]; omega
theorem aAz {H:List AObj}:∀ {l:List AV},persL l=true→l.map (gH 8 H)=l
 | [],_=>rfl
 | a::l,h=>by
   rw [xK,aA] at h
   rw [aT,aAz h.2,Z4,if_pos h.1]
theorem S9 {g:List AObj} {a b:AObj} {p:List Int} {op n:Int} {x:Str} {L:List LAsk} {out:AV} (ho:dV 10 2 g out ([.sl (p.map (.i .i64)) p.length,.i .i64 op,.i .i64 0,.i .i64 0,.s [],.s [],.e0,.e0,.s x,.i .i64 n]++L.flatMap aJ) (L.length+1)):Fin (a::b::g) out (ava (⟨p,⟨op,zT,x,n⟩⟩::L)):=by
 rcases ho with ⟨_,h0,_⟩ | ⟨i,rfl,hi,hil⟩
 · simp at h0
 · refine .inr ⟨?_,cR,fun i hi=>absurd hi (by show ¬ i ∈ []; simp)⟩
   show ava _=gH dep _ (.hs (i+2) 0 (L.length+1) false)
   have h:(a::b::g)[i+2]? = g[i]? := by simp
   simp only [fV,pers,aM,if_false,rH,h,hi,cM,cZ]
   rw [if_pos (by rw [hil]; exact aZ _),aH (by rw [hil]; exact aZ _)]
   have hp:persL ([.sl (p.map (.i .i64)) p.length,.i .i64 op,.i .i64 0,.i .i64 0,.s [],.s [],.e0,.e0,.s x,.i .i64 n]++L.flatMap aJ)=false:=by
     rw [gD]; simp [persL,pers,eP]
   rw [if_neg (by rw [hp]; simp),aV,aAz rU]
   simp [ava,aJ,avt,Z4,aOp,pers,eP,LTerm.kind,LTerm.n,LTerm.text,LTerm.sort,LTerm.kids,LTerm.rest,persL]
theorem aEu {c:Bool} {a b u:AObj} {g:List AObj} {q:List AV}:∃ z,(if c=true then a::b::(g++[u,.dead,.arr false 1 q]) else a::b::(g++[u,.dead,.arr true 1 q]))=a::b::(g++[u,.dead,z]):=by cases c <;> exact ⟨_,rfl⟩
theorem aOc (t:LTerm) (p:List Int) (ht:OkT t) (hp:p.length≤1000) (h5:t.kind=5) (hl:(testsL t.kids p 0).length≤1000000) (ih:∀ k,k < t.kids.length→CT 46 [elT (t.kids.getD k default),.sl ((p++[(k:Int)]).map (.i .i64)) (p.length+1)] (ava (cK (t.kids.getD k default) (p++[(k:Int)])))): CT 46 [elT t,.sl (p.map (.i .i64)) p.length] (ava (cK t p)):=by
 refine cY (rx:=true) (th:=fun i=>if i=20 then some ⟨none,[],true,false,false,[],[]⟩ else none) mixed Tryz.func46 g0 ?_
 · simp -implicitDefEqProofs (disch:=omega) only [Tryz.f46,go_sem,List.replicate,↓reduceIte,reduceAdd,reduceSub,reduceMul,reduceLeDiff,reduceLT,reduceEqDiff,reduceNeg,Nat.reduceBEq]
   rw [hX,if_pos h5]
   have hkk:=ht.kids
   simp -implicitDefEqProofs (disch:=omega) only [zt h5,fU,go_sem,↓reduceIte,reduceAdd,reduceSub,reduceMul,reduceLeDiff,reduceLT,reduceEqDiff,reduceNeg,Nat.reduceBEq]
   (repeat' (first | refine gT ?_ ?_ | refine gF ?_ ?_ | refine gC ?_ ?_ | refine bB (by omega) ?_ | (intro hr; have hc:=hr; (try simp only [zdz] at hc); simp -implicitDefEqProofs (disch:=omega) only [hr,zt h5,fU,go_sem,↓reduceIte,reduceAdd,reduceSub,reduceMul,reduceLeDiff,reduceLT,reduceEqDiff,reduceNeg,Nat.reduceBEq]; (try clear hr))))
   refine bP (fun (s:Nat × AV × List AObj)=>[.k,.k,.k,.k,.k,.k,.v (s.2.1),.j,.j,.k,.k,.k,.k,.k,.k,.k,.k,.k,.k,.k,.k,.k,.k,.k,.k,.k,.k,.k,.k,.k,.k,.k,.k,.k,.k,.k,.k,.k,.k,.k,.k,.k,.k,.k,.k,.k,.k,.k,.k,.k,.k,.k,.k,.k,.k,.k,.k,.k,.k,.v (.i .i64 (s.1:Nat)),.j,.j,.j,.j,.j,.j,.j,.j,.j,.j,.j,.j,.j,.j,.j,.k]) (fun s=>(.box false [.i .i64 (t).kind,.i .i64 (t).n,.s (t).text,.s (t).sort,.sl ((t).kids.flatMap aC) (t).kids.length,.sl ((t).rest.flatMap aC) (t).rest.length]::.box false [.i .i64 (2),.i .i64 0,.i .i64 0,.s [],.s [],.e0,.e0,.s t.text,.i .i64 (t.kids.length:Nat)]::s.2.2)) (fun s=>s.1≤t.kids.length∧dV 10 2 s.2.2 s.2.1 ([.sl (p.map (.i .i64)) p.length,.i .i64 (2),.i .i64 0,.i .i64 0,.s [],.s [],.e0,.e0,.s t.text,.i .i64 (t.kids.length:Nat)]++(testsL (t.kids.take s.1) p 0).flatMap aJ) ((testsL (t.kids.take s.1) p 0).length+1)) (fun s=>t.kids.length - s.1) ((0,.hs 2 0 1 false,_)) ⟨aG _,.inr ⟨0,rfl,by simp [testsL],rfl⟩⟩ rfl (by simp [eN]) ?_
   rintro ⟨k,out,g⟩ j ⟨hk,ho⟩
   dsimp only at hk ho
   by_cases hlt:k < t.kids.length
   · have hki:(k:Int) < ((t.kids.length:Nat):Int):=by omega
     have c:=ih k hlt
     have b1:p.length * 8≤140737488355328:=by omega
     have b2:p.length≤140737488355328:=by omega
     have b3:(p.length+1) * 8≤140737488355328:=by omega
     have b4:p.length≤140737488355327:=by omega
     simp only [aV,aT,bN,ava] at c
     have htk:List.take (p.length+1) (List.map (AV.i IntKind.i64) p++[AV.i IntKind.i64 (k:Int)])=List.map (AV.i IntKind.i64) p++[AV.i IntKind.i64 (k:Int)]:=aH (by simp)
     have hps:persL (List.map (AV.i IntKind.i64) p++[AV.i IntKind.i64 (k:Int)])=true:=by rw [gD,eP]; rfl
     refine zh (zA2 (zt hki) @fU) ?_
     (refine zy1 (zA2 (zt hki) (zA2 @fU (zA2 @b1 (zA2 @b2 (zA2 b3 (zA2 b4 (zA2 @eH.{0,0} (zA2 aZ (zA2 htk hps))))))))) c ?_; repeat' first | exact trivial | refine zJ ?_ ?_ | refine zH fun hc=>?_)
     have hm:=kG (l:=t.kids) (p:=p) (k:=k+1)
     have htl:=jG (l:=t.kids) (p:=p) (i:=0) hlt
     rw [cM] at htl
     rw [htl,aE] at hm
     generalize cK (t.kids.getD k default) (p++[(k:Int)])=Y at *
     obtain ⟨z,hz⟩:=aEu (c:=((List.flatMap aJ Y).isEmpty && Y.length == 0)) (a:=.box false [.i .i64 (t).kind,.i .i64 (t).n,.s (t).text,.s (t).sort,.sl ((t).kids.flatMap aC) (t).kids.length,.sl ((t).rest.flatMap aC) (t).rest.length]) (b:=.box false [.i .i64 (2),.i .i64 0,.i .i64 0,.s [],.s [],.e0,.e0,.s t.text,.i .i64 (t.kids.length:Nat)]) (u:=.box false [.i .i64 (t.kids.getD k default).kind,.i .i64 (t.kids.getD k default).n,.s (t.kids.getD k default).text,.s (t.kids.getD k default).sort,.sl ((t.kids.getD k default).kids.flatMap aC) (t.kids.getD k default).kids.length,.sl ((t.kids.getD k default).rest.flatMap aC) (t.kids.getD k default).rest.length]) (g:=g) (q:=List.map (AV.i IntKind.i64) p++[AV.i IntKind.i64 (k:Int)])
     rw [hz]
     refine dU (pre:=[.box false [.i .i64 (t).kind,.i .i64 (t).n,.s (t).text,.s (t).sort,.sl ((t).kids.flatMap aC) (t).kids.length,.sl ((t).rest.flatMap aC) (t).rest.length],.box false [.i .i64 (2),.i .i64 0,.i .i64 0,.s [],.s [],.e0,.e0,.s t.text,.i .i64 (t.kids.length:Nat)]]) (g:=g) (more:=[.box false [.i .i64 (t.kids.getD k default).kind,.i .i64 (t.kids.getD k default).n,.s (t.kids.getD k default).text,.s (t.kids.getD k default).sort,.sl ((t.kids.getD k default).kids.flatMap aC) (t.kids.getD k default).kids.length,.sl ((t.kids.getD k default).rest.flatMap aC) (t.kids.getD k default).rest.length],.dead,z]) (news:=Y.flatMap aJ) (m:=Y.length) ho rfl (by rfl) bKr bKj bKl bKs rfl (by decide) (by simp -implicitDefEqProofs (disch:=omega) only [go_sem,↓reduceIte,reduceAdd,reduceSub,reduceMul,reduceLeDiff,reduceLT,reduceEqDiff,reduceNeg,Nat.reduceBEq]) (by simp -implicitDefEqProofs (disch:=omega) only [go_sem,↓reduceIte,reduceAdd,reduceSub,reduceMul,reduceLeDiff,reduceLT,reduceEqDiff,reduceNeg,Nat.reduceBEq]) ⟨by omega,by omega⟩ ?_
     intro out' g' ho' _
     refine zg ?_
     refine ⟨(k+1,out',g'),⟨by dsimp only; omega,?_⟩,by dsimp only; omega,rfl,by simp⟩
     dsimp only
     rw [htl,dP,aE]
     rw [bL,show (testsL (t.kids.take k) p 0).length+1+Y.length=(testsL (t.kids.take k) p 0).length+Y.length+1 by omega] at ho'
     exact ho'
   · have hki:¬ (k:Int) < ((t.kids.length:Nat):Int):=by omega
     have hkt:t.kids.take k=t.kids:=aH (by omega)
     rw [hkt] at ho
     refine zh (zf hki) ?_
     exact S9 ho
theorem aKt (t:LTerm) (p:List Int) (ht:OkT t) (hp:p.length≤1000) (h7:t.kind=7) (hr:0 < t.rest.length) (hl:(testsL t.kids p 0).length≤1000000) (ih:∀ k,k < t.kids.length→CT 46 [elT (t.kids.getD k default),.sl ((p++[(k:Int)]).map (.i .i64)) (p.length+1)] (ava (cK (t.kids.getD k default) (p++[(k:Int)])))): CT 46 [elT t,.sl (p.map (.i .i64)) p.length] (ava (cK t p)):=by
 refine cY (rx:=true) (th:=fun i=>if i=20 then some ⟨none,[],true,false,false,[],[]⟩ else none) mixed Tryz.func46 g0 ?_
 · simp -implicitDefEqProofs (disch:=omega) only [Tryz.f46,go_sem,List.replicate,↓reduceIte,reduceAdd,reduceSub,reduceMul,reduceLeDiff,reduceLT,reduceEqDiff,reduceNeg,Nat.reduceBEq]
   have h5:¬ t.kind=5:=by omega
   have hri:(0:Int) < ((t.rest.length:Nat):Int):=by omega
   rw [hX,if_neg h5,if_pos h7,if_pos hr]
   have hkk:=ht.kids
   simp -implicitDefEqProofs (disch:=omega) only [zf h5,zt h7,zt hri,fU,go_sem,↓reduceIte,reduceAdd,reduceSub,reduceMul,reduceLeDiff,reduceLT,reduceEqDiff,reduceNeg,Nat.reduceBEq]
   (repeat' (first | refine gT ?_ ?_ | refine gF ?_ ?_ | refine gC ?_ ?_ | refine bB (by omega) ?_ | (intro hr; have hc:=hr; (try simp only [zdz] at hc); simp -implicitDefEqProofs (disch:=omega) only [hr,zf h5,zt h7,zt hri,fU,go_sem,↓reduceIte,reduceAdd,reduceSub,reduceMul,reduceLeDiff,reduceLT,reduceEqDiff,reduceNeg,Nat.reduceBEq]; (try clear hr))))
   refine bP (fun (s:Nat × AV × List AObj)=>[.k,.k,.k,.k,.k,.k,.v (s.2.1),.j,.j,.k,.k,.k,.k,.k,.k,.k,.k,.k,.k,.k,.k,.k,.k,.k,.k,.k,.k,.k,.k,.k,.k,.k,.k,.k,.k,.k,.k,.k,.k,.k,.k,.k,.k,.k,.k,.k,.k,.k,.k,.k,.k,.k,.k,.k,.k,.k,.k,.k,.k,.v (.i .i64 (s.1:Nat)),.j,.j,.j,.j,.j,.j,.j,.j,.j,.j,.j,.j,.j,.j,.j,.k]) (fun s=>(.box false [.i .i64 (t).kind,.i .i64 (t).n,.s (t).text,.s (t).sort,.sl ((t).kids.flatMap aC) (t).kids.length,.sl ((t).rest.flatMap aC) (t).rest.length]::.box false [.i .i64 (4),.i .i64 0,.i .i64 0,.s [],.s [],.e0,.e0,.s [],.i .i64 (t.kids.length:Nat)]::s.2.2)) (fun s=>s.1≤t.kids.length∧dV 10 2 s.2.2 s.2.1 ([.sl (p.map (.i .i64)) p.length,.i .i64 (4),.i .i64 0,.i .i64 0,.s [],.s [],.e0,.e0,.s [],.i .i64 (t.kids.length:Nat)]++(testsL (t.kids.take s.1) p 0).flatMap aJ) ((testsL (t.kids.take s.1) p 0).length+1)) (fun s=>t.kids.length - s.1) ((0,.hs 2 0 1 false,_)) ⟨aG _,.inr ⟨0,rfl,by simp [testsL],rfl⟩⟩ rfl (by simp [eN]) ?_
   rintro ⟨k,out,g⟩ j ⟨hk,ho⟩
   dsimp only at hk ho
   by_cases hlt:k < t.kids.length
   · have hki:(k:Int) < ((t.kids.length:Nat):Int):=by omega
     have c:=ih k hlt
     have b1:p.length * 8≤140737488355328:=by omega
     have b2:p.length≤140737488355328:=by omega
     have b3:(p.length+1) * 8≤140737488355328:=by omega
     have b4:p.length≤140737488355327:=by omega
     simp only [aV,aT,bN,ava] at c
     have htk:List.take (p.length+1) (List.map (AV.i IntKind.i64) p++[AV.i IntKind.i64 (k:Int)])=List.map (AV.i IntKind.i64) p++[AV.i IntKind.i64 (k:Int)]:=aH (by simp)
     have hps:persL (List.map (AV.i IntKind.i64) p++[AV.i IntKind.i64 (k:Int)])=true:=by rw [gD,eP]; rfl
     refine zh (zA2 (zt hki) @fU) ?_
     (refine zy1 (zA2 (zt hki) (zA2 @fU (zA2 @b1 (zA2 @b2 (zA2 b3 (zA2 b4 (zA2 @eH.{0,0} (zA2 aZ (zA2 htk hps))))))))) c ?_; repeat' first | exact trivial | refine zJ ?_ ?_ | refine zH fun hc=>?_)
     have hm:=kG (l:=t.kids) (p:=p) (k:=k+1)
     have htl:=jG (l:=t.kids) (p:=p) (i:=0) hlt
     rw [cM] at htl
     rw [htl,aE] at hm
     generalize cK (t.kids.getD k default) (p++[(k:Int)])=Y at *
     obtain ⟨z,hz⟩:=aEu (c:=((List.flatMap aJ Y).isEmpty && Y.length == 0)) (a:=.box false [.i .i64 (t).kind,.i .i64 (t).n,.s (t).text,.s (t).sort,.sl ((t).kids.flatMap aC) (t).kids.length,.sl ((t).rest.flatMap aC) (t).rest.length]) (b:=.box false [.i .i64 (4),.i .i64 0,.i .i64 0,.s [],.s [],.e0,.e0,.s [],.i .i64 (t.kids.length:Nat)]) (u:=.box false [.i .i64 (t.kids.getD k default).kind,.i .i64 (t.kids.getD k default).n,.s (t.kids.getD k default).text,.s (t.kids.getD k default).sort,.sl ((t.kids.getD k default).kids.flatMap aC) (t.kids.getD k default).kids.length,.sl ((t.kids.getD k default).rest.flatMap aC) (t.kids.getD k default).rest.length]) (g:=g) (q:=List.map (AV.i IntKind.i64) p++[AV.i IntKind.i64 (k:Int)])
     rw [hz]
     refine dU (pre:=[.box false [.i .i64 (t).kind,.i .i64 (t).n,.s (t).text,.s (t).sort,.sl ((t).kids.flatMap aC) (t).kids.length,.sl ((t).rest.flatMap aC) (t).rest.length],.box false [.i .i64 (4),.i .i64 0,.i .i64 0,.s [],.s [],.e0,.e0,.s [],.i .i64 (t.kids.length:Nat)]]) (g:=g) (more:=[.box false [.i .i64 (t.kids.getD k default).kind,.i .i64 (t.kids.getD k default).n,.s (t.kids.getD k default).text,.s (t.kids.getD k default).sort,.sl ((t.kids.getD k default).kids.flatMap aC) (t.kids.getD k default).kids.length,.sl ((t.kids.getD k default).rest.flatMap aC) (t.kids.getD k default).rest.length],.dead,z]) (news:=Y.flatMap aJ) (m:=Y.length) ho rfl (by rfl) bKr bKj bKl bKs rfl (by decide) (by simp -implicitDefEqProofs (disch:=omega) only [go_sem,↓reduceIte,reduceAdd,reduceSub,reduceMul,reduceLeDiff,reduceLT,reduceEqDiff,reduceNeg,Nat.reduceBEq]) (by simp -implicitDefEqProofs (disch:=omega) only [go_sem,↓reduceIte,reduceAdd,reduceSub,reduceMul,reduceLeDiff,reduceLT,reduceEqDiff,reduceNeg,Nat.reduceBEq]) ⟨by omega,by omega⟩ ?_
     intro out' g' ho' _
     refine zg ?_
     refine ⟨(k+1,out',g'),⟨by dsimp only; omega,?_⟩,by dsimp only; omega,rfl,by simp⟩
     dsimp only
     rw [htl,dP,aE]
     rw [bL,show (testsL (t.kids.take k) p 0).length+1+Y.length=(testsL (t.kids.take k) p 0).length+Y.length+1 by omega] at ho'
     exact ho'
   · have hki:¬ (k:Int) < ((t.kids.length:Nat):Int):=by omega
     have hkt:t.kids.take k=t.kids:=aH (by omega)
     rw [hkt] at ho
     refine zh (zf hki) ?_
     exact S9 ho
theorem aKs (t:LTerm) (p:List Int) (ht:OkT t) (hp:p.length≤1000) (h7:t.kind=7) (hr:¬ 0 < t.rest.length) (hl:(testsL t.kids p 0).length≤1000000) (ih:∀ k,k < t.kids.length→CT 46 [elT (t.kids.getD k default),.sl ((p++[(k:Int)]).map (.i .i64)) (p.length+1)] (ava (cK (t.kids.getD k default) (p++[(k:Int)])))): CT 46 [elT t,.sl (p.map (.i .i64)) p.length] (ava (cK t p)):=by
 refine cY (rx:=true) (th:=fun i=>if i=20 then some ⟨none,[],true,false,false,[],[]⟩ else none) mixed Tryz.func46 g0 ?_
 · simp -implicitDefEqProofs (disch:=omega) only [Tryz.f46,go_sem,List.replicate,↓reduceIte,reduceAdd,reduceSub,reduceMul,reduceLeDiff,reduceLT,reduceEqDiff,reduceNeg,Nat.reduceBEq]
   have h5:¬ t.kind=5:=by omega
   have hri:¬ (0:Int) < ((t.rest.length:Nat):Int):=by omega
   rw [hX,if_neg h5,if_pos h7,if_neg hr]
   have hkk:=ht.kids
   simp -implicitDefEqProofs (disch:=omega) only [zf h5,zt h7,zf hri,fU,go_sem,↓reduceIte,reduceAdd,reduceSub,reduceMul,reduceLeDiff,reduceLT,reduceEqDiff,reduceNeg,Nat.reduceBEq]
   (repeat' (first | refine gT ?_ ?_ | refine gF ?_ ?_ | refine gC ?_ ?_ | refine bB (by omega) ?_ | (intro hr; have hc:=hr; (try simp only [zdz] at hc); simp -implicitDefEqProofs (disch:=omega) only [hr,zf h5,zt h7,zf hri,fU,go_sem,↓reduceIte,reduceAdd,reduceSub,reduceMul,reduceLeDiff,reduceLT,reduceEqDiff,reduceNeg,Nat.reduceBEq]; (try clear hr))))
   refine bP (fun (s:Nat × AV × List AObj)=>[.k,.k,.k,.k,.k,.k,.v (s.2.1),.j,.j,.k,.k,.k,.k,.k,.k,.k,.k,.k,.k,.k,.k,.k,.k,.k,.k,.k,.k,.k,.k,.k,.k,.k,.k,.k,.k,.k,.k,.k,.k,.k,.k,.k,.k,.k,.k,.k,.k,.k,.k,.k,.k,.k,.k,.k,.k,.k,.k,.k,.k,.v (.i .i64 (s.1:Nat)),.j,.j,.j,.j,.j,.j,.j,.j,.j,.j,.j,.j,.j,.j,.j,.k]) (fun s=>(.box false [.i .i64 (t).kind,.i .i64 (t).n,.s (t).text,.s (t).sort,.sl ((t).kids.flatMap aC) (t).kids.length,.sl ((t).rest.flatMap aC) (t).rest.length]::.box false [.i .i64 (3),.i .i64 0,.i .i64 0,.s [],.s [],.e0,.e0,.s [],.i .i64 (t.kids.length:Nat)]::s.2.2)) (fun s=>s.1≤t.kids.length∧dV 10 2 s.2.2 s.2.1 ([.sl (p.map (.i .i64)) p.length,.i .i64 (3),.i .i64 0,.i .i64 0,.s [],.s [],.e0,.e0,.s [],.i .i64 (t.kids.length:Nat)]++(testsL (t.kids.take s.1) p 0).flatMap aJ) ((testsL (t.kids.take s.1) p 0).length+1)) (fun s=>t.kids.length - s.1) ((0,.hs 2 0 1 false,_)) ⟨aG _,.inr ⟨0,rfl,by simp [testsL],rfl⟩⟩ rfl (by simp [eN]) ?_
   rintro ⟨k,out,g⟩ j ⟨hk,ho⟩
   dsimp only at hk ho
   by_cases hlt:k < t.kids.length
   · have hki:(k:Int) < ((t.kids.length:Nat):Int):=by omega
     have c:=ih k hlt
     have b1:p.length * 8≤140737488355328:=by omega
     have b2:p.length≤140737488355328:=by omega
     have b3:(p.length+1) * 8≤140737488355328:=by omega
     have b4:p.length≤140737488355327:=by omega
     simp only [aV,aT,bN,ava] at c
     have htk:List.take (p.length+1) (List.map (AV.i IntKind.i64) p++[AV.i IntKind.i64 (k:Int)])=List.map (AV.i IntKind.i64) p++[AV.i IntKind.i64 (k:Int)]:=aH (by simp)
     have hps:persL (List.map (AV.i IntKind.i64) p++[AV.i IntKind.i64 (k:Int)])=true:=by rw [gD,eP]; rfl
     refine zh (zA2 (zt hki) @fU) ?_
     (refine zy1 (zA2 (zt hki) (zA2 @fU (zA2 @b1 (zA2 @b2 (zA2 b3 (zA2 b4 (zA2 @eH.{0,0} (zA2 aZ (zA2 htk hps))))))))) c ?_; repeat' first | exact trivial | refine zJ ?_ ?_ | refine zH fun hc=>?_)
     have hm:=kG (l:=t.kids) (p:=p) (k:=k+1)
     have htl:=jG (l:=t.kids) (p:=p) (i:=0) hlt
     rw [cM] at htl
     rw [htl,aE] at hm
     generalize cK (t.kids.getD k default) (p++[(k:Int)])=Y at *
     obtain ⟨z,hz⟩:=aEu (c:=((List.flatMap aJ Y).isEmpty && Y.length == 0)) (a:=.box false [.i .i64 (t).kind,.i .i64 (t).n,.s (t).text,.s (t).sort,.sl ((t).kids.flatMap aC) (t).kids.length,.sl ((t).rest.flatMap aC) (t).rest.length]) (b:=.box false [.i .i64 (3),.i .i64 0,.i .i64 0,.s [],.s [],.e0,.e0,.s [],.i .i64 (t.kids.length:Nat)]) (u:=.box false [.i .i64 (t.kids.getD k default).kind,.i .i64 (t.kids.getD k default).n,.s (t.kids.getD k default).text,.s (t.kids.getD k default).sort,.sl ((t.kids.getD k default).kids.flatMap aC) (t.kids.getD k default).kids.length,.sl ((t.kids.getD k default).rest.flatMap aC) (t.kids.getD k default).rest.length]) (g:=g) (q:=List.map (AV.i IntKind.i64) p++[AV.i IntKind.i64 (k:Int)])
     rw [hz]
     refine dU (pre:=[.box false [.i .i64 (t).kind,.i .i64 (t).n,.s (t).text,.s (t).sort,.sl ((t).kids.flatMap aC) (t).kids.length,.sl ((t).rest.flatMap aC) (t).rest.length],.box false [.i .i64 (3),.i .i64 0,.i .i64 0,.s [],.s [],.e0,.e0,.s [],.i .i64 (t.kids.length:Nat)]]) (g:=g) (more:=[.box false [.i .i64 (t.kids.getD k default).kind,.i .i64 (t.kids.getD k default).n,.s (t.kids.getD k default).text,.s (t.kids.getD k default).sort,.sl ((t.kids.getD k default).kids.flatMap aC) (t.kids.getD k default).kids.length,.sl ((t.kids.getD k default).rest.flatMap aC) (t.kids.getD k default).rest.length],.dead,z]) (news:=Y.flatMap aJ) (m:=Y.length) ho rfl (by rfl) bKr bKj bKl bKs rfl (by decide) (by simp -implicitDefEqProofs (disch:=omega) only [go_sem,↓reduceIte,reduceAdd,reduceSub,reduceMul,reduceLeDiff,reduceLT,reduceEqDiff,reduceNeg,Nat.reduceBEq]) (by simp -implicitDefEqProofs (disch:=omega) only [go_sem,↓reduceIte,reduceAdd,reduceSub,reduceMul,reduceLeDiff,reduceLT,reduceEqDiff,reduceNeg,Nat.reduceBEq]) ⟨by omega,by omega⟩ ?_
     intro out' g' ho' _
     refine zg ?_
     refine ⟨(k+1,out',g'),⟨by dsimp only; omega,?_⟩,by dsimp only; omega,rfl,by simp⟩
     dsimp only
     rw [htl,dP,aE]
     rw [bL,show (testsL (t.kids.take k) p 0).length+1+Y.length=(testsL (t.kids.take k) p 0).length+Y.length+1 by omega] at ho'
     exact ho'
   · have hki:¬ (k:Int) < ((t.kids.length:Nat):Int):=by omega
     have hkt:t.kids.take k=t.kids:=aH (by omega)
     rw [hkt] at ho
     refine zh (zf hki) ?_
     exact S9 ho
theorem aKn {l:List LTerm} {p:List Int} {k:Nat} (h:k < l.length):(cK (l.getD k default) (p++[(k:Int)])).length≤(testsL l p 0).length:=by
 have h1:=jG (l:=l) (p:=p) (i:=0) h
 rw [cM] at h1
 have h2:=kG (l:=l) (p:=p) (k:=k+1)
 rw [h1,aE] at h2
 omega
theorem L9 {t:LTerm} {p:List Int} (h:t.kind=5∨t.kind=7):(cK t p).length=(testsL t.kids p 0).length+1:=by
 rw [hX]
 rcases h with h | h
 · rw [if_pos h]; rfl
 · rw [if_neg (by omega),if_pos h]; rfl
theorem bDm:∀ t:LTerm,OkT t→∀ p:List Int,p.length+highT t≤1000→(cK t p).length≤1000000→CT 46 [elT t,.sl (p.map (.i .i64)) p.length] (ava (cK t p)):=
 dO (Q := fun t=>OkT t→∀ p:List Int,p.length+highT t≤1000→(cK t p).length≤1000000→CT 46 [elT t,.sl (p.map (.i .i64)) p.length] (ava (cK t p))) fun t hk _ ht p hp hn=>by
   have hH:∀ (l:List LTerm) (k:Nat),k < l.length→highT (l.getD k default)≤highL l:=by
     intro l
     induction l with
     | nil=>intro k h; simp at h
     | cons x l ih=>
       intro k h
       rw [highL]
       cases k with
       | zero=>simp only [gW]; omega
       | succ k=>have:=ih k (by simpa using h); simp only [yD]; omega
   have e:=wC t
   by_cases h57:t.kind=5∨t.kind=7
   · have hr:=L9 (p:=p) h57
     have ih:∀ k,k < t.kids.length→CT 46 [elT (t.kids.getD k default),.sl ((p++[(k:Int)]).map (.i .i64)) (p.length+1)] (ava (cK (t.kids.getD k default) (p++[(k:Int)]))):=fun k h=>by
       have h1:=hH t.kids k h
       have h2:=aKn (p:=p) h
       have:=hk _ (aU (d:=default) h) (ht.kid _ (aU (d:=default) h)) (p++[(k:Int)]) (by simp only [aE,aI,aX]; omega) (by omega)
       rw [aE] at this
       exact this
     rcases h57 with h5 | h7
     · exact aOc t p ht (by omega) h5 (by omega) ih
     · by_cases hrest:0 < t.rest.length
       · exact aKt t p ht (by omega) h7 hrest (by omega) ih
       · exact aKs t p ht (by omega) h7 hrest (by omega) ih
   · exact aVs t p ht (fun h=>h57 (.inl h)) (fun h=>h57 (.inr h))
end Go.Proofs.YtifefbhllfdmlaaGreatDoor

/-
  What functions of the chapter return, as plain functions of what they are given; no condition beyond those that each theorem names.
-/
import Derived.Test.YtifefbhllfdmlaaGreatDoorTeP125
import Derived.Test.YtifefbhllfdmlaaGreatDoorTeP123
set_option maxRecDepth 100000
set_option linter.unusedSimpArgs false
set_option linter.unusedVariables false
set_option maxHeartbeats 4000000
namespace Go.Proofs.YtifefbhllfdmlaaGreatDoor
open Go Go.Vo
open Nat (reduceAdd reduceSub reduceMul reduceLeDiff reduceLT reduceEqDiff)
open Int (reduceNeg)

mutual
def vis:LTerm→Int→List (LTerm × Int)
 | .mk k n x s ks rs,d=>(.mk k n x s ks rs,d)::(visL ks (d+1)++visL rs (d+1))
def visL:List LTerm→Int→List (LTerm × Int)
 | [],_=>[]
 | t::l,d=>vis t d++visL l d
end
theorem nX:∀ {l m:List LTerm} {d:Int},visL (l++m) d=visL l d++visL m d
 | [],m,d=>rfl
 | t::l,m,d=>by rw [aU,visL,visL,nX,bW]
theorem C9 (t:LTerm) (d:Int):vis t d=(t,d)::visL (t.kids++t.rest) (d+1):=by cases t; rw [vis,nX]; rfl
theorem aHo {l:List LTerm} {k:Nat} {d:Int} (h:k < l.length):visL (l.drop k) d=vis (l.getD k default) d++visL (l.drop (k+1)) d:=by
 rw [cP h,visL]; simp [List.getD,h]
def L9 {α:Type} (φ:LTerm × Int→α→α) (a:α) (l:List (LTerm × Int)):α:=l.foldl (fun a v=>φ v a) a
theorem W5 {α:Type} {φ:LTerm × Int→α→α} {a:α} {l m:List (LTerm × Int)}:L9 φ a (l++m)=L9 φ (L9 φ a l) m:=by simp [L9,List.foldl_append]
theorem bCu:∀ (t:LTerm),OkT t→∀ (d:Int),∀ v ∈ vis t d,OkT v.1:=
 fR fun t hk hr ht d v hv=>by
   have L:∀ (l:List LTerm),(∀ x ∈ l,OkT x∧∀ (d:Int),∀ v ∈ vis x d,OkT v.1)→∀ v ∈ visL l (d+1),OkT v.1:=by
     intro l
     induction l with
     | nil=>intro _ v hv; simp [visL] at hv
     | cons x l ih=>
       intro h v hv
       rw [visL,bN] at hv
       rcases hv with hv | hv
       · exact (h x (by simp)).2 _ v hv
       · exact ih (fun y hy=>h y (by simp [hy])) v hv
   rw [C9,cH] at hv
   rcases hv with rfl | hv
   · exact ht
   · refine L _ (fun x hx=>?_) v hv
     rcases bN.1 hx with hx | hx
     · exact ⟨ht.kid x hx,hk x hx (ht.kid x hx)⟩
     · exact ⟨ht.rst x hx,hr x hx (ht.rst x hx)⟩

theorem E0 {t:LTerm} (h:nodeB t=true):t.rest=[]∨∃ r,t.rest=[r]∧r.kids=[]∧r.rest=[]:=by
 have h1:=uL t h
 have h2:=aKn h
 rcases hr:t.rest with _ | ⟨x,_ | ⟨y,l⟩⟩
 · exact .inl rfl
 · rw [hr] at h2
   exact .inr ⟨x,rfl,(h2 x (by simp)).2⟩
 · rw [hr] at h1; simp at h1
theorem aOz {r:LTerm} (h1:r.kids=[]) (h2:r.rest=[]) (d:Int):vis r d=[(r,d)]:=by rw [C9,h1,h2]; rfl
theorem N8 {t:LTerm} (h:nodeB t=true) (d:Int):visL t.rest d=t.rest.map fun r=>(r,d):=by
 rcases E0 h with e | ⟨r,e,h1,h2⟩
 · rw [e]; rfl
 · rw [e,visL,aOz h1 h2]; rfl
theorem pQ (t:LTerm):nodesT t=1+t.rest.length+nodesL t.kids:=by cases t; rw [nodesT]; rfl
theorem wR (t:LTerm):highT t=1+max t.rest.length (highL t.kids):=by cases t; rw [highT]; rfl
theorem uK:∀ (l:List LTerm),l.length≤nodesL l
 | []=>aX _
 | t::l=>by rw [nodesL,aD,pQ]; have:=uK l; omega
theorem aXe:∀ (t:LTerm),wfT nodeB t=true→∀ d:Int,(vis t d).length=nodesT t:=
 fR fun t hk _ hw d=>by
   rw [aHm] at hw
   have L:∀ (l:List LTerm),(∀ x ∈ l,∀ d:Int,(vis x d).length=nodesT x)→(visL l (d+1)).length=nodesL l:=by
     intro l
     induction l with
     | nil=>intro _; rfl
     | cons x l ih=>intro h; rw [visL,nodesL,aG,h x (by simp),ih (fun y hy=>h y (by simp [hy]))]
   rw [C9,nX,pQ,aD,aG,L _ (fun x hx=>hk x hx (hw.2 x hx)),N8 hw.1,fM]
   omega
structure bOr (t:LTerm) (d:Int) (v:LTerm × Int):Prop where
 lo:d≤v.2
 hi:v.2+1≤d+highT t
 len:v.1.kids.length+v.1.rest.length≤nodesT t
theorem aXf:∀ (t:LTerm),wfT nodeB t=true→∀ d:Int,∀ v ∈ vis t d,bOr t d v:=
 fR fun t hk _ hw d v hv=>by
   rw [aHm] at hw
   rw [C9,nX,cH,bN,N8 hw.1,kF] at hv
   have hn:=pQ t
   have hh:=wR t
   have hl:=uK t.kids
   rcases hv with rfl | hv | ⟨r,hr,rfl⟩
   · exact ⟨uY _,by dsimp only; omega,by dsimp only; omega⟩
   · have L:∀ (l:List LTerm),(∀ x ∈ l,∀ d:Int,∀ v ∈ vis x d,bOr x d v)→v ∈ visL l (d+1)→d+1≤v.2∧v.2≤d+highL l∧v.1.kids.length+v.1.rest.length≤nodesL l:=by
       intro l
       induction l with
       | nil=>intro _ h; simp [visL] at h
       | cons x l ih=>
         intro h hv
         rw [highL,nodesL]
         rw [visL,bN] at hv
         rcases hv with hv | hv
         · have b:=h x (by simp) _ v hv
           have b1:=b.lo
           have b2:=b.hi
           have b3:=b.len
           exact ⟨b1,by omega,by omega⟩
         · have b:=ih (fun y hy=>h y (by simp [hy])) hv
           omega
     have b:=L _ (fun x hx=>hk x hx (hw.2 x hx)) hv
     exact ⟨by omega,by omega,by omega⟩
   · have e:t.rest.length=1∧r.kids=[]∧r.rest=[]:=by
       rcases E0 hw.1 with e | ⟨r',e,h1,h2⟩
       · rw [e] at hr; cases hr
       · rw [e] at hr; obtain rfl:=bA.1 hr; rw [e]; exact ⟨rfl,h1,h2⟩
     refine ⟨by dsimp only; omega,by dsimp only; omega,?_⟩
     dsimp only
     rw [e.2.1,e.2.2]; simp
def bSx (a:Int) (l:List (LTerm × Int)):Prop:=(0≤a∧a+l.length≤1000000)∧∀ v ∈ l,0≤v.2∧v.2≤1000∧v.1.kids.length+v.1.rest.length≤1000000
theorem aHn {t:LTerm} (h:jQ nodeB t=true):bSx 0 (vis t 1++[]):=by
 rw [List.append_nil]
 simp only [jQ,aB,decide_eq_true_eq] at h
 refine ⟨⟨uY _,by rw [aXe t h.1.1]; omega⟩,fun v hv=>?_⟩
 have b:=aXf t h.1.1 1 v hv
 have b1:=b.lo
 have b2:=b.hi
 have b3:=b.len
 exact ⟨by omega,by omega,by omega⟩

def B9 (m:List (Str × Str)) (x:Str):Option Str:=(m.find? fun p=>decide (x=p.1)).map (·.2)
theorem bCh {m:List (Str × Str)} {p:Str × Str} {x:Str}:B9 (m++[p]) x=match B9 m x with | some y=>some y | none=>if x=p.1 then some p.2 else none:=by
 unfold B9
 rw [List.find?_append]
 cases h:m.find? fun p=>decide (x=p.1) with
 | some q=>rfl
 | none=>
   simp only [Option.none_or,List.find?_cons,List.find?_nil,Option.map_none]
   by_cases hx:x=p.1 <;> simp [hx]
def bJx (r:List (Str × Str) × Str) (x:Str × Str):List (Str × Str) × Str:=
 match B9 r.1 x.1 with
 | some old=>if old ≠ x.2∧(r.2=[]∨x.1 < r.2) then (r.1,x.1) else r
 | none=>(r.1++[x],r.2)
def bDr (t:LTerm):Str × Str:=(t.text,t.sort)

def aSe (s:dF) (v:LTerm × Int) (b:Bool):Bool:=if v.1.kind=5 then b || (mX s v.1.text).2.1 else b
def bCf (k:LTerm):Bool:=aAe k || (decide (k.kind=6) && !decide (k.text=[95]))
def mG (l:List LTerm) (n:Nat):Bool:=aUd n fun j=>bCf (l.getD (2 * j) default)
def bDz (t:LTerm):Bool := !(decide (t.kind=6) && decide (t.text=[36])) && (!decide (t.kind=8) || mG t.kids ((t.kids.length+1) / 2))
def bDq (v:LTerm × Int) (b:Bool):Bool:=b && bDz v.1
def isV (t:LTerm):Bool:=decide (t.kind=6) && !decide (t.text=[95])
def aIm (v:LTerm × Int) (r:List (Str × Str) × Str):List (Str × Str) × Str:=if isV v.1=true then bJx r (bDr v.1) else r

structure LTest where
 op:Int
 term:LTerm
 text:Str
 n:Int
structure LAsk where
 path:List Int
 test:LTest
instance:Inhabited LTest:=⟨⟨0,default,[],0⟩⟩
instance:Inhabited LAsk:=⟨⟨[],default⟩⟩
def fY (x:LTest):List AV:=[.i .i64 x.op,.i .i64 x.term.kind,.i .i64 x.term.n,.s x.term.text,.s x.term.sort,avt x.term.kids,avt x.term.rest,.s x.text,.i .i64 x.n]
def aL (a:LAsk):List AV:=[.sl (a.path.map (.i .i64)) a.path.length,.i .i64 a.test.op,.i .i64 a.test.term.kind,.i .i64 a.test.term.n,.s a.test.term.text,.s a.test.term.sort,avt a.test.term.kids,avt a.test.term.rest,.s a.test.text,.i .i64 a.test.n]
theorem K8 (a:LAsk):(aL a).length=10:=rfl
def ava (l:List LAsk):AV:=.sl (l.flatMap aL) l.length
def lR (a b:LTest):Bool:=decide (a.op=b.op) && (decide (a.text=b.text) && (decide (a.n=b.n) && decide (a.term=b.term)))
def X3 (a b:LAsk):Bool:=decide (a.path=b.path) && lR a.test b.test
theorem aYo {l m:List Int} {k:Nat} (hk:k < l.length) (h:¬ l.getD k 0=m.getD k 0):decide (l=m)=false:=zf (fun e=>h (by rw [e]))
theorem aJv {l m:List Int} (hl:l.length=m.length) (h:∀ j,j < l.length→l.getD j 0=m.getD j 0):decide (l=m)=true:=by
 rw [decide_eq_true_eq]
 apply N2 hl
 intro j h1 h2
 have:=h j h1
 simpa [List.getD,h1,h2] using this

theorem bDp (a:LAsk):persL (aL a)=true:=by
 simp [aL,persL,pers,fX,avt,iF]
theorem yC {l:List LAsk}:persL (l.flatMap aL)=true:=jF fun x _=>bDp x
section
variable {k:Nat} {l:List LAsk}
theorem aNv (h:k < l.length):((l.flatMap aL).drop (k * 10)).take 10=aL (l.getD k default):=by
 rw [oK K8]
 simp [h,List.getD]
theorem vY:(l.flatMap aL).length=l.length * 10:=mV K8 l
theorem aTt:(l.flatMap aL).take (k * 10)=(l.take k).flatMap aL:=yO K8 l k
end
attribute [go_sem] aNv vY aTt yC bDp

abbrev zT:LTerm:=.mk 0 0 [] [] [] []
mutual
def dI:LTerm→List Int→List LAsk
 | .mk k n x so ks rs,p=>
   if k=5 then ⟨p,⟨2,zT,x,ks.length⟩⟩::testsL ks p 0
   else if k=7 then ⟨p,⟨if 0 < rs.length then 4 else 3,zT,[],ks.length⟩⟩::testsL ks p 0
   else if k=8 then [⟨p,⟨5,zT,[],0⟩⟩]
   else if k=6 then (if so=aHd then [] else [⟨p,⟨6,zT,so,0⟩⟩])
   else [⟨p,⟨1,.mk k n x so ks rs,[],0⟩⟩]
def testsL:List LTerm→List Int→Nat→List LAsk
 | [],_,_=>[]
 | t::l,p,i=>dI t (p++[(i:Int)])++testsL l p (i+1)
end
theorem jR (t:LTerm) (p:List Int):dI t p=if t.kind=5 then ⟨p,⟨2,zT,t.text,t.kids.length⟩⟩::testsL t.kids p 0
   else if t.kind=7 then ⟨p,⟨if 0 < t.rest.length then 4 else 3,zT,[],t.kids.length⟩⟩::testsL t.kids p 0
   else if t.kind=8 then [⟨p,⟨5,zT,[],0⟩⟩]
   else if t.kind=6 then (if t.sort=aHd then [] else [⟨p,⟨6,zT,t.sort,0⟩⟩])
   else [⟨p,⟨1,t,[],0⟩⟩]:=by cases t; rw [dI]; rfl
theorem nY:∀ {l:List LTerm} {p:List Int} {i k:Nat},k < l.length→testsL (l.take (k+1)) p i=testsL (l.take k) p i++dI (l.getD k default) (p++[((i+k:Nat):Int)])
 | t::l,p,i,0,_=>by simp [testsL]
 | t::l,p,i,k+1,h=>by
   rw [gU,testsL,gU,testsL,nY (k:=k) (by simpa using h),bW,show i+1+k=i+(k+1) by omega]; simp
 | [],_,_,_,h=>by simp at h
theorem sL:∀ {l m:List LTerm} {p:List Int} {i:Nat},testsL (l++m) p i=testsL l p i++testsL m p (i+l.length)
 | [],m,p,i=>by simp [testsL]
 | t::l,m,p,i=>by rw [aU,testsL,testsL,sL,bW,aD,show i+1+l.length=i+(l.length+1) by omega]
theorem rN {l:List LTerm} {p:List Int} {k:Nat}:(testsL (l.take k) p 0).length≤(testsL l p 0).length:=by
 have:testsL l p 0=testsL (l.take k) p 0++testsL (l.drop k) p (0+(l.take k).length):=by rw [← sL,eV]
 rw [this,aG]; omega
theorem aEr {t:LTerm} {p:List Int} (h:t.kind=5∨t.kind=7):(dI t p).length=(testsL t.kids p 0).length+1:=by
 rw [jR]
 rcases h with h | h
 · rw [if_pos h]; rfl
 · rw [if_neg (by omega),if_pos h]; rfl
end Go.Proofs.YtifefbhllfdmlaaGreatDoor

/-
  Terms, as plain trees, and how they lie in cells; no condition.
-/
import Derived.Test.YtdjcggcjlphdoaaGreatDoorSoP51
set_option linter.unusedVariables false
set_option linter.unusedSimpArgs false
set_option maxHeartbeats 4000000
namespace Go.Vo
inductive LTerm where
 |mk (kind n:Int) (text sort:Str) (kids rest:List LTerm)
namespace LTerm
def kind:LTerm→Int|mk k _ _ _ _ _=>k
def n:LTerm→Int|mk _ n _ _ _ _=>n
def text:LTerm→Str|mk _ _ t _ _ _=>t
def sort:LTerm→Str|mk _ _ _ s _ _=>s
def kids:LTerm→List LTerm|mk _ _ _ _ k _=>k
def rest:LTerm→List LTerm|mk _ _ _ _ _ r=>r
theorem ext_iff{a b:LTerm}:a=b↔a.kind=b.kind∧a.n=b.n∧a.text=b.text∧a.sort=b.sort∧a.kids=b.kids∧a.rest=b.rest:=by
 cases a;cases b;simp[kind,n,text,sort,kids,rest]
end LTerm
instance:Inhabited LTerm:=⟨.mk 0 0 [] [] [] []⟩
theorem aQq{t k:LTerm}(h:k∈t.kids):SizeOf.sizeOf k<SizeOf.sizeOf t:=by
 cases t;simp only[LTerm.kids]at h;have:=List.sizeOf_lt_of_mem h;simp;omega
theorem aQp{t k:LTerm}(h:k∈t.rest):SizeOf.sizeOf k<SizeOf.sizeOf t:=by
 cases t;simp only[LTerm.rest]at h;have:=List.sizeOf_lt_of_mem h;simp;omega
theorem fG{Q:LTerm→Prop}(h:∀t,(∀k∈t.kids,Q k)→(∀k∈t.rest,Q k)→Q t)(t:LTerm):Q t:=
 h t (fun k hk=>fG h k) (fun k hk=>fG h k)
termination_by SizeOf.sizeOf t
decreasing_by
 ·exact aQq hk
 ·exact aQp hk
mutual
def bIc:LTerm→LTerm→Bool
 | .mk k n t s ks rs,.mk k' n' t' s' ks' rs'=>decide (k=k')&&decide (n=n')&&decide (t=t')&&decide (s=s')&&sameL ks ks'&&sameL rs rs'
def sameL:List LTerm→List LTerm→Bool
 | [],[]=>true
 |a::l,b::m=>bIc a b&&sameL l m
 |_,_=>false
end
mutual
theorem aCe:∀(a b:LTerm),bIc a b=true↔a=b
 | .mk k n t s ks rs,.mk k' n' t' s' ks' rs'=>by
   simp only[bIc,aB,decide_eq_true_eq,sameL_iff ks ks',sameL_iff rs rs',LTerm.mk.injEq,and_assoc]
theorem sameL_iff:∀(l m:List LTerm),sameL l m=true↔l=m
 | [],[]=>by simp[sameL]
 |a::l,b::m=>by simp only[sameL,aB,aCe a b,sameL_iff l m,iL]
 | [],_::_=>by simp[sameL]
 |_::_,[]=>by simp[sameL]
end
instance:DecidableEq LTerm:=fun a b=>decidable_of_iff _ (aCe a b)
mutual
def aM:LTerm→List AV
 | .mk k n t s ks rs=>[.i .i64 k,.i .i64 n,.s t,.s s,.sl (termsCells ks) ks.length,.sl (termsCells rs) rs.length]
def termsCells:List LTerm→List AV
 | []=>[]
 |t::l=>aM t++termsCells l
end
theorem xB:∀(l:List LTerm),termsCells l=l.flatMap aM
 | []=>by simp[termsCells]
 |t::l=>by rw[termsCells,xB l,List.flatMap_cons]
def avt(l:List LTerm):AV:=.sl (l.flatMap aM) l.length
@[simp] abbrev tmC(t : LTerm) : List AV := [.i .i64 t.kind,.i .i64 t.n,.s t.text,.s t.sort,.sl (t.kids.flatMap aM) t.kids.length,.sl (t.rest.flatMap aM) t.rest.length]
attribute [go_sem] tmC
theorem aI(t:LTerm):aM t=[.i .i64 t.kind,.i .i64 t.n,.s t.text,.s t.sort,avt t.kids,avt t.rest]:=by
 cases t;simp only[aM,xB,LTerm.kind,LTerm.n,LTerm.text,LTerm.sort,LTerm.kids,LTerm.rest,avt]
theorem pP(x:LTerm):(aM x).length=6:=by rw[aI];rfl
theorem S6{a:AV}{l:List AV}:persL (a::l)=(pers a&&persL l):=rfl
theorem nI:∀{l m:List AV},persL (l++m)=(persL l&&persL m)
 | [],m=>by simp[persL]
 |a::l,m=>by rw[aH,S6,S6,nI,pL]
theorem lT{α:Type}{f:α→List AV}:∀{l:List α},(∀x∈l,persL (f x)=true)→persL (l.flatMap f)=true
 | [],_=>rfl
 |a::l,h=>by rw[List.flatMap_cons,nI,h a (by simp),lT (fun x hx=>h x (by simp[hx]))];rfl
theorem D0(t:LTerm):persL (aM t)=true:=by
 induction t using fG with
 |h t hk hr=>
  rw[aI];simp[persL,avt,pers,lT hk,lT hr]
theorem eW{l:List LTerm}:persL (l.flatMap aM)=true:=lT fun x _=>D0 x
theorem aJk{l:List LTerm}:pers (avt l)=true:=by simp only[avt,pers,eW]
section
variable {k:Nat} {l:List LTerm}
theorem aIt(h:k<l.length):((l.flatMap aM).drop (k*6)).take 6=aM (l.getD k default):=by
 rw[sD pP];simp[h,List.getD]
theorem aPz(h:0<l.length):(l.flatMap aM).take 6=aM (l.getD 0 default):=by
 have:=aIt h;simpa using this
theorem rN:(l.flatMap aM).length=l.length*6:=pW pP l
theorem aQa:(l.flatMap aM).take (k*6)=(l.take k).flatMap aM:=yC pP l k
theorem xC:(l.flatMap aM).drop (k*6)=(l.drop k).flatMap aM:=yD pP l k
end
attribute [go_sem] aIt aPz rN aQa eW D0 aJk avt aI
end Go.Vo

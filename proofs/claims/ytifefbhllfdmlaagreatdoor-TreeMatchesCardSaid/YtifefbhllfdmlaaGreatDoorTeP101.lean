/-
  Terms, as plain trees, and how they lie in cells; no condition.
-/
import Derived.Test.YtifefbhllfdmlaaGreatDoorSoP101
set_option linter.unusedVariables false
set_option linter.unusedSimpArgs false
set_option maxHeartbeats 4000000
namespace Go.Vo

inductive LTerm where
 | mk (kind n:Int) (text sort:Str) (kids rest:List LTerm)
namespace LTerm
def kind:LTerm→Int | mk k _ _ _ _ _=>k
def n:LTerm→Int | mk _ n _ _ _ _=>n
def text:LTerm→Str | mk _ _ t _ _ _=>t
def sort:LTerm→Str | mk _ _ _ s _ _=>s
def kids:LTerm→List LTerm | mk _ _ _ _ k _=>k
def rest:LTerm→List LTerm | mk _ _ _ _ _ r=>r
theorem ext_iff {a b:LTerm}:a=b↔a.kind=b.kind∧a.n=b.n∧a.text=b.text∧a.sort=b.sort∧a.kids=b.kids∧a.rest=b.rest:=by
 cases a; cases b; simp [kind,n,text,sort,kids,rest]
end LTerm
instance:Inhabited LTerm:=⟨.mk 0 0 [] [] [] []⟩
theorem aMb {t k:LTerm} (h:k ∈ t.kids):SizeOf.sizeOf k < SizeOf.sizeOf t:=by
 cases t; simp only [LTerm.kids] at h; have:=List.sizeOf_lt_of_mem h; simp; omega
theorem aMa {t k:LTerm} (h:k ∈ t.rest):SizeOf.sizeOf k < SizeOf.sizeOf t:=by
 cases t; simp only [LTerm.rest] at h; have:=List.sizeOf_lt_of_mem h; simp; omega
theorem dK {Q:LTerm→Prop} (h:∀ t,(∀ k ∈ t.kids,Q k)→(∀ k ∈ t.rest,Q k)→Q t) (t:LTerm):Q t:=
 h t (fun k hk=>dK h k) (fun k hk=>dK h k)
termination_by SizeOf.sizeOf t
decreasing_by
 · exact aMb hk
 · exact aMa hk
mutual
def bCg:LTerm→LTerm→Bool
 | .mk k n t s ks rs,.mk k' n' t' s' ks' rs'=>decide (k=k') && decide (n=n') && decide (t=t') && decide (s=s') && sameL ks ks' && sameL rs rs'
def sameL:List LTerm→List LTerm→Bool
 | [],[]=>true
 | a::l,b::m=>bCg a b && sameL l m
 | _,_=>false
end
mutual
theorem U4:∀ (a b:LTerm),bCg a b=true↔a=b
 | .mk k n t s ks rs,.mk k' n' t' s' ks' rs'=>by
   simp only [bCg,aC,decide_eq_true_eq,sameL_iff ks ks',sameL_iff rs rs',LTerm.mk.injEq,and_assoc]
theorem sameL_iff:∀ (l m:List LTerm),sameL l m=true↔l=m
 | [],[]=>by simp [sameL]
 | a::l,b::m=>by simp only [sameL,aC,U4 a b,sameL_iff l m,iD]
 | [],_::_=>by simp [sameL]
 | _::_,[]=>by simp [sameL]
end
instance:DecidableEq LTerm:=fun a b=>decidable_of_iff _ (U4 a b)

mutual
def aA:LTerm→List AV
 | .mk k n t s ks rs=>[.i .i64 k,.i .i64 n,.s t,.s s,.sl (termsCells ks) ks.length,.sl (termsCells rs) rs.length]
def termsCells:List LTerm→List AV
 | []=>[]
 | t::l=>aA t++termsCells l
end
theorem uM:∀ (l:List LTerm),termsCells l=l.flatMap aA
 | []=>by simp [termsCells]
 | t::l=>by rw [termsCells,uM l,cJ]
def avt (l:List LTerm):AV:=.sl (l.flatMap aA) l.length
theorem aW (t:LTerm):aA t=[.i .i64 t.kind,.i .i64 t.n,.s t.text,.s t.sort,avt t.kids,avt t.rest]:=by
 cases t
 simp only [aA,uM,LTerm.kind,LTerm.n,LTerm.text,LTerm.sort,LTerm.kids,LTerm.rest,avt]
theorem nW (x:LTerm):(aA x).length=6:=by rw [aW]; rfl
theorem J0 {a:AV} {l:List AV}:persL (a::l)=(pers a && persL l):=rfl
theorem hY:∀ {l m:List AV},persL (l++m)=(persL l && persL m)
 | [],m=>by simp [persL]
 | a::l,m=>by rw [cC,J0,J0,hY,kW]
theorem kX {α:Type} {f:α→List AV}:∀ {l:List α},(∀ x ∈ l,persL (f x)=true)→persL (l.flatMap f)=true
 | [],_=>rfl
 | a::l,h=>by rw [cJ,hY,h a (by simp),kX (fun x hx=>h x (by simp [hx]))]; rfl
theorem aUj (t:LTerm):persL (aA t)=true:=by
 induction t using dK with
 | h t hk hr=>
   rw [aW]
   simp [persL,avt,pers,kX hk,kX hr]
theorem fE {l:List LTerm}:persL (l.flatMap aA)=true:=kX fun x _=>aUj x
theorem aEt {l:List LTerm}:pers (avt l)=true:=by simp only [avt,pers,fE]
section
variable {k:Nat} {l:List LTerm}
theorem aEf (h:k < l.length):((l.flatMap aA).drop (k * 6)).take 6=aA (l.getD k default):=by
 rw [qO nW]
 simp [h,List.getD]
theorem aLh (h:0 < l.length):(l.flatMap aA).take 6=aA (l.getD 0 default):=by
 have:=aEf h
 simpa using this
theorem qD:(l.flatMap aA).length=l.length * 6:=oG nW l
theorem aLi:(l.flatMap aA).take (k * 6)=(l.take k).flatMap aA:=vU nW l k
theorem T3:(l.flatMap aA).drop (k * 6)=(l.drop k).flatMap aA:=vV nW l k
end
attribute [go_sem] aEf aLh qD aLi fE aUj aEt avt aW
end Go.Vo

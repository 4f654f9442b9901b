/-
  Terms, as plain trees, and how they lie in cells; no condition.
-/
import Derived.Test.YtifefbhllfdmlaaGreatDoorSoP121
set_option linter.unusedVariables false
set_option linter.unusedSimpArgs false
set_option maxHeartbeats 4000000
namespace Go.Vo

inductive LTerm where
 | mk (kind n:Int) (text sort:Str) (kids rest:List LTerm)
namespace LTerm
def kind:LTerm→Int | mk k _ _ _ _ _=>k
def n:LTerm→Int | mk _ n _ _ _ _=>n
def text:LTerm→Str | mk _ _ t _ _ _=>t
def sort:LTerm→Str | mk _ _ _ s _ _=>s
def kids:LTerm→List LTerm | mk _ _ _ _ k _=>k
def rest:LTerm→List LTerm | mk _ _ _ _ _ r=>r
theorem ext_iff {a b:LTerm}:a=b↔a.kind=b.kind∧a.n=b.n∧a.text=b.text∧a.sort=b.sort∧a.kids=b.kids∧a.rest=b.rest:=by
 cases a; cases b; simp [kind,n,text,sort,kids,rest]
end LTerm
instance:Inhabited LTerm:=⟨.mk 0 0 [] [] [] []⟩
theorem aIt {t k:LTerm} (h:k ∈ t.kids):SizeOf.sizeOf k < SizeOf.sizeOf t:=by
 cases t; simp only [LTerm.kids] at h; have:=rC h; simp; omega
theorem aIr {t k:LTerm} (h:k ∈ t.rest):SizeOf.sizeOf k < SizeOf.sizeOf t:=by
 cases t; simp only [LTerm.rest] at h; have:=rC h; simp; omega
theorem fR {Q:LTerm→Prop} (h:∀ t,(∀ k ∈ t.kids,Q k)→(∀ k ∈ t.rest,Q k)→Q t) (t:LTerm):Q t:=
 h t (fun k hk=>fR h k) (fun k hk=>fR h k)
termination_by SizeOf.sizeOf t
decreasing_by
 · exact aIt hk
 · exact aIr hk
mutual
def aXt:LTerm→LTerm→Bool
 | .mk k n t s ks rs,.mk k' n' t' s' ks' rs'=>decide (k=k') && decide (n=n') && decide (t=t') && decide (s=s') && sameL ks ks' && sameL rs rs'
def sameL:List LTerm→List LTerm→Bool
 | [],[]=>true
 | a::l,b::m=>aXt a b && sameL l m
 | _,_=>false
end
mutual
theorem P3:∀ (a b:LTerm),aXt a b=true↔a=b
 | .mk k n t s ks rs,.mk k' n' t' s' ks' rs'=>by
   simp only [aXt,aB,decide_eq_true_eq,sameL_iff ks ks',sameL_iff rs rs',LTerm.mk.injEq,and_assoc]
theorem sameL_iff:∀ (l m:List LTerm),sameL l m=true↔l=m
 | [],[]=>by simp [sameL]
 | a::l,b::m=>by simp only [sameL,aB,P3 a b,sameL_iff l m,gE]
 | [],_::_=>by simp [sameL]
 | _::_,[]=>by simp [sameL]
end
instance:DecidableEq LTerm:=fun a b=>decidable_of_iff _ (P3 a b)

mutual
def aE:LTerm→List AV
 | .mk k n t s ks rs=>[.i .i64 k,.i .i64 n,.s t,.s s,.sl (termsCells ks) ks.length,.sl (termsCells rs) rs.length]
def termsCells:List LTerm→List AV
 | []=>[]
 | t::l=>aE t++termsCells l
end
theorem sM:∀ (l:List LTerm),termsCells l=l.flatMap aE
 | []=>by simp [termsCells]
 | t::l=>by rw [termsCells,sM l,dL]
def avt (l:List LTerm):AV:=.sl (l.flatMap aE) l.length
theorem bT (t:LTerm):aE t=[.i .i64 t.kind,.i .i64 t.n,.s t.text,.s t.sort,avt t.kids,avt t.rest]:=by
 cases t
 simp only [aE,sM,LTerm.kind,LTerm.n,LTerm.text,LTerm.sort,LTerm.kids,LTerm.rest,avt]
theorem sN (x:LTerm):(aE x).length=6:=by rw [bT]; rfl
theorem D7 {a:AV} {l:List AV}:persL (a::l)=(pers a && persL l):=rfl
theorem kD:∀ {l m:List AV},persL (l++m)=(persL l && persL m)
 | [],m=>by simp [persL]
 | a::l,m=>by rw [aU,D7,D7,kD,A5]
theorem jF {α:Type} {f:α→List AV}:∀ {l:List α},(∀ x ∈ l,persL (f x)=true)→persL (l.flatMap f)=true
 | [],_=>rfl
 | a::l,h=>by rw [dL,kD,h a (by simp),jF (fun x hx=>h x (by simp [hx]))]; rfl
theorem aQn (t:LTerm):persL (aE t)=true:=by
 induction t using fR with
 | h t hk hr=>
   rw [bT]
   simp [persL,avt,pers,jF hk,jF hr]
theorem iF {l:List LTerm}:persL (l.flatMap aE)=true:=jF fun x _=>aQn x
theorem aBx {l:List LTerm}:pers (avt l)=true:=by simp only [avt,pers,iF]
section
variable {k:Nat} {l:List LTerm}
theorem aBm (h:k < l.length):((l.flatMap aE).drop (k * 6)).take 6=aE (l.getD k default):=by
 rw [oK sN]
 simp [h,List.getD]
theorem aHw (h:0 < l.length):(l.flatMap aE).take 6=aE (l.getD 0 default):=by
 have:=aBm h
 simpa using this
theorem nZ:(l.flatMap aE).length=l.length * 6:=mV sN l
theorem aHx:(l.flatMap aE).take (k * 6)=(l.take k).flatMap aE:=yO sN l k
end
attribute [go_sem] aBm aHw nZ aHx iF aQn aBx avt bT
end Go.Vo

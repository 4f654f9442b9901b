/-
  Terms, as plain trees, and how they lie in cells; no condition.
-/
import Derived.Test.YtifefbhllfdmlaaGreatDoorSoP81
set_option linter.unusedVariables false
set_option linter.unusedSimpArgs false
set_option maxHeartbeats 4000000
namespace Go.Vo

inductive LTerm where
 | mk (kind n:Int) (text sort:Str) (kids rest:List LTerm)
namespace LTerm
def kind:LTerm→Int | mk k _ _ _ _ _=>k
def n:LTerm→Int | mk _ n _ _ _ _=>n
def text:LTerm→Str | mk _ _ t _ _ _=>t
def sort:LTerm→Str | mk _ _ _ s _ _=>s
def kids:LTerm→List LTerm | mk _ _ _ _ k _=>k
def rest:LTerm→List LTerm | mk _ _ _ _ _ r=>r
theorem ext_iff {a b:LTerm}:a=b↔a.kind=b.kind∧a.n=b.n∧a.text=b.text∧a.sort=b.sort∧a.kids=b.kids∧a.rest=b.rest:=by
 cases a; cases b; simp [kind,n,text,sort,kids,rest]
end LTerm
instance:Inhabited LTerm:=⟨.mk 0 0 [] [] [] []⟩
theorem aOt {t k:LTerm} (h:k ∈ t.kids):SizeOf.sizeOf k < SizeOf.sizeOf t:=by
 cases t; simp only [LTerm.kids] at h; have:=tI h; simp; omega
theorem aOr {t k:LTerm} (h:k ∈ t.rest):SizeOf.sizeOf k < SizeOf.sizeOf t:=by
 cases t; simp only [LTerm.rest] at h; have:=tI h; simp; omega
theorem dO {Q:LTerm→Prop} (h:∀ t,(∀ k ∈ t.kids,Q k)→(∀ k ∈ t.rest,Q k)→Q t) (t:LTerm):Q t:=
 h t (fun k hk=>dO h k) (fun k hk=>dO h k)
termination_by SizeOf.sizeOf t
decreasing_by
 · exact aOt hk
 · exact aOr hk
mutual
def bFr:LTerm→LTerm→Bool
 | .mk k n t s ks rs,.mk k' n' t' s' ks' rs'=>decide (k=k') && decide (n=n') && decide (t=t') && decide (s=s') && sameL ks ks' && sameL rs rs'
def sameL:List LTerm→List LTerm→Bool
 | [],[]=>true
 | a::l,b::m=>bFr a b && sameL l m
 | _,_=>false
end
mutual
theorem Z7:∀ (a b:LTerm),bFr a b=true↔a=b
 | .mk k n t s ks rs,.mk k' n' t' s' ks' rs'=>by
   simp only [bFr,aA,decide_eq_true_eq,sameL_iff ks ks',sameL_iff rs rs',LTerm.mk.injEq,and_assoc]
theorem sameL_iff:∀ (l m:List LTerm),sameL l m=true↔l=m
 | [],[]=>by simp [sameL]
 | a::l,b::m=>by simp only [sameL,aA,Z7 a b,sameL_iff l m,gM]
 | [],_::_=>by simp [sameL]
 | _::_,[]=>by simp [sameL]
end
instance:DecidableEq LTerm:=fun a b=>decidable_of_iff _ (Z7 a b)

mutual
def aC:LTerm→List AV
 | .mk k n t s ks rs=>[.i .i64 k,.i .i64 n,.s t,.s s,.sl (termsCells ks) ks.length,.sl (termsCells rs) rs.length]
def termsCells:List LTerm→List AV
 | []=>[]
 | t::l=>aC t++termsCells l
end
theorem uU:∀ (l:List LTerm),termsCells l=l.flatMap aC
 | []=>by simp [termsCells]
 | t::l=>by rw [termsCells,uU l,dJ]
def avt (l:List LTerm):AV:=.sl (l.flatMap aC) l.length
theorem bC (t:LTerm):aC t=[.i .i64 t.kind,.i .i64 t.n,.s t.text,.s t.sort,avt t.kids,avt t.rest]:=by
 cases t
 simp only [aC,uU,LTerm.kind,LTerm.n,LTerm.text,LTerm.sort,LTerm.kids,LTerm.rest,avt]
theorem sP (x:LTerm):(aC x).length=6:=by rw [bC]; rfl
theorem xK {a:AV} {l:List AV}:persL (a::l)=(pers a && persL l):=rfl
theorem gD:∀ {l m:List AV},persL (l++m)=(persL l && persL m)
 | [],m=>by simp [persL]
 | a::l,m=>by rw [bR,xK,xK,gD,jY]
theorem jN {α:Type} {f:α→List AV}:∀ {l:List α},(∀ x ∈ l,persL (f x)=true)→persL (l.flatMap f)=true
 | [],_=>rfl
 | a::l,h=>by rw [dJ,gD,h a (by simp),jN (fun x hx=>h x (by simp [hx]))]; rfl
theorem bGj (t:LTerm):persL (aC t)=true:=by
 induction t using dO with
 | h t hk hr=>
   rw [bC]
   simp [persL,avt,pers,jN hk,jN hr]
theorem iH {l:List LTerm}:persL (l.flatMap aC)=true:=jN fun x _=>bGj x
theorem aGz {l:List LTerm}:pers (avt l)=true:=by simp only [avt,pers,iH]
section
variable {k:Nat} {l:List LTerm}
theorem aGj (h:k < l.length):((l.flatMap aC).drop (k * 6)).take 6=aC (l.getD k default):=by
 rw [qN sP]
 simp [h,List.getD]
theorem aNw (h:0 < l.length):(l.flatMap aC).take 6=aC (l.getD 0 default):=by
 have:=aGj h
 simpa using this
theorem pW:(l.flatMap aC).length=l.length * 6:=oA sP l
end
attribute [go_sem] aGj aNw pW iH bGj aGz avt bC
end Go.Vo

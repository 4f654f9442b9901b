/-
  Terms, as plain trees, and how they lie in cells; no condition.
-/
import Derived.Test.YtdjcggcjlphdoaaGreatDoorSoP11
set_option linter.unusedVariables false
set_option linter.unusedSimpArgs false
set_option maxHeartbeats 4000000
namespace Go.Vo

inductive LTerm where
 | mk (kind n:Int) (text sort:Str) (kids rest:List LTerm)
namespace LTerm
def kind:LTerm→Int | mk k _ _ _ _ _=>k
def n:LTerm→Int | mk _ n _ _ _ _=>n
def text:LTerm→Str | mk _ _ t _ _ _=>t
def sort:LTerm→Str | mk _ _ _ s _ _=>s
def kids:LTerm→List LTerm | mk _ _ _ _ k _=>k
def rest:LTerm→List LTerm | mk _ _ _ _ _ r=>r
theorem ext_iff {a b:LTerm}:a=b↔a.kind=b.kind∧a.n=b.n∧a.text=b.text∧a.sort=b.sort∧a.kids=b.kids∧a.rest=b.rest:=by
 cases a; cases b; simp [kind,n,text,sort,kids,rest]
end LTerm
instance:Inhabited LTerm:=⟨.mk 0 0 [] [] [] []⟩
theorem aLj {t k:LTerm} (h:k ∈ t.kids):SizeOf.sizeOf k < SizeOf.sizeOf t:=by
 cases t; simp only [LTerm.kids] at h; have:=List.sizeOf_lt_of_mem h; simp; omega
theorem aLi {t k:LTerm} (h:k ∈ t.rest):SizeOf.sizeOf k < SizeOf.sizeOf t:=by
 cases t; simp only [LTerm.rest] at h; have:=List.sizeOf_lt_of_mem h; simp; omega
theorem iR {Q:LTerm→Prop} (h:∀ t,(∀ k ∈ t.kids,Q k)→(∀ k ∈ t.rest,Q k)→Q t) (t:LTerm):Q t:=
 h t (fun k hk=>iR h k) (fun k hk=>iR h k)
termination_by SizeOf.sizeOf t
decreasing_by
 · exact aLj hk
 · exact aLi hk
mutual
def bBc:LTerm→LTerm→Bool
 | .mk k n t s ks rs,.mk k' n' t' s' ks' rs'=>decide (k=k') && decide (n=n') && decide (t=t') && decide (s=s') && sameL ks ks' && sameL rs rs'
def sameL:List LTerm→List LTerm→Bool
 | [],[]=>true
 | a::l,b::m=>bBc a b && sameL l m
 | _,_=>false
end
mutual
theorem T6:∀ (a b:LTerm),bBc a b=true↔a=b
 | .mk k n t s ks rs,.mk k' n' t' s' ks' rs'=>by
   simp only [bBc,aE,decide_eq_true_eq,sameL_iff ks ks',sameL_iff rs rs',LTerm.mk.injEq,and_assoc]
theorem sameL_iff:∀ (l m:List LTerm),sameL l m=true↔l=m
 | [],[]=>by simp [sameL]
 | a::l,b::m=>by simp only [sameL,aE,T6 a b,sameL_iff l m,gU]
 | [],_::_=>by simp [sameL]
 | _::_,[]=>by simp [sameL]
end
instance:DecidableEq LTerm:=fun a b=>decidable_of_iff _ (T6 a b)

mutual
def aV:LTerm→List AV
 | .mk k n t s ks rs=>[.i .i64 k,.i .i64 n,.s t,.s s,.sl (termsCells ks) ks.length,.sl (termsCells rs) rs.length]
def termsCells:List LTerm→List AV
 | []=>[]
 | t::l=>aV t++termsCells l
end
theorem tZ:∀ (l:List LTerm),termsCells l=l.flatMap aV
 | []=>by simp [termsCells]
 | t::l=>by rw [termsCells,tZ l,List.flatMap_cons]
def avt (l:List LTerm):AV:=.sl (l.flatMap aV) l.length
@[simp] abbrev tmC (t : LTerm) : List AV := [.i .i64 t.kind, .i .i64 t.n, .s t.text, .s t.sort, .sl (t.kids.flatMap aV) t.kids.length, .sl (t.rest.flatMap aV) t.rest.length]
attribute [go_sem] tmC
theorem aS (t:LTerm):aV t=[.i .i64 t.kind,.i .i64 t.n,.s t.text,.s t.sort,avt t.kids,avt t.rest]:=by
 cases t
 simp only [aV,tZ,LTerm.kind,LTerm.n,LTerm.text,LTerm.sort,LTerm.kids,LTerm.rest,avt]
theorem uA (x:LTerm):(aV x).length=6:=by rw [aS]; rfl
theorem I1 {a:AV} {l:List AV}:persL (a::l)=(pers a && persL l):=rfl
theorem xD:∀ {l m:List AV},persL (l++m)=(persL l && persL m)
 | [],m=>by simp [persL]
 | a::l,m=>by rw [aI,I1,I1,xD,sG]
theorem lK {α:Type} {f:α→List AV}:∀ {l:List α},(∀ x ∈ l,persL (f x)=true)→persL (l.flatMap f)=true
 | [],_=>rfl
 | a::l,h=>by rw [List.flatMap_cons,xD,h a (by simp),lK (fun x hx=>h x (by simp [hx]))]; rfl
theorem vX (t:LTerm):persL (aV t)=true:=by
 induction t using iR with
 | h t hk hr=>
   rw [aS]
   simp [persL,avt,pers,lK hk,lK hr]
theorem iW {l:List LTerm}:persL (l.flatMap aV)=true:=lK fun x _=>vX x
theorem aEn {l:List LTerm}:pers (avt l)=true:=by simp only [avt,pers,iW]
section
variable {k:Nat} {l:List LTerm}
theorem aDx (h:k < l.length):((l.flatMap aV).drop (k * 6)).take 6=aV (l.getD k default):=by
 rw [rY uA]
 simp [h,List.getD]
theorem aKq (h:0 < l.length):(l.flatMap aV).take 6=aV (l.getD 0 default):=by
 have:=aDx h
 simpa using this
theorem uB:(l.flatMap aV).length=l.length * 6:=pP uA l
theorem aKr:(l.flatMap aV).take (k * 6)=(l.take k).flatMap aV:=B4 uA l k
theorem S8:(l.flatMap aV).drop (k * 6)=(l.drop k).flatMap aV:=uV uA l k
end
attribute [go_sem] aDx aKq uB aKr iW vX aEn avt aS
end Go.Vo

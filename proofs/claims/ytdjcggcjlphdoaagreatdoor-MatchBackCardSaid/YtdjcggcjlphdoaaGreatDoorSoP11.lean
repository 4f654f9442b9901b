/-
  The values that this chapter's functions take, over abstract values; no condition.
-/
import Derived.Test.YtdjcggcjlphdoaaGreatDoorVoP15
set_option linter.unusedVariables false
set_option linter.unusedSimpArgs false
set_option maxHeartbeats 4000000
namespace Go.Vo
abbrev Str:=List UInt8
def avs(l:List Str):AV:=.sl (l.map .s) l.length
def avi(l:List Int):AV:=.sl (l.map (.i .i64)) l.length
def fX(b:Str×Str):List AV:=[.s b.1,.s b.2]
def avb(l:List (Str×Str)):AV:=.sl (l.flatMap fX) l.length
structure LOp where
 name:Str
 args:List Str
 sort:Str
 pieces:List (Str×Str)
 prec:Int
 assoc:Int
 strict:List Int
 deriving DecidableEq
instance:Inhabited LOp:=⟨⟨[],[],[],[],0,0,[]⟩⟩
def eU(o:LOp):List AV:=[.s o.name,avs o.args,.s o.sort,avb o.pieces,.i .i64 o.prec,.i .i64 o.assoc,avi o.strict]
def avo(l:List LOp):AV:=.sl (l.flatMap eU) l.length
structure dX where
 sorts:List Str
 below:List (Str×Str)
 ops:List LOp
 funs:List LOp
 values:List Str
 deriving DecidableEq
def dT(s:dX):List AV:=[avs s.sorts,avb s.below,avo s.ops,avo s.funs,avs s.values]
@[simp] abbrev sgC(s : dX) : List AV := [.sl (s.sorts.map .s) s.sorts.length,.sl (s.below.flatMap fX) s.below.length,.sl (s.ops.flatMap eU) s.ops.length,.sl (s.funs.flatMap eU) s.funs.length,.sl (s.values.map .s) s.values.length]
attribute [go_sem] sgC
theorem aAo(x:Str×Str):(fX x).length=2:=rfl
theorem aMc(x:LOp):(eU x).length=7:=rfl
theorem N3{l:List Str}:pers (avs l)=true:=by simp only[avs,pers,mA]
theorem aDz{l:List Int}:pers (avi l)=true:=by simp only[avi,pers,uH]
theorem mE{l:List (Str×Str)}:persL (l.flatMap fX)=true:=by
 induction l with
 |nil=>rfl
 |cons x l ih=>simp[fX,persL,pers,ih]
theorem aLx{l:List LOp}:persL (l.flatMap eU)=true:=by
 induction l with
 |nil=>rfl
 |cons x l ih=>simp only[List.flatMap_cons,eU,aH,aJ,persL,N3,aDz,ih,avb,pers,mE,eZ]
variable {k:Nat}
theorem bDt{l:List (Str×Str)}(h:k<l.length):((l.flatMap fX).drop (k*2)).take 2=fX (l.getD k ([],[])):=by
 rw[vZ aAo];simp[h,List.getD]
theorem aAp{l:List (Str×Str)}:(l.flatMap fX).length=l.length*2:=sF aAo l
attribute [go_sem] bDt aAp
theorem bVa{l:List LOp}(h:k<l.length):((l.flatMap eU).drop (k*7)).take 7=eU (l.getD k default):=by
 rw[vZ aMc];simp[h,List.getD]
theorem aIn{l:List LOp}:(l.flatMap eU).length=l.length*7:=sF aMc l
attribute [go_sem] bVa aIn
attribute [go_sem] mE aLx avs avi avb avo fX eU dT
theorem fD{p:Nat→Prop}{k:Nat}(h:∀j,j<k→p j)(hk:p k):∀j,j<k+1→p j:=fun j hj=>by
 by_cases h1:j=k
 ·exact h1▸hk
 ·exact h j (by omega)
theorem aOs{α:Type}{l:List α}{p:α→Bool}{d:α}(h:∀j,j<l.length→p (l.getD j d)=true):l.all p=true:=by
 rw[bF];intro x hx;obtain⟨j,hj,rfl⟩:=dC.1 hx;have:=h j hj;simpa[List.getD,hj]using this
theorem aEn{α:Type}{l:List α}{p:α→Bool}{d:α}{j:Nat}(hj:j<l.length)(h:p (l.getD j d)=false):l.all p=false:=by
 rw[List.all_eq_false];exact⟨l[j],qK hj,by simpa[List.getD,hj]using h⟩
theorem aXt{α:Type}{l m:List α}{d:α}(hl:l.length=m.length)(h:∀j,j<l.length→l.getD j d=m.getD j d):l=m:=by
 apply List.ext_getElem hl;intro j h1 h2;have:=h j h1;simpa[List.getD,h1,h2]using this
theorem fO{α:Type}{l:List α}{d:α}{k:Nat}(h:k<l.length):l.take (k+1)=l.take k++[l.getD k d]:=by
 rw[tO h];simp[List.getD,h]
inductive LTerm where
 |mk (kind n:Int) (text sort:Str) (kids rest:List LTerm)
namespace LTerm
def kind:LTerm→Int|mk k _ _ _ _ _=>k
def n:LTerm→Int|mk _ n _ _ _ _=>n
def text:LTerm→Str|mk _ _ t _ _ _=>t
def sort:LTerm→Str|mk _ _ _ s _ _=>s
def kids:LTerm→List LTerm|mk _ _ _ _ k _=>k
def rest:LTerm→List LTerm|mk _ _ _ _ _ r=>r
theorem ext_iff{a b:LTerm}:a=b↔a.kind=b.kind∧a.n=b.n∧a.text=b.text∧a.sort=b.sort∧a.kids=b.kids∧a.rest=b.rest:=by
 cases a;cases b;simp[kind,n,text,sort,kids,rest]
end LTerm
instance:Inhabited LTerm:=⟨.mk 0 0 [] [] [] []⟩
theorem aTq{t k:LTerm}(h:k∈t.kids):SizeOf.sizeOf k<SizeOf.sizeOf t:=by
 cases t;simp only[LTerm.kids]at h;have:=List.sizeOf_lt_of_mem h;simp;omega
theorem aTp{t k:LTerm}(h:k∈t.rest):SizeOf.sizeOf k<SizeOf.sizeOf t:=by
 cases t;simp only[LTerm.rest]at h;have:=List.sizeOf_lt_of_mem h;simp;omega
theorem fH{Q:LTerm→Prop}(h:∀t,(∀k∈t.kids,Q k)→(∀k∈t.rest,Q k)→Q t)(t:LTerm):Q t:=
 h t (fun k hk=>fH h k) (fun k hk=>fH h k)
termination_by SizeOf.sizeOf t
decreasing_by
 ·exact aTq hk
 ·exact aTp hk
mutual
def bMr:LTerm→LTerm→Bool
 | .mk k n t s ks rs,.mk k' n' t' s' ks' rs'=>decide (k=k')&&decide (n=n')&&decide (t=t')&&decide (s=s')&&sameL ks ks'&&sameL rs rs'
def sameL:List LTerm→List LTerm→Bool
 | [],[]=>true
 |a::l,b::m=>bMr a b&&sameL l m
 |_,_=>false
end
mutual
theorem aDj:∀(a b:LTerm),bMr a b=true↔a=b
 | .mk k n t s ks rs,.mk k' n' t' s' ks' rs'=>by
   simp only[bMr,aA,decide_eq_true_eq,sameL_iff ks ks',sameL_iff rs rs',LTerm.mk.injEq,and_assoc]
theorem sameL_iff:∀(l m:List LTerm),sameL l m=true↔l=m
 | [],[]=>by simp[sameL]
 |a::l,b::m=>by simp only[sameL,aA,aDj a b,sameL_iff l m,iK]
 | [],_::_=>by simp[sameL]
 |_::_,[]=>by simp[sameL]
end
instance:DecidableEq LTerm:=fun a b=>decidable_of_iff _ (aDj a b)
mutual
def aP:LTerm→List AV
 | .mk k n t s ks rs=>[.i .i64 k,.i .i64 n,.s t,.s s,.sl (termsCells ks) ks.length,.sl (termsCells rs) rs.length]
def termsCells:List LTerm→List AV
 | []=>[]
 |t::l=>aP t++termsCells l
end
theorem yA:∀(l:List LTerm),termsCells l=l.flatMap aP
 | []=>by simp[termsCells]
 |t::l=>by rw[termsCells,yA l,List.flatMap_cons]
def avt(l:List LTerm):AV:=.sl (l.flatMap aP) l.length
@[simp] abbrev tmC(t : LTerm) : List AV := [.i .i64 t.kind,.i .i64 t.n,.s t.text,.s t.sort,.sl (t.kids.flatMap aP) t.kids.length,.sl (t.rest.flatMap aP) t.rest.length]
attribute [go_sem] tmC
theorem aW(t:LTerm):aP t=[.i .i64 t.kind,.i .i64 t.n,.s t.text,.s t.sort,avt t.kids,avt t.rest]:=by
 cases t;simp only[aP,yA,LTerm.kind,LTerm.n,LTerm.text,LTerm.sort,LTerm.kids,LTerm.rest,avt]
theorem oG(x:LTerm):(aP x).length=6:=by rw[aW];rfl
theorem B0{a:AV}{l:List AV}:persL (a::l)=(pers a&&persL l):=rfl
theorem qF:∀{l m:List AV},persL (l++m)=(persL l&&persL m)
 | [],m=>by simp[persL]
 |a::l,m=>by rw[aH,B0,B0,qF,wH]
theorem nA{α:Type}{f:α→List AV}:∀{l:List α},(∀x∈l,persL (f x)=true)→persL (l.flatMap f)=true
 | [],_=>rfl
 |a::l,h=>by rw[List.flatMap_cons,qF,h a (by simp),nA (fun x hx=>h x (by simp[hx]))];rfl
theorem wJ(t:LTerm):persL (aP t)=true:=by
 induction t using fH with
 |h t hk hr=>
  rw[aW];simp[persL,avt,pers,nA hk,nA hr]
theorem iL{l:List LTerm}:persL (l.flatMap aP)=true:=nA fun x _=>wJ x
theorem aLw{l:List LTerm}:pers (avt l)=true:=by simp only[avt,pers,iL]
section
variable {k:Nat} {l:List LTerm}
theorem aKz(h:k<l.length):((l.flatMap aP).drop (k*6)).take 6=aP (l.getD k default):=by
 rw[vZ oG];simp[h,List.getD]
theorem aSv(h:0<l.length):(l.flatMap aP).take 6=aP (l.getD 0 default):=by
 have:=aKz h;simpa using this
theorem mJ:(l.flatMap aP).length=l.length*6:=sF oG l
theorem aSw:(l.flatMap aP).take (k*6)=(l.take k).flatMap aP:=O9 oG l k
theorem aDc:(l.flatMap aP).drop (k*6)=(l.drop k).flatMap aP:=zK oG l k
end
attribute [go_sem] aKz aSv mJ aSw iL wJ aLw avt aW
end Go.Vo

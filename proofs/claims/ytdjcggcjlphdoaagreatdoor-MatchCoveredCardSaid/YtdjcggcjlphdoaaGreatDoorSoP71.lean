/-
  The values that this chapter's functions take, over abstract values; no condition.
-/
import Derived.Test.YtdjcggcjlphdoaaGreatDoorVoP75
set_option linter.unusedVariables false
set_option linter.unusedSimpArgs false
set_option maxHeartbeats 4000000
namespace Go.Vo
abbrev Str:=List UInt8
def avs(l:List Str):AV:=.sl (l.map .s) l.length
def avi(l:List Int):AV:=.sl (l.map (.i .i64)) l.length
def fX(b:Str×Str):List AV:=[.s b.1,.s b.2]
def avb(l:List (Str×Str)):AV:=.sl (l.flatMap fX) l.length
structure LOp where
 name:Str
 args:List Str
 sort:Str
 pieces:List (Str×Str)
 prec:Int
 assoc:Int
 strict:List Int
 deriving DecidableEq
instance:Inhabited LOp:=⟨⟨[],[],[],[],0,0,[]⟩⟩
def fR(o:LOp):List AV:=[.s o.name,avs o.args,.s o.sort,avb o.pieces,.i .i64 o.prec,.i .i64 o.assoc,avi o.strict]
def avo(l:List LOp):AV:=.sl (l.flatMap fR) l.length
structure dK where
 sorts:List Str
 below:List (Str×Str)
 ops:List LOp
 funs:List LOp
 values:List Str
 deriving DecidableEq
def dW(s:dK):List AV:=[avs s.sorts,avb s.below,avo s.ops,avo s.funs,avs s.values]
@[simp] abbrev sgC(s : dK) : List AV := [.sl (s.sorts.map .s) s.sorts.length,.sl (s.below.flatMap fX) s.below.length,.sl (s.ops.flatMap fR) s.ops.length,.sl (s.funs.flatMap fR) s.funs.length,.sl (s.values.map .s) s.values.length]
attribute [go_sem] sgC
theorem Y3(x:Str×Str):(fX x).length=2:=rfl
theorem aSy(x:LOp):(fR x).length=7:=rfl
theorem J4{l:List Str}:pers (avs l)=true:=by simp only[avs,pers,lU]
theorem aCw{l:List Int}:pers (avi l)=true:=by simp only[avi,pers,sR]
theorem lN{l:List (Str×Str)}:persL (l.flatMap fX)=true:=by
 induction l with
 |nil=>rfl
 |cons x l ih=>simp[fX,persL,pers,ih]
theorem aJy{l:List LOp}:persL (l.flatMap fR)=true:=by
 induction l with
 |nil=>rfl
 |cons x l ih=>simp only[List.flatMap_cons,fR,aC,aE,persL,J4,aCw,ih,avb,pers,lN,cX]
variable {k:Nat}
theorem bAv{l:List (Str×Str)}(h:k<l.length):((l.flatMap fX).drop (k*2)).take 2=fX (l.getD k ([],[])):=by
 rw[uL Y3];simp[h,List.getD]
theorem Y4{l:List (Str×Str)}:(l.flatMap fX).length=l.length*2:=nZ Y3 l
attribute [go_sem] bAv Y4
theorem bRm{l:List LOp}(h:k<l.length):((l.flatMap fR).drop (k*7)).take 7=fR (l.getD k default):=by
 rw[uL aSy];simp[h,List.getD]
theorem aHd{l:List LOp}:(l.flatMap fR).length=l.length*7:=nZ aSy l
attribute [go_sem] bRm aHd
attribute [go_sem] lN aJy avs avi avb avo fX fR dW
theorem fF{p:Nat→Prop}{k:Nat}(h:∀j,j<k→p j)(hk:p k):∀j,j<k+1→p j:=fun j hj=>by
 by_cases h1:j=k
 ·exact h1▸hk
 ·exact h j (by omega)
theorem aMm{α:Type}{l:List α}{p:α→Bool}{d:α}(h:∀j,j<l.length→p (l.getD j d)=true):l.all p=true:=by
 rw[bC];intro x hx;obtain⟨j,hj,rfl⟩:=dJ.1 hx;have:=h j hj;simpa[List.getD,hj]using this
theorem aDh{α:Type}{l:List α}{p:α→Bool}{d:α}{j:Nat}(hj:j<l.length)(h:p (l.getD j d)=false):l.all p=false:=by
 rw[List.all_eq_false];exact⟨l[j],aBu hj,by simpa[List.getD,hj]using h⟩
theorem aVh{α:Type}{l m:List α}{d:α}(hl:l.length=m.length)(h:∀j,j<l.length→l.getD j d=m.getD j d):l=m:=by
 apply List.ext_getElem hl;intro j h1 h2;have:=h j h1;simpa[List.getD,h1,h2]using this
theorem fI{α:Type}{l:List α}{d:α}{k:Nat}(h:k<l.length):l.take (k+1)=l.take k++[l.getD k d]:=by
 rw[sD h];simp[List.getD,h]
inductive LTerm where
 |mk (kind n:Int) (text sort:Str) (kids rest:List LTerm)
namespace LTerm
def kind:LTerm→Int|mk k _ _ _ _ _=>k
def n:LTerm→Int|mk _ n _ _ _ _=>n
def text:LTerm→Str|mk _ _ t _ _ _=>t
def sort:LTerm→Str|mk _ _ _ s _ _=>s
def kids:LTerm→List LTerm|mk _ _ _ _ k _=>k
def rest:LTerm→List LTerm|mk _ _ _ _ _ r=>r
theorem ext_iff{a b:LTerm}:a=b↔a.kind=b.kind∧a.n=b.n∧a.text=b.text∧a.sort=b.sort∧a.kids=b.kids∧a.rest=b.rest:=by
 cases a;cases b;simp[kind,n,text,sort,kids,rest]
end LTerm
instance:Inhabited LTerm:=⟨.mk 0 0 [] [] [] []⟩
theorem aRg{t k:LTerm}(h:k∈t.kids):SizeOf.sizeOf k<SizeOf.sizeOf t:=by
 cases t;simp only[LTerm.kids]at h;have:=List.sizeOf_lt_of_mem h;simp;omega
theorem aRf{t k:LTerm}(h:k∈t.rest):SizeOf.sizeOf k<SizeOf.sizeOf t:=by
 cases t;simp only[LTerm.rest]at h;have:=List.sizeOf_lt_of_mem h;simp;omega
theorem fW{Q:LTerm→Prop}(h:∀t,(∀k∈t.kids,Q k)→(∀k∈t.rest,Q k)→Q t)(t:LTerm):Q t:=
 h t (fun k hk=>fW h k) (fun k hk=>fW h k)
termination_by SizeOf.sizeOf t
decreasing_by
 ·exact aRg hk
 ·exact aRf hk
mutual
def bJu:LTerm→LTerm→Bool
 | .mk k n t s ks rs,.mk k' n' t' s' ks' rs'=>decide (k=k')&&decide (n=n')&&decide (t=t')&&decide (s=s')&&sameL ks ks'&&sameL rs rs'
def sameL:List LTerm→List LTerm→Bool
 | [],[]=>true
 |a::l,b::m=>bJu a b&&sameL l m
 |_,_=>false
end
mutual
theorem aCj:∀(a b:LTerm),bJu a b=true↔a=b
 | .mk k n t s ks rs,.mk k' n' t' s' ks' rs'=>by
   simp only[bJu,aD,decide_eq_true_eq,sameL_iff ks ks',sameL_iff rs rs',LTerm.mk.injEq,and_assoc]
theorem sameL_iff:∀(l m:List LTerm),sameL l m=true↔l=m
 | [],[]=>by simp[sameL]
 |a::l,b::m=>by simp only[sameL,aD,aCj a b,sameL_iff l m,iD]
 | [],_::_=>by simp[sameL]
 |_::_,[]=>by simp[sameL]
end
instance:DecidableEq LTerm:=fun a b=>decidable_of_iff _ (aCj a b)
mutual
def aU:LTerm→List AV
 | .mk k n t s ks rs=>[.i .i64 k,.i .i64 n,.s t,.s s,.sl (termsCells ks) ks.length,.sl (termsCells rs) rs.length]
def termsCells:List LTerm→List AV
 | []=>[]
 |t::l=>aU t++termsCells l
end
theorem wP:∀(l:List LTerm),termsCells l=l.flatMap aU
 | []=>by simp[termsCells]
 |t::l=>by rw[termsCells,wP l,List.flatMap_cons]
def avt(l:List LTerm):AV:=.sl (l.flatMap aU) l.length
@[simp] abbrev tmC(t : LTerm) : List AV := [.i .i64 t.kind,.i .i64 t.n,.s t.text,.s t.sort,.sl (t.kids.flatMap aU) t.kids.length,.sl (t.rest.flatMap aU) t.rest.length]
attribute [go_sem] tmC
theorem aL(t:LTerm):aU t=[.i .i64 t.kind,.i .i64 t.n,.s t.text,.s t.sort,avt t.kids,avt t.rest]:=by
 cases t;simp only[aU,wP,LTerm.kind,LTerm.n,LTerm.text,LTerm.sort,LTerm.kids,LTerm.rest,avt]
theorem uC(x:LTerm):(aU x).length=6:=by rw[aL];rfl
theorem S7{a:AV}{l:List AV}:persL (a::l)=(pers a&&persL l):=rfl
theorem B0:∀{l m:List AV},persL (l++m)=(persL l&&persL m)
 | [],m=>by simp[persL]
 |a::l,m=>by rw[aC,S7,S7,B0,uT]
theorem mK{α:Type}{f:α→List AV}:∀{l:List α},(∀x∈l,persL (f x)=true)→persL (l.flatMap f)=true
 | [],_=>rfl
 |a::l,h=>by rw[List.flatMap_cons,B0,h a (by simp),mK (fun x hx=>h x (by simp[hx]))];rfl
theorem rW(t:LTerm):persL (aU t)=true:=by
 induction t using fW with
 |h t hk hr=>
  rw[aL];simp[persL,avt,pers,mK hk,mK hr]
theorem gW{l:List LTerm}:persL (l.flatMap aU)=true:=mK fun x _=>rW x
theorem aJx{l:List LTerm}:pers (avt l)=true:=by simp only[avt,pers,gW]
section
variable {k:Nat} {l:List LTerm}
theorem aJh(h:k<l.length):((l.flatMap aU).drop (k*6)).take 6=aU (l.getD k default):=by
 rw[uL uC];simp[h,List.getD]
theorem aQg(h:0<l.length):(l.flatMap aU).take 6=aU (l.getD 0 default):=by
 have:=aJh h;simpa using this
theorem wQ:(l.flatMap aU).length=l.length*6:=nZ uC l
theorem aQh:(l.flatMap aU).take (k*6)=(l.take k).flatMap aU:=flat_take uC l k
theorem aCc:(l.flatMap aU).drop (k*6)=(l.drop k).flatMap aU:=flat_drop uC l k
end
attribute [go_sem] aJh aQg wQ aQh gW rW aJx avt aL
end Go.Vo

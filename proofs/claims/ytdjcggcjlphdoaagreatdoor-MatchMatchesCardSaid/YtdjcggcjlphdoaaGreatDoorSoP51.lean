/-
  The values that this chapter's functions take, over abstract values; no condition.
-/
import Derived.Test.YtdjcggcjlphdoaaGreatDoorVoP55
set_option linter.unusedVariables false
set_option linter.unusedSimpArgs false
set_option maxHeartbeats 4000000
namespace Go.Vo
abbrev Str:=List UInt8
def avs(l:List Str):AV:=.sl (l.map .s) l.length
def avi(l:List Int):AV:=.sl (l.map (.i .i64)) l.length
def bZ(b:Str×Str):List AV:=[.s b.1,.s b.2]
def avb(l:List (Str×Str)):AV:=.sl (l.flatMap bZ) l.length
structure LOp where
 name:Str
 args:List Str
 sort:Str
 pieces:List (Str×Str)
 prec:Int
 assoc:Int
 strict:List Int
 deriving DecidableEq
instance:Inhabited LOp:=⟨⟨[],[],[],[],0,0,[]⟩⟩
def bG(o:LOp):List AV:=[.s o.name,avs o.args,.s o.sort,avb o.pieces,.i .i64 o.prec,.i .i64 o.assoc,avi o.strict]
def avo(l:List LOp):AV:=.sl (l.flatMap bG) l.length
structure dF where
 sorts:List Str
 below:List (Str×Str)
 ops:List LOp
 funs:List LOp
 values:List Str
 deriving DecidableEq
def bX(s:dF):List AV:=[avs s.sorts,avb s.below,avo s.ops,avo s.funs,avs s.values]
@[simp] abbrev sgC(s : dF) : List AV := [.sl (s.sorts.map .s) s.sorts.length,.sl (s.below.flatMap bZ) s.below.length,.sl (s.ops.flatMap bG) s.ops.length,.sl (s.funs.flatMap bG) s.funs.length,.sl (s.values.map .s) s.values.length]
attribute [go_sem] sgC
theorem F0(x:Str×Str):(bZ x).length=2:=rfl
theorem aSi(x:LOp):(bG x).length=7:=rfl
theorem I7{l:List Str}:pers (avs l)=true:=by simp only[avs,pers,jW]
theorem aCv{l:List Int}:pers (avi l)=true:=by simp only[avi,pers,rV]
theorem jR{l:List (Str×Str)}:persL (l.flatMap bZ)=true:=by
 induction l with
 |nil=>rfl
 |cons x l ih=>simp[bZ,persL,pers,ih]
theorem E8{l:List LOp}:persL (l.flatMap bG)=true:=by
 induction l with
 |nil=>rfl
 |cons x l ih=>simp only[List.flatMap_cons,bG,aH,aJ,persL,I7,aCv,ih,avb,pers,jR,dW]
variable {k:Nat}
theorem aZk{l:List (Str×Str)}(h:k<l.length):((l.flatMap bZ).drop (k*2)).take 2=bZ (l.getD k ([],[])):=by
 rw[sD F0];simp[h,List.getD]
theorem W9{l:List (Str×Str)}:(l.flatMap bZ).length=l.length*2:=pW F0 l
theorem aRw{l:List (Str×Str)}:(l.flatMap bZ).take (k*2)=(l.take k).flatMap bZ:=yC F0 l k
attribute [go_sem] aZk W9 aRw
theorem bPm{l:List LOp}(h:k<l.length):((l.flatMap bG).drop (k*7)).take 7=bG (l.getD k default):=by
 rw[sD aSi];simp[h,List.getD]
theorem aGw{l:List LOp}:(l.flatMap bG).length=l.length*7:=pW aSi l
attribute [go_sem] bPm aGw
attribute [go_sem] jR E8 avs avi avb avo bZ bG bX
theorem cR{p:Nat→Prop}{k:Nat}(h:∀j,j<k→p j)(hk:p k):∀j,j<k+1→p j:=fun j hj=>by
 by_cases h1:j=k
 ·exact h1▸hk
 ·exact h j (by omega)
theorem mG{α:Type}{l:List α}{p:α→Bool}{d:α}(h:∀j,j<l.length→p (l.getD j d)=true):l.all p=true:=by
 rw[bF];intro x hx;obtain⟨j,hj,rfl⟩:=dG.1 hx;have:=h j hj;simpa[List.getD,hj]using this
theorem gM{α:Type}{l:List α}{p:α→Bool}{d:α}{j:Nat}(hj:j<l.length)(h:p (l.getD j d)=false):l.all p=false:=by
 rw[Q3];exact⟨l[j],wU hj,by simpa[List.getD,hj]using h⟩
theorem aHr{α:Type}{l m:List α}{d:α}(hl:l.length=m.length)(h:∀j,j<l.length→l.getD j d=m.getD j d):l=m:=by
 apply aBj hl;intro j h1 h2;have:=h j h1;simpa[List.getD,h1,h2]using this
theorem eZ{α:Type}{l:List α}{d:α}{k:Nat}(h:k<l.length):l.take (k+1)=l.take k++[l.getD k d]:=by
 rw[lI h];simp[List.getD,h]
end Go.Vo

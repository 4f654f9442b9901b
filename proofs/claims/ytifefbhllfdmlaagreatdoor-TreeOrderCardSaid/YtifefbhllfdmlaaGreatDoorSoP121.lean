/-
  The values that this chapter's functions take, over abstract values; no condition.
-/
import Derived.Test.YtifefbhllfdmlaaGreatDoorVoP124
set_option linter.unusedVariables false
set_option linter.unusedSimpArgs false
set_option maxHeartbeats 4000000
namespace Go.Vo

abbrev Str:=List UInt8
def avs (l:List Str):AV:=.sl (l.map .s) l.length

def avi (l:List Int):AV:=.sl (l.map (.i .i64)) l.length
def dP (b:Str × Str):List AV:=[.s b.1,.s b.2]
def avb (l:List (Str × Str)):AV:=.sl (l.flatMap dP) l.length
structure LOp where
 name:Str
 args:List Str
 sort:Str
 pieces:List (Str × Str)
 prec:Int
 assoc:Int
 strict:List Int
 deriving DecidableEq
instance:Inhabited LOp:=⟨⟨[],[],[],[],0,0,[]⟩⟩
def dA (o:LOp):List AV:=[.s o.name,avs o.args,.s o.sort,avb o.pieces,.i .i64 o.prec,.i .i64 o.assoc,avi o.strict]
def avo (l:List LOp):AV:=.sl (l.flatMap dA) l.length
structure dF where
 sorts:List Str
 below:List (Str × Str)
 ops:List LOp
 funs:List LOp
 values:List Str
 deriving DecidableEq
def cB (s:dF):List AV:=[avs s.sorts,avb s.below,avo s.ops,avo s.funs,avs s.values]

theorem H6 (x:Str × Str):(dP x).length=2:=rfl
theorem R4 (x:LOp):(dA x).length=7:=rfl
theorem sY {l:List Str}:pers (avs l)=true:=by simp only [avs,pers,kY]
theorem Q6 {l:List Int}:pers (avi l)=true:=by simp only [avi,pers,fX]
theorem jE {l:List (Str × Str)}:persL (l.flatMap dP)=true:=by
 induction l with
 | nil=>rfl
 | cons x l ih=>simp [dP,persL,pers,ih]
theorem H4 {l:List LOp}:persL (l.flatMap dA)=true:=by
 induction l with
 | nil=>rfl
 | cons x l ih=>simp only [dL,dA,aU,bJ,persL,sY,Q6,ih,avb,pers,jE,dV]
variable {k:Nat}
theorem aQp {l:List (Str × Str)} (h:k < l.length):((l.flatMap dP).drop (k * 2)).take 2=dP (l.getD k ([],[])):=by
 rw [oK H6]
 simp [h,List.getD]
theorem H7 {l:List (Str × Str)}:(l.flatMap dP).length=l.length * 2:=mV H6 l
attribute [go_sem] aQp H7
theorem bDu {l:List LOp} (h:k < l.length):((l.flatMap dA).drop (k * 7)).take 7=dA (l.getD k default):=by
 rw [oK R4]
 simp [h,List.getD]
theorem Y6 {l:List LOp}:(l.flatMap dA).length=l.length * 7:=mV R4 l
attribute [go_sem] bDu Y6
attribute [go_sem] jE H4 avs avi avb avo dP dA cB
theorem dS {p:Nat→Prop} {k:Nat} (h:∀ j,j < k→p j) (hk:p k):∀ j,j < k+1→p j:=fun j hj=>by
 by_cases h1:j=k
 · exact h1 ▸ hk
 · exact h j (by omega)
theorem aEd {α:Type} {l:List α} {p:α→Bool} {d:α} (h:∀ j,j < l.length→p (l.getD j d)=true):l.all p=true:=by
 rw [aV]
 intro x hx
 obtain ⟨j,hj,rfl⟩:=eC.1 hx
 have:=h j hj
 simpa [List.getD,hj] using this
theorem R5 {α:Type} {l:List α} {p:α→Bool} {d:α} {j:Nat} (hj:j < l.length) (h:p (l.getD j d)=false):l.all p=false:=by
 rw [lX]
 exact ⟨l[j],N1 hj,by simpa [List.getD,hj] using h⟩
theorem bAn {α:Type} {l m:List α} {d:α} (hl:l.length=m.length) (h:∀ j,j < l.length→l.getD j d=m.getD j d):l=m:=by
 apply N2 hl
 intro j h1 h2
 have:=h j h1
 simpa [List.getD,h1,h2] using this
theorem fZ {α:Type} {l:List α} {d:α} {k:Nat} (h:k < l.length):l.take (k+1)=l.take k++[l.getD k d]:=by
 rw [List.take_succ_eq_append_getElem h]; simp [List.getD,h]
end Go.Vo

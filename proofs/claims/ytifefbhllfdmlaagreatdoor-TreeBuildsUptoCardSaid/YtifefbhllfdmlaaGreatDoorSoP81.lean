/-
  The values that this chapter's functions take, over abstract values; no condition.
-/
import Derived.Test.YtifefbhllfdmlaaGreatDoorVoP84
set_option linter.unusedVariables false
set_option linter.unusedSimpArgs false
set_option maxHeartbeats 4000000
namespace Go.Vo

abbrev Str:=List UInt8
def avs (l:List Str):AV:=.sl (l.map .s) l.length

def avi (l:List Int):AV:=.sl (l.map (.i .i64)) l.length
def cD (b:Str × Str):List AV:=[.s b.1,.s b.2]
def avb (l:List (Str × Str)):AV:=.sl (l.flatMap cD) l.length
structure LOp where
 name:Str
 args:List Str
 sort:Str
 pieces:List (Str × Str)
 prec:Int
 assoc:Int
 strict:List Int
 deriving DecidableEq
instance:Inhabited LOp:=⟨⟨[],[],[],[],0,0,[]⟩⟩
def bK (o:LOp):List AV:=[.s o.name,avs o.args,.s o.sort,avb o.pieces,.i .i64 o.prec,.i .i64 o.assoc,avi o.strict]
def avo (l:List LOp):AV:=.sl (l.flatMap bK) l.length
structure bZ where
 sorts:List Str
 below:List (Str × Str)
 ops:List LOp
 funs:List LOp
 values:List Str
 deriving DecidableEq
def aO (s:bZ):List AV:=[avs s.sorts,avb s.below,avo s.ops,avo s.funs,avs s.values]

theorem zS (x:Str × Str):(cD x).length=2:=rfl
theorem aAu (x:LOp):(bK x).length=7:=rfl
theorem vM {l:List Str}:pers (avs l)=true:=by simp only [avs,pers,jW]
theorem aAo {l:List Int}:pers (avi l)=true:=by simp only [avi,pers,eP]
theorem iR {l:List (Str × Str)}:persL (l.flatMap cD)=true:=by
 induction l with
 | nil=>rfl
 | cons x l ih=>simp [cD,persL,pers,ih]
theorem R0 {l:List LOp}:persL (l.flatMap bK)=true:=by
 induction l with
 | nil=>rfl
 | cons x l ih=>simp only [dJ,bK,bR,cH,persL,vM,aAo,ih,avb,pers,iR,dY]
variable {k:Nat}
theorem aXd {l:List (Str × Str)} (h:k < l.length):((l.flatMap cD).drop (k * 2)).take 2=cD (l.getD k ([],[])):=by
 rw [qN zS]
 simp [h,List.getD]
theorem R4 {l:List (Str × Str)}:(l.flatMap cD).length=l.length * 2:=oA zS l
theorem aPz {l:List (Str × Str)}:(l.flatMap cD).take (k * 2)=(l.take k).flatMap cD:=F3 zS l k
attribute [go_sem] aXd R4 aPz
theorem bMf {l:List LOp} (h:k < l.length):((l.flatMap bK).drop (k * 7)).take 7=bK (l.getD k default):=by
 rw [qN aAu]
 simp [h,List.getD]
theorem aEb {l:List LOp}:(l.flatMap bK).length=l.length * 7:=oA aAu l
attribute [go_sem] bMf aEb
attribute [go_sem] iR R0 avs avi avb avo cD bK aO
theorem bD {p:Nat→Prop} {k:Nat} (h:∀ j,j < k→p j) (hk:p k):∀ j,j < k+1→p j:=fun j hj=>by
 by_cases h1:j=k
 · exact h1 ▸ hk
 · exact h j (by omega)
theorem kC {α:Type} {l:List α} {p:α→Bool} {d:α} (h:∀ j,j < l.length→p (l.getD j d)=true):l.all p=true:=by
 rw [aN]
 intro x hx
 obtain ⟨j,hj,rfl⟩:=bU.1 hx
 have:=h j hj
 simpa [List.getD,hj] using this
theorem fH {α:Type} {l:List α} {p:α→Bool} {d:α} {j:Nat} (hj:j < l.length) (h:p (l.getD j d)=false):l.all p=false:=by
 rw [fR]
 exact ⟨l[j],uL hj,by simpa [List.getD,hj] using h⟩
theorem aSh {α:Type} {l m:List α} {d:α} (hl:l.length=m.length) (h:∀ j,j < l.length→l.getD j d=m.getD j d):l=m:=by
 apply X4 hl
 intro j h1 h2
 have:=h j h1
 simpa [List.getD,h1,h2] using this
theorem fY {α:Type} {l:List α} {d:α} {k:Nat} (h:k < l.length):l.take (k+1)=l.take k++[l.getD k d]:=by
 rw [rK h]; simp [List.getD,h]
end Go.Vo

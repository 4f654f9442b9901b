/-
  The values that this chapter's functions take, over abstract values; no condition.
-/
import Derived.Test.YtdjcggcjlphdoaaGreatDoorVoP15
set_option linter.unusedVariables false
set_option linter.unusedSimpArgs false
set_option maxHeartbeats 4000000
namespace Go.Vo

abbrev Str:=List UInt8
def avs (l:List Str):AV:=.sl (l.map .s) l.length

def avi (l:List Int):AV:=.sl (l.map (.i .i64)) l.length
def eY (b:Str × Str):List AV:=[.s b.1,.s b.2]
def avb (l:List (Str × Str)):AV:=.sl (l.flatMap eY) l.length
structure LOp where
 name:Str
 args:List Str
 sort:Str
 pieces:List (Str × Str)
 prec:Int
 assoc:Int
 strict:List Int
 deriving DecidableEq
instance:Inhabited LOp:=⟨⟨[],[],[],[],0,0,[]⟩⟩
def eR (o:LOp):List AV:=[.s o.name,avs o.args,.s o.sort,avb o.pieces,.i .i64 o.prec,.i .i64 o.assoc,avi o.strict]
def avo (l:List LOp):AV:=.sl (l.flatMap eR) l.length
structure eD where
 sorts:List Str
 below:List (Str × Str)
 ops:List LOp
 funs:List LOp
 values:List Str
 deriving DecidableEq
def dD (s:eD):List AV:=[avs s.sorts,avb s.below,avo s.ops,avo s.funs,avs s.values]
@[simp] abbrev sgC (s : eD) : List AV := [.sl (s.sorts.map .s) s.sorts.length, .sl (s.below.flatMap eY) s.below.length, .sl (s.ops.flatMap eR) s.ops.length, .sl (s.funs.flatMap eR) s.funs.length, .sl (s.values.map .s) s.values.length]
attribute [go_sem] sgC
theorem M5 (x:Str × Str):(eY x).length=2:=rfl
theorem aMy (x:LOp):(eR x).length=7:=rfl
theorem zP {l:List Str}:pers (avs l)=true:=by simp only [avs,pers,kX]
theorem V3 {l:List Int}:pers (avi l)=true:=by simp only [avi,pers,qZ]
theorem kT {l:List (Str × Str)}:persL (l.flatMap eY)=true:=by
 induction l with
 | nil=>rfl
 | cons x l ih=>simp [eY,persL,pers,ih]
theorem aEo {l:List LOp}:persL (l.flatMap eR)=true:=by
 induction l with
 | nil=>rfl
 | cons x l ih=>simp only [List.flatMap_cons,eR,aI,aK,persL,zP,V3,ih,avb,pers,kT,eE]
variable {k:Nat}
theorem aTm {l:List (Str × Str)} (h:k < l.length):((l.flatMap eY).drop (k * 2)).take 2=eY (l.getD k ([],[])):=by
 rw [rY M5]
 simp [h,List.getD]
theorem M6 {l:List (Str × Str)}:(l.flatMap eY).length=l.length * 2:=pP M5 l
attribute [go_sem] aTm M6
theorem bHw {l:List LOp} (h:k < l.length):((l.flatMap eR).drop (k * 7)).take 7=eR (l.getD k default):=by
 rw [rY aMy]
 simp [h,List.getD]
theorem aCe {l:List LOp}:(l.flatMap eR).length=l.length * 7:=pP aMy l
attribute [go_sem] bHw aCe
attribute [go_sem] kT aEo avs avi avb avo eY eR dD
theorem eC {p:Nat→Prop} {k:Nat} (h:∀ j,j < k→p j) (hk:p k):∀ j,j < k+1→p j:=fun j hj=>by
 by_cases h1:j=k
 · exact h1 ▸ hk
 · exact h j (by omega)
theorem aGy {α:Type} {l:List α} {p:α→Bool} {d:α} (h:∀ j,j < l.length→p (l.getD j d)=true):l.all p=true:=by
 rw [bL]
 intro x hx
 obtain ⟨j,hj,rfl⟩:=dU.1 hx
 have:=h j hj
 simpa [List.getD,hj] using this
theorem W7 {α:Type} {l:List α} {p:α→Bool} {d:α} {j:Nat} (hj:j < l.length) (h:p (l.getD j d)=false):l.all p=false:=by
 rw [List.all_eq_false]
 exact ⟨l[j],R9 hj,by simpa [List.getD,hj] using h⟩
theorem aOv {α:Type} {l m:List α} {d:α} (hl:l.length=m.length) (h:∀ j,j < l.length→l.getD j d=m.getD j d):l=m:=by
 apply S0 hl
 intro j h1 h2
 have:=h j h1
 simpa [List.getD,h1,h2] using this
theorem eN {α:Type} {l:List α} {d:α} {k:Nat} (h:k < l.length):l.take (k+1)=l.take k++[l.getD k d]:=by
 rw [kK h]; simp [List.getD,h]
end Go.Vo

/-
  The values that this chapter's functions take, over abstract values; no condition.
-/
import Derived.Test.YtifefbhllfdmlaaGreatDoorVoP104
set_option linter.unusedVariables false
set_option linter.unusedSimpArgs false
set_option maxHeartbeats 4000000
namespace Go.Vo

abbrev Str:=List UInt8
def avs (l:List Str):AV:=.sl (l.map .s) l.length

def avi (l:List Int):AV:=.sl (l.map (.i .i64)) l.length
def aQ (b:Str × Str):List AV:=[.s b.1,.s b.2]
def avb (l:List (Str × Str)):AV:=.sl (l.flatMap aQ) l.length
structure LOp where
 name:Str
 args:List Str
 sort:Str
 pieces:List (Str × Str)
 prec:Int
 assoc:Int
 strict:List Int
 deriving DecidableEq
instance:Inhabited LOp:=⟨⟨[],[],[],[],0,0,[]⟩⟩
def aI (o:LOp):List AV:=[.s o.name,avs o.args,.s o.sort,avb o.pieces,.i .i64 o.prec,.i .i64 o.assoc,avi o.strict]
def avo (l:List LOp):AV:=.sl (l.flatMap aI) l.length
structure cI where
 sorts:List Str
 below:List (Str × Str)
 ops:List LOp
 funs:List LOp
 values:List Str
 deriving DecidableEq
def bB (s:cI):List AV:=[avs s.sorts,avb s.below,avo s.ops,avo s.funs,avs s.values]

theorem yU (x:Str × Str):(aQ x).length=2:=rfl
theorem aNr (x:LOp):(aI x).length=7:=rfl
theorem uY {l:List Str}:pers (avs l)=true:=by simp only [avs,pers,iA]
theorem W0 {l:List Int}:pers (avi l)=true:=by simp only [avi,pers,iT]
theorem gV {l:List (Str × Str)}:persL (l.flatMap aQ)=true:=by
 induction l with
 | nil=>rfl
 | cons x l ih=>simp [aQ,persL,pers,ih]
theorem uX {l:List LOp}:persL (l.flatMap aI)=true:=by
 induction l with
 | nil=>rfl
 | cons x l ih=>simp only [cJ,aI,cC,cH,persL,uY,W0,ih,avb,pers,gV,dY]
variable {k:Nat}
theorem aUo {l:List (Str × Str)} (h:k < l.length):((l.flatMap aQ).drop (k * 2)).take 2=aQ (l.getD k ([],[])):=by
 rw [qO yU]
 simp [h,List.getD]
theorem M9 {l:List (Str × Str)}:(l.flatMap aQ).length=l.length * 2:=oG yU l
theorem aNl {l:List (Str × Str)}:(l.flatMap aQ).take (k * 2)=(l.take k).flatMap aQ:=vU yU l k
attribute [go_sem] aUo M9 aNl
theorem bJa {l:List LOp} (h:k < l.length):((l.flatMap aI).drop (k * 7)).take 7=aI (l.getD k default):=by
 rw [qO aNr]
 simp [h,List.getD]
theorem aCa {l:List LOp}:(l.flatMap aI).length=l.length * 7:=oG aNr l
attribute [go_sem] bJa aCa
attribute [go_sem] gV uX avs avi avb avo aQ aI bB
theorem bK {p:Nat→Prop} {k:Nat} (h:∀ j,j < k→p j) (hk:p k):∀ j,j < k+1→p j:=fun j hj=>by
 by_cases h1:j=k
 · exact h1 ▸ hk
 · exact h j (by omega)
theorem kK {α:Type} {l:List α} {p:α→Bool} {d:α} (h:∀ j,j < l.length→p (l.getD j d)=true):l.all p=true:=by
 rw [aR]
 intro x hx
 obtain ⟨j,hj,rfl⟩:=bV.1 hx
 have:=h j hj
 simpa [List.getD,hj] using this
theorem fM {α:Type} {l:List α} {p:α→Bool} {d:α} {j:Nat} (hj:j < l.length) (h:p (l.getD j d)=false):l.all p=false:=by
 rw [H6]
 exact ⟨l[j],uC hj,by simpa [List.getD,hj] using h⟩
theorem aPx {α:Type} {l m:List α} {d:α} (hl:l.length=m.length) (h:∀ j,j < l.length→l.getD j d=m.getD j d):l=m:=by
 apply List.ext_getElem hl
 intro j h1 h2
 have:=h j h1
 simpa [List.getD,h1,h2] using this
theorem eH {α:Type} {l:List α} {d:α} {k:Nat} (h:k < l.length):l.take (k+1)=l.take k++[l.getD k d]:=by
 rw [rH h]; simp [List.getD,h]
end Go.Vo

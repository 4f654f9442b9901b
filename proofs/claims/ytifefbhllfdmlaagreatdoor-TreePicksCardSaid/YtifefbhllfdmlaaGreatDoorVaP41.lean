/-
  What functions of the chapter return, as plain functions of what they are given; no condition beyond those that each theorem names.
-/
import Derived.Test.YtifefbhllfdmlaaGreatDoorTeP42
set_option maxRecDepth 100000
set_option linter.unusedSimpArgs false
set_option linter.unusedVariables false
set_option maxHeartbeats 4000000
namespace Go.Proofs.YtifefbhllfdmlaaGreatDoor
open Go Go.Vo
open Nat (reduceAdd reduceSub reduceMul reduceLeDiff reduceLT reduceEqDiff)
open Int (reduceNeg)

mutual
def vis : LTerm → Int → List (LTerm × Int)
 | .mk k n x s ks rs, d => (.mk k n x s ks rs, d) :: (visL ks (d + 1) ++ visL rs (d + 1))
def visL : List LTerm → Int → List (LTerm × Int)
 | [], _ => []
 | t :: l, d => vis t d ++ visL l d
end
theorem jP : ∀ {l m : List LTerm} {d : Int}, visL (l ++ m) d = visL l d ++ visL m d
 | [], m, d => rfl
 | t :: l, m, d => by rw [dE, visL, visL, jP, bW]
theorem rA (t : LTerm) (d : Int) : vis t d = (t, d) :: visL (t.kids ++ t.rest) (d + 1) := by cases t; rw [vis, jP]; rfl
theorem tO {l : List LTerm} {k : Nat} {d : Int} (h : k < l.length) : visL (l.drop k) d = vis (l.getD k default) d ++ visL (l.drop (k + 1)) d := by
 rw [bB h, visL]; simp [List.getD, h]
def K5 {α : Type} (φ : LTerm × Int → α → α) (a : α) (l : List (LTerm × Int)) : α := l.foldl (fun a v => φ v a) a
theorem V9 {α : Type} {φ : LTerm × Int → α → α} {a : α} {l m : List (LTerm × Int)} : K5 φ a (l ++ m) = K5 φ (K5 φ a l) m := by simp [K5, lE]
theorem aUc : ∀ (t : LTerm), OkT t → ∀ (d : Int), ∀ v ∈ vis t d, OkT v.1 :=
 dY fun t hk hr ht d v hv => by
   have L : ∀ (l : List LTerm), (∀ x ∈ l, OkT x ∧ ∀ (d : Int), ∀ v ∈ vis x d, OkT v.1) → ∀ v ∈ visL l (d + 1), OkT v.1 := by
     intro l
     induction l with
     | nil => intro _ v hv; simp [visL] at hv
     | cons x l ih =>
       intro h v hv
       rw [visL, bY] at hv
       rcases hv with hv | hv
       · exact (h x (by simp)).2 _ v hv
       · exact ih (fun y hy => h y (by simp [hy])) v hv
   rw [rA, bZ] at hv
   rcases hv with rfl | hv
   · exact ht
   · refine L _ (fun x hx => ?_) v hv
     rcases bY.1 hx with hx | hx
     · exact ⟨ht.kid x hx, hk x hx (ht.kid x hx)⟩
     · exact ⟨ht.rst x hx, hr x hx (ht.rst x hx)⟩

theorem B7 {t : LTerm} (h : dD t = true) : t.rest = [] ∨ ∃ r, t.rest = [r] ∧ r.kids = [] ∧ r.rest = [] := by
 have h1 := nJ t h
 have h2 := P6 h
 rcases hr : t.rest with _ | ⟨x, _ | ⟨y, l⟩⟩
 · exact .inl rfl
 · rw [hr] at h2
   exact .inr ⟨x, rfl, (h2 x (by simp)).2⟩
 · rw [hr] at h1; simp at h1
theorem aOp {r : LTerm} (h1 : r.kids = []) (h2 : r.rest = []) (d : Int) : vis r d = [(r, d)] := by rw [rA, h1, h2]; rfl
theorem M5 {t : LTerm} (h : dD t = true) (d : Int) : visL t.rest d = t.rest.map fun r => (r, d) := by
 rcases B7 h with e | ⟨r, e, h1, h2⟩
 · rw [e]; rfl
 · rw [e, visL, aOp h1 h2]; rfl
theorem sS (t : LTerm) : nodesT t = 1 + t.rest.length + nodesL t.kids := by cases t; rw [nodesT]; rfl
theorem G6 (t : LTerm) : highT t = 1 + max t.rest.length (highL t.kids) := by cases t; rw [highT]; rfl
theorem B6 : ∀ (l : List LTerm), l.length ≤ nodesL l
 | [] => bG _
 | t :: l => by rw [nodesL, aK, sS]; have := B6 l; omega
theorem aWt : ∀ (t : LTerm), wfT dD t = true → ∀ d : Int, (vis t d).length = nodesT t :=
 dY fun t hk _ hw d => by
   rw [M0] at hw
   have L : ∀ (l : List LTerm), (∀ x ∈ l, ∀ d : Int, (vis x d).length = nodesT x) → (visL l (d + 1)).length = nodesL l := by
     intro l
     induction l with
     | nil => intro _; rfl
     | cons x l ih => intro h; rw [visL, nodesL, aI, h x (by simp), ih (fun y hy => h y (by simp [hy]))]
   rw [rA, jP, sS, aK, aI, L _ (fun x hx => hk x hx (hw.2 x hx)), M5 hw.1, kK]
   omega
structure bQj (t : LTerm) (d : Int) (v : LTerm × Int) : Prop where
 lo : d ≤ v.2
 hi : v.2 + 1 ≤ d + highT t
 len : v.1.kids.length + v.1.rest.length ≤ nodesT t
theorem aWu : ∀ (t : LTerm), wfT dD t = true → ∀ d : Int, ∀ v ∈ vis t d, bQj t d v :=
 dY fun t hk _ hw d v hv => by
   rw [M0] at hw
   rw [rA, jP, bZ, bY, M5 hw.1, qW] at hv
   have hn := sS t
   have hh := G6 t
   have hl := B6 t.kids
   rcases hv with rfl | hv | ⟨r, hr, rfl⟩
   · exact ⟨Int.le_refl _, by dsimp only; omega, by dsimp only; omega⟩
   · have L : ∀ (l : List LTerm), (∀ x ∈ l, ∀ d : Int, ∀ v ∈ vis x d, bQj x d v) → v ∈ visL l (d + 1) → d + 1 ≤ v.2 ∧ v.2 ≤ d + highL l ∧ v.1.kids.length + v.1.rest.length ≤ nodesL l := by
       intro l
       induction l with
       | nil => intro _ h; simp [visL] at h
       | cons x l ih =>
         intro h hv
         rw [highL, nodesL]
         rw [visL, bY] at hv
         rcases hv with hv | hv
         · have b := h x (by simp) _ v hv
           have b1 := b.lo
           have b2 := b.hi
           have b3 := b.len
           exact ⟨b1, by omega, by omega⟩
         · have b := ih (fun y hy => h y (by simp [hy])) hv
           omega
     have b := L _ (fun x hx => hk x hx (hw.2 x hx)) hv
     exact ⟨by omega, by omega, by omega⟩
   · have e : t.rest.length = 1 ∧ r.kids = [] ∧ r.rest = [] := by
       rcases B7 hw.1 with e | ⟨r', e, h1, h2⟩
       · rw [e] at hr; cases hr
       · rw [e] at hr; obtain rfl := cL.1 hr; rw [e]; exact ⟨rfl, h1, h2⟩
     refine ⟨by dsimp only; omega, by dsimp only; omega, ?_⟩
     dsimp only
     rw [e.2.1, e.2.2]; simp
def S4 (v : LTerm × Int) (a : Int) : Int := if v.2 > a then v.2 else a
def bUs (a : Int) (l : List (LTerm × Int)) : Prop := (0 ≤ a ∧ a + l.length ≤ 1000000) ∧ ∀ v ∈ l, 0 ≤ v.2 ∧ v.2 ≤ 1000 ∧ v.1.kids.length + v.1.rest.length ≤ 1000000
theorem aHj {t : LTerm} (h : gO dD t = true) : bUs 0 (vis t 1 ++ []) := by
 rw [List.append_nil]
 simp only [gO, aB, decide_eq_true_eq] at h
 refine ⟨⟨Int.le_refl _, by rw [aWt t h.1.1]; omega⟩, fun v hv => ?_⟩
 have b := aWu t h.1.1 1 v hv
 have b1 := b.lo
 have b2 := b.hi
 have b3 := b.len
 exact ⟨by omega, by omega, by omega⟩

def zM (m : List (Str × Str)) (x : Str) : Option Str := (m.find? fun p => decide (x = p.1)).map (·.2)
theorem bCb {m : List (Str × Str)} {p : Str × Str} {x : Str} : zM (m ++ [p]) x = match zM m x with | some y => some y | none => if x = p.1 then some p.2 else none := by
 unfold zM
 rw [List.find?_append]
 cases h : m.find? fun p => decide (x = p.1) with
 | some q => rfl
 | none =>
   simp only [Option.none_or, List.find?_cons, List.find?_nil, Option.map_none]
   by_cases hx : x = p.1 <;> simp [hx]
def bLi (r : List (Str × Str) × Str) (x : Str × Str) : List (Str × Str) × Str :=
 match zM r.1 x.1 with
 | some old => if old ≠ x.2 ∧ (r.2 = [] ∨ x.1 < r.2) then (r.1, x.1) else r
 | none => (r.1 ++ [x], r.2)
def V5 {α : Type} [DecidableEq α] (out : List α) (v : α) : List α := if v ∈ out then out else out ++ [v]
def bDw (t : LTerm) : Str × Str := (t.text, t.sort)

def aRm (s : bX) (v : LTerm × Int) (b : Bool) : Bool := if v.1.kind = 5 then b || (kQ s v.1.text).2.1 else b
def bBz (k : LTerm) : Bool := G5 k || (decide (k.kind = 6) && !decide (k.text = [95]))
def lS (l : List LTerm) (n : Nat) : Bool := aEi n fun j => bBz (l.getD (2 * j) default)
def bEf (t : LTerm) : Bool := !(decide (t.kind = 6) && decide (t.text = [36])) && (!decide (t.kind = 8) || lS t.kids ((t.kids.length + 1) / 2))
def bDv (v : LTerm × Int) (b : Bool) : Bool := b && bEf v.1
def isV (t : LTerm) : Bool := decide (t.kind = 6) && !decide (t.text = [95])
def aIc (v : LTerm × Int) (r : List (Str × Str) × Str) : List (Str × Str) × Str := if isV v.1 = true then bLi r (bDw v.1) else r
def aEr (t : LTerm) : List LTerm := ((vis t 1).map (·.1)).filter isV

structure LTest where
 op : Int
 term : LTerm
 text : Str
 n : Int
structure LAsk where
 path : List Int
 test : LTest
instance : Inhabited LTest := ⟨⟨0, default, [], 0⟩⟩
instance : Inhabited LAsk := ⟨⟨[], default⟩⟩
def dF (x : LTest) : List AV := [.i .i64 x.op, .i .i64 x.term.kind, .i .i64 x.term.n, .s x.term.text, .s x.term.sort, avt x.term.kids, avt x.term.rest, .s x.text, .i .i64 x.n]
def aR (a : LAsk) : List AV := [.sl (a.path.map (.i .i64)) a.path.length, .i .i64 a.test.op, .i .i64 a.test.term.kind, .i .i64 a.test.term.n, .s a.test.term.text, .s a.test.term.sort, avt a.test.term.kids, avt a.test.term.rest, .s a.test.text, .i .i64 a.test.n]
theorem aAq (a : LAsk) : (aR a).length = 10 := rfl
def ava (l : List LAsk) : AV := .sl (l.flatMap aR) l.length
def jW (a b : LTest) : Bool := decide (a.op = b.op) && (decide (a.text = b.text) && (decide (a.n = b.n) && decide (a.term = b.term)))
theorem bGc (a b : LTest) (ha : OkT a.term) (hb : OkT b.term): CT 111 [.agg (dF a), .agg (dF b)] (.b (jW a b)) := by
 refine bI mixed Tryz.func111 g0 ?_
 · simp -implicitDefEqProofs (disch := omega) only [Tryz.f111, go_sem, List.replicate, simprocAttr, dF, avt]
   (refine zt1 (aDk a.term b.term ha hb) ?_; repeat' first | exact trivial | refine zJ ?_ ?_ | refine zH fun hc => ?_)
   all_goals (refine aE ?_ rfl; simp_all [jW])
theorem aYe {l m : List Int} {k : Nat} (hk : k < l.length) (h : ¬ l.getD k 0 = m.getD k 0) : decide (l = m) = false := zf (fun e => h (by rw [e]))
theorem aJj {l m : List Int} (hl : l.length = m.length) (h : ∀ j, j < l.length → l.getD j 0 = m.getD j 0) : decide (l = m) = true := by
 rw [decide_eq_true_eq]
 apply L5 hl
 intro j h1 h2
 have := h j h1
 simpa [List.getD, h1, h2] using this

theorem bDt (a : LAsk) : persL (aR a) = true := by
 simp [aR, persL, pers, fP, avt, lL]
theorem B0 {l : List LAsk} : persL (l.flatMap aR) = true := iE fun x _ => bDt x
section
variable {k : Nat} {l : List LAsk}
theorem bBg (h : k < l.length) : ((l.flatMap aR).drop (k * 10)).take 10 = aR (l.getD k default) := by
 rw [oG aAq]
 simp [h, List.getD]
theorem vG : (l.flatMap aR).length = l.length * 10 := mJ aAq l
end
attribute [go_sem] bBg vG B0 bDt

abbrev zT : LTerm := .mk 0 0 [] [] [] []
mutual
def dO : LTerm → List Int → List LAsk
 | .mk k n x so ks rs, p =>
   if k = 5 then ⟨p, ⟨2, zT, x, ks.length⟩⟩ :: testsL ks p 0
   else if k = 7 then ⟨p, ⟨if 0 < rs.length then 4 else 3, zT, [], ks.length⟩⟩ :: testsL ks p 0
   else if k = 8 then [⟨p, ⟨5, zT, [], 0⟩⟩]
   else if k = 6 then (if so = aHd then [] else [⟨p, ⟨6, zT, so, 0⟩⟩])
   else [⟨p, ⟨1, .mk k n x so ks rs, [], 0⟩⟩]
def testsL : List LTerm → List Int → Nat → List LAsk
 | [], _, _ => []
 | t :: l, p, i => dO t (p ++ [(i : Int)]) ++ testsL l p (i + 1)
end
theorem lH (t : LTerm) (p : List Int) : dO t p = if t.kind = 5 then ⟨p, ⟨2, zT, t.text, t.kids.length⟩⟩ :: testsL t.kids p 0
   else if t.kind = 7 then ⟨p, ⟨if 0 < t.rest.length then 4 else 3, zT, [], t.kids.length⟩⟩ :: testsL t.kids p 0
   else if t.kind = 8 then [⟨p, ⟨5, zT, [], 0⟩⟩]
   else if t.kind = 6 then (if t.sort = aHd then [] else [⟨p, ⟨6, zT, t.sort, 0⟩⟩])
   else [⟨p, ⟨1, t, [], 0⟩⟩] := by cases t; rw [dO]; rfl
theorem nT : ∀ {l : List LTerm} {p : List Int} {i k : Nat}, k < l.length → testsL (l.take (k + 1)) p i = testsL (l.take k) p i ++ dO (l.getD k default) (p ++ [((i + k : Nat) : Int)])
 | t :: l, p, i, 0, _ => by simp [testsL]
 | t :: l, p, i, k + 1, h => by
   rw [eM, testsL, eM, testsL, nT (k := k) (by simpa using h), bW, show i + 1 + k = i + (k + 1) by omega]; simp
 | [], _, _, _, h => by simp at h
theorem sB : ∀ {l m : List LTerm} {p : List Int} {i : Nat}, testsL (l ++ m) p i = testsL l p i ++ testsL m p (i + l.length)
 | [], m, p, i => by simp [testsL]
 | t :: l, m, p, i => by rw [dE, testsL, testsL, sB, bW, aK, show i + 1 + l.length = i + (l.length + 1) by omega]
theorem rI {l : List LTerm} {p : List Int} {k : Nat} : (testsL (l.take k) p 0).length ≤ (testsL l p 0).length := by
 have : testsL l p 0 = testsL (l.take k) p 0 ++ testsL (l.drop k) p (0 + (l.take k).length) := by rw [← sB, gH]
 rw [this, aI]; omega
theorem aEw {t : LTerm} {p : List Int} (h : t.kind = 5 ∨ t.kind = 7) : (dO t p).length = (testsL t.kids p 0).length + 1 := by
 rw [lH]
 rcases h with h | h
 · rw [if_pos h]; rfl
 · rw [if_neg (by omega), if_pos h]; rfl
end Go.Proofs.YtifefbhllfdmlaaGreatDoor

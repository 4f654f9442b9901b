/-
  Terms, as plain trees, and how they lie in cells; no condition.
-/
import Derived.Test.YtifefbhllfdmlaaGreatDoorSoP41
import Derived.Sort.Walk0
import Derived.Test.YtifefbhllfdmlaaGreatDoorSoP42
set_option linter.unusedVariables false
set_option linter.unusedSimpArgs false
set_option maxRecDepth 100000
set_option maxHeartbeats 4000000
namespace Go.Vo

inductive LTerm where
 | mk (kind n : Int) (text sort : Str) (kids rest : List LTerm)
namespace LTerm
def kind : LTerm → Int | mk k _ _ _ _ _ => k
def n : LTerm → Int | mk _ n _ _ _ _ => n
def text : LTerm → Str | mk _ _ t _ _ _ => t
def sort : LTerm → Str | mk _ _ _ s _ _ => s
def kids : LTerm → List LTerm | mk _ _ _ _ k _ => k
def rest : LTerm → List LTerm | mk _ _ _ _ _ r => r
theorem ext_iff {a b : LTerm} : a = b ↔ a.kind = b.kind ∧ a.n = b.n ∧ a.text = b.text ∧ a.sort = b.sort ∧ a.kids = b.kids ∧ a.rest = b.rest := by
 cases a; cases b; simp [kind, n, text, sort, kids, rest]
end LTerm
instance : Inhabited LTerm := ⟨.mk 0 0 [] [] [] []⟩
theorem aIj {t k : LTerm} (h : k ∈ t.kids) : SizeOf.sizeOf k < SizeOf.sizeOf t := by
 cases t; simp only [LTerm.kids] at h; have := qU h; simp; omega
theorem aIi {t k : LTerm} (h : k ∈ t.rest) : SizeOf.sizeOf k < SizeOf.sizeOf t := by
 cases t; simp only [LTerm.rest] at h; have := qU h; simp; omega
theorem dY {Q : LTerm → Prop} (h : ∀ t, (∀ k ∈ t.kids, Q k) → (∀ k ∈ t.rest, Q k) → Q t) (t : LTerm) : Q t :=
 h t (fun k hk => dY h k) (fun k hk => dY h k)
termination_by SizeOf.sizeOf t
decreasing_by
 · exact aIj hk
 · exact aIi hk
mutual
def aXk : LTerm → LTerm → Bool
 | .mk k n t s ks rs, .mk k' n' t' s' ks' rs' => decide (k = k') && decide (n = n') && decide (t = t') && decide (s = s') && sameL ks ks' && sameL rs rs'
def sameL : List LTerm → List LTerm → Bool
 | [], [] => true
 | a :: l, b :: m => aXk a b && sameL l m
 | _, _ => false
end
mutual
theorem N7 : ∀ (a b : LTerm), aXk a b = true ↔ a = b
 | .mk k n t s ks rs, .mk k' n' t' s' ks' rs' => by
   simp only [aXk, aB, decide_eq_true_eq, sameL_iff ks ks', sameL_iff rs rs', LTerm.mk.injEq, and_assoc]
theorem sameL_iff : ∀ (l m : List LTerm), sameL l m = true ↔ l = m
 | [], [] => by simp [sameL]
 | a :: l, b :: m => by simp only [sameL, aB, N7 a b, sameL_iff l m, iW]
 | [], _ :: _ => by simp [sameL]
 | _ :: _, [] => by simp [sameL]
end
instance : DecidableEq LTerm := fun a b => decidable_of_iff _ (N7 a b)

mutual
def aD : LTerm → List AV
 | .mk k n t s ks rs => [.i .i64 k, .i .i64 n, .s t, .s s, .sl (termsCells ks) ks.length, .sl (termsCells rs) rs.length]
def termsCells : List LTerm → List AV
 | [] => []
 | t :: l => aD t ++ termsCells l
end
theorem sC : ∀ (l : List LTerm), termsCells l = l.flatMap aD
 | [] => by simp [termsCells]
 | t :: l => by rw [termsCells, sC l, cY]
def avt (l : List LTerm) : AV := .sl (l.flatMap aD) l.length
theorem bC (t : LTerm) : aD t = [.i .i64 t.kind, .i .i64 t.n, .s t.text, .s t.sort, avt t.kids, avt t.rest] := by
 cases t
 simp only [aD, sC, LTerm.kind, LTerm.n, LTerm.text, LTerm.sort, LTerm.kids, LTerm.rest, avt]
theorem E3 (x : LTerm) : (aD x).length = 6 := by rw [bC]; rfl
theorem A9 {a : AV} {l : List AV} : persL (a :: l) = (pers a && persL l) := rfl
theorem kC : ∀ {l m : List AV}, persL (l ++ m) = (persL l && persL m)
 | [], m => by simp [persL]
 | a :: l, m => by rw [dE, A9, A9, kC, mE]
theorem iE {α : Type} {f : α → List AV} : ∀ {l : List α}, (∀ x ∈ l, persL (f x) = true) → persL (l.flatMap f) = true
 | [], _ => rfl
 | a :: l, h => by rw [cY, kC, h a (by simp), iE (fun x hx => h x (by simp [hx]))]; rfl
theorem aPz (t : LTerm) : persL (aD t) = true := by
 induction t using dY with
 | h t hk hr =>
   rw [bC]
   simp [persL, avt, pers, iE hk, iE hr]
theorem lL {l : List LTerm} : persL (l.flatMap aD) = true := iE fun x _ => aPz x
theorem aBv {l : List LTerm} : pers (avt l) = true := by simp only [avt, pers, lL]
section
variable {k : Nat} {l : List LTerm}
theorem aBf (h : k < l.length) : ((l.flatMap aD).drop (k * 6)).take 6 = aD (l.getD k default) := by
 rw [oG E3]
 simp [h, List.getD]
theorem aHq (h : 0 < l.length) : (l.flatMap aD).take 6 = aD (l.getD 0 default) := by
 have := aBf h
 simpa using this
theorem E4 : (l.flatMap aD).length = l.length * 6 := mJ E3 l
end
attribute [go_sem] aBf aHq E4 lL aPz aBv avt bC
end Go.Vo
namespace Go.Proofs.YtifefbhllfdmlaaGreatDoor
open Go Go.Vo
open Nat (reduceAdd reduceSub reduceMul reduceLeDiff reduceLT reduceEqDiff)
open Int (reduceNeg)

inductive OkT : LTerm → Prop
 | mk {t : LTerm} : t.text.length ≤ 140737488355328 → t.sort.length ≤ 140737488355328 → -9223372036854775808 ≤ t.n → t.n ≤ 9223372036854775807 → t.kids.length ≤ 1466015503701 → t.rest.length ≤ 1466015503701 → (∀ k ∈ t.kids, OkT k) → (∀ k ∈ t.rest, OkT k) → OkT t
section
variable {t : LTerm} (h : OkT t)
include h
theorem OkT.text : t.text.length ≤ 140737488355328 := by cases h; assumption
theorem OkT.sort : t.sort.length ≤ 140737488355328 := by cases h; assumption
theorem OkT.kids : t.kids.length ≤ 1466015503701 := by cases h; assumption
theorem OkT.rest : t.rest.length ≤ 1466015503701 := by cases h; assumption
theorem OkT.kid : ∀ k ∈ t.kids, OkT k := by cases h; assumption
theorem OkT.rst : ∀ k ∈ t.rest, OkT k := by cases h; assumption
end
abbrev tZ : LTerm := .mk 0 0 [] [] [] []
def elT (t : LTerm) : AV := .agg (aD t)
def bBw (t : LTerm) (e : Int) : AV := .tup [.agg (aD t), .i .i64 e]
section
variable (k n : Int) (t s : Str) (ks rs : List LTerm)
theorem aZf : (LTerm.mk k n t s ks rs).kind = k := rfl
theorem bSf : (LTerm.mk k n t s ks rs).n = n := rfl
theorem aWz : (LTerm.mk k n t s ks rs).text = t := rfl
theorem aXf : (LTerm.mk k n t s ks rs).sort = s := rfl
theorem aZg : (LTerm.mk k n t s ks rs).kids = ks := rfl
theorem aXp : (LTerm.mk k n t s ks rs).rest = rs := rfl
end
theorem bMe : ((2 : Int) = 0) = False := by decide
attribute [go_sem] bMe ite_self elT bBw aZf bSf aWz aXf aZg aXp
theorem zdB : (∀ l, avs l = .sl (l.map .s) l.length) ∧ (∀ l, avb l = .sl (l.flatMap bU) l.length) ∧ (∀ l, avi l = .sl (l.map (.i .i64)) l.length) ∧ (∀ l, avo l = .sl (l.flatMap bA) l.length) ∧ (∀ s, aO s = [avs s.sorts, avb s.below, avo s.ops, avo s.funs, avs s.values]) ∧ (∀ o, bA o = [.s o.name, avs o.args, .s o.sort, avb o.pieces, .i .i64 o.prec, .i .i64 o.assoc, avi o.strict]) ∧ (∀ b, bU b = [.s b.1, .s b.2]) ∧ (∀ t, elT t = .agg (aD t)) ∧ (∀ l, avt l = .sl (l.flatMap aD) l.length) ∧ (∀ t, aD t = [.i .i64 t.kind, .i .i64 t.n, .s t.text, .s t.sort, avt t.kids, avt t.rest]) := ⟨fun _ => rfl, fun _ => rfl, fun _ => rfl, fun _ => rfl, fun _ => rfl, fun _ => rfl, fun _ => rfl, fun _ => rfl, fun _ => rfl, bC⟩
theorem cF {P : Program} {G : eW} {dr : Option DR} {d : Option Nat} {os : List fD} {K : List AV → List AObj → Prop} {env : List AV} {h : List AObj} {f : FuncId} {A A' : List AV} {r : AV} (s : Ctr P G f A' r)
 (k : cT P G dr os K (fR env d (mat r (fI r h A)).1) (mat r (fI r h A)).2) (hA : A.map (gJ dep h) = A' := by (simp -implicitDefEqProofs (disch := omega) only [zdB, go_sem, ↓reduceIte, reduceAdd, reduceSub, reduceMul, reduceLeDiff, reduceLT, reduceEqDiff, reduceNeg, Nat.reduceBEq]; done)) : tH P G dr f A d os K env h := aX s hA k
theorem zt1 {K1 : Prop} {p q : Prop} (k1 : K1) (h : q) (e : K1 → Cv q p := by
   intro k1
   repeat' first | with_reducible apply vT | with_reducible apply vF | with_reducible apply vC | ((first | ((with_reducible apply vE); (focus exact k1); (focus (simp -implicitDefEqProofs (disch := omega) only [zdB, go_sem, simprocAttr]; done))) | ((with_reducible apply vE); (focus (apply k1 <;> omega)); (focus (simp -implicitDefEqProofs (disch := omega) only [zdB, go_sem, simprocAttr]; done))) | ((with_reducible apply vR); focus exact k1 ..)); simp -implicitDefEqProofs (disch := omega) only [go_sem, simprocAttr]) | ((with_reducible apply vA); focus omega) | ((with_reducible apply vI); (focus (intro hr; (try simp only [zdz] at hr); exact hr)); intro hr; have hc := hr; (try simp only [zdz] at hc); simp -implicitDefEqProofs (disch := omega) only [hr, go_sem, simprocAttr]; (try clear hr))
   any_goals exact vS) : p := (e k1).1 h
theorem zy1 {K1 : Prop} {x : Prop} {p q : Prop} (X : x) (k1 : K1) (h : q) (e : x → K1 → Cv q p := by
   intro X k1
   repeat' first | with_reducible apply vT | with_reducible apply vF | with_reducible apply vC | ((first | ((with_reducible apply vE); (focus exact k1); (focus (simp -implicitDefEqProofs (disch := omega) only [X, zdB, go_sem, simprocAttr]; done))) | ((with_reducible apply vE); (focus (apply k1 <;> omega)); (focus (simp -implicitDefEqProofs (disch := omega) only [X, zdB, go_sem, simprocAttr]; done))) | ((with_reducible apply vR); focus exact k1 ..)); simp -implicitDefEqProofs (disch := omega) only [X, go_sem, simprocAttr]) | ((with_reducible apply vA); focus omega) | ((with_reducible apply vI); (focus (intro hr; (try simp only [zdz] at hr); exact hr)); intro hr; have hc := hr; (try simp only [zdz] at hc); simp -implicitDefEqProofs (disch := omega) only [hr, X, go_sem, simprocAttr]; (try clear hr))
   any_goals exact vS) : p := (e X k1).1 h
theorem zt2 {K1 : Prop} {K2 : Prop} {p q : Prop} (k1 : K1) (k2 : K2) (h : q) (e : K1 → K2 → Cv q p := by
   intro k1 k2
   repeat' first | with_reducible apply vT | with_reducible apply vF | with_reducible apply vC | ((first | ((with_reducible apply vE); (focus exact k1); (focus (simp -implicitDefEqProofs (disch := omega) only [zdB, go_sem, simprocAttr]; done))) | ((with_reducible apply vE); (focus (apply k1 <;> omega)); (focus (simp -implicitDefEqProofs (disch := omega) only [zdB, go_sem, simprocAttr]; done))) | ((with_reducible apply vR); focus exact k1 ..) | ((with_reducible apply vE); (focus exact k2); (focus (simp -implicitDefEqProofs (disch := omega) only [zdB, go_sem, simprocAttr]; done))) | ((with_reducible apply vE); (focus (apply k2 <;> omega)); (focus (simp -implicitDefEqProofs (disch := omega) only [zdB, go_sem, simprocAttr]; done))) | ((with_reducible apply vR); focus exact k2 ..)); simp -implicitDefEqProofs (disch := omega) only [go_sem, simprocAttr]) | ((with_reducible apply vA); focus omega) | ((with_reducible apply vI); (focus (intro hr; (try simp only [zdz] at hr); exact hr)); intro hr; have hc := hr; (try simp only [zdz] at hc); simp -implicitDefEqProofs (disch := omega) only [hr, go_sem, simprocAttr]; (try clear hr))
   any_goals exact vS) : p := (e k1 k2).1 h
theorem zy2 {K1 : Prop} {K2 : Prop} {x : Prop} {p q : Prop} (X : x) (k1 : K1) (k2 : K2) (h : q) (e : x → K1 → K2 → Cv q p := by
   intro X k1 k2
   repeat' first | with_reducible apply vT | with_reducible apply vF | with_reducible apply vC | ((first | ((with_reducible apply vE); (focus exact k1); (focus (simp -implicitDefEqProofs (disch := omega) only [X, zdB, go_sem, simprocAttr]; done))) | ((with_reducible apply vE); (focus (apply k1 <;> omega)); (focus (simp -implicitDefEqProofs (disch := omega) only [X, zdB, go_sem, simprocAttr]; done))) | ((with_reducible apply vR); focus exact k1 ..) | ((with_reducible apply vE); (focus exact k2); (focus (simp -implicitDefEqProofs (disch := omega) only [X, zdB, go_sem, simprocAttr]; done))) | ((with_reducible apply vE); (focus (apply k2 <;> omega)); (focus (simp -implicitDefEqProofs (disch := omega) only [X, zdB, go_sem, simprocAttr]; done))) | ((with_reducible apply vR); focus exact k2 ..)); simp -implicitDefEqProofs (disch := omega) only [X, go_sem, simprocAttr]) | ((with_reducible apply vA); focus omega) | ((with_reducible apply vI); (focus (intro hr; (try simp only [zdz] at hr); exact hr)); intro hr; have hc := hr; (try simp only [zdz] at hc); simp -implicitDefEqProofs (disch := omega) only [hr, X, go_sem, simprocAttr]; (try clear hr))
   any_goals exact vS) : p := (e X k1 k2).1 h
theorem zt3 {K1 : Prop} {K2 : Prop} {K3 : Prop} {p q : Prop} (k1 : K1) (k2 : K2) (k3 : K3) (h : q) (e : K1 → K2 → K3 → Cv q p := by
   intro k1 k2 k3
   repeat' first | with_reducible apply vT | with_reducible apply vF | with_reducible apply vC | ((first | ((with_reducible apply vE); (focus exact k1); (focus (simp -implicitDefEqProofs (disch := omega) only [zdB, go_sem, simprocAttr]; done))) | ((with_reducible apply vE); (focus (apply k1 <;> omega)); (focus (simp -implicitDefEqProofs (disch := omega) only [zdB, go_sem, simprocAttr]; done))) | ((with_reducible apply vR); focus exact k1 ..) | ((with_reducible apply vE); (focus exact k2); (focus (simp -implicitDefEqProofs (disch := omega) only [zdB, go_sem, simprocAttr]; done))) | ((with_reducible apply vE); (focus (apply k2 <;> omega)); (focus (simp -implicitDefEqProofs (disch := omega) only [zdB, go_sem, simprocAttr]; done))) | ((with_reducible apply vR); focus exact k2 ..) | ((with_reducible apply vE); (focus exact k3); (focus (simp -implicitDefEqProofs (disch := omega) only [zdB, go_sem, simprocAttr]; done))) | ((with_reducible apply vE); (focus (apply k3 <;> omega)); (focus (simp -implicitDefEqProofs (disch := omega) only [zdB, go_sem, simprocAttr]; done))) | ((with_reducible apply vR); focus exact k3 ..)); simp -implicitDefEqProofs (disch := omega) only [go_sem, simprocAttr]) | ((with_reducible apply vA); focus omega) | ((with_reducible apply vI); (focus (intro hr; (try simp only [zdz] at hr); exact hr)); intro hr; have hc := hr; (try simp only [zdz] at hc); simp -implicitDefEqProofs (disch := omega) only [hr, go_sem, simprocAttr]; (try clear hr))
   any_goals exact vS) : p := (e k1 k2 k3).1 h
theorem zy3 {K1 : Prop} {K2 : Prop} {K3 : Prop} {x : Prop} {p q : Prop} (X : x) (k1 : K1) (k2 : K2) (k3 : K3) (h : q) (e : x → K1 → K2 → K3 → Cv q p := by
   intro X k1 k2 k3
   repeat' first | with_reducible apply vT | with_reducible apply vF | with_reducible apply vC | ((first | ((with_reducible apply vE); (focus exact k1); (focus (simp -implicitDefEqProofs (disch := omega) only [X, zdB, go_sem, simprocAttr]; done))) | ((with_reducible apply vE); (focus (apply k1 <;> omega)); (focus (simp -implicitDefEqProofs (disch := omega) only [X, zdB, go_sem, simprocAttr]; done))) | ((with_reducible apply vR); focus exact k1 ..) | ((with_reducible apply vE); (focus exact k2); (focus (simp -implicitDefEqProofs (disch := omega) only [X, zdB, go_sem, simprocAttr]; done))) | ((with_reducible apply vE); (focus (apply k2 <;> omega)); (focus (simp -implicitDefEqProofs (disch := omega) only [X, zdB, go_sem, simprocAttr]; done))) | ((with_reducible apply vR); focus exact k2 ..) | ((with_reducible apply vE); (focus exact k3); (focus (simp -implicitDefEqProofs (disch := omega) only [X, zdB, go_sem, simprocAttr]; done))) | ((with_reducible apply vE); (focus (apply k3 <;> omega)); (focus (simp -implicitDefEqProofs (disch := omega) only [X, zdB, go_sem, simprocAttr]; done))) | ((with_reducible apply vR); focus exact k3 ..)); simp -implicitDefEqProofs (disch := omega) only [X, go_sem, simprocAttr]) | ((with_reducible apply vA); focus omega) | ((with_reducible apply vI); (focus (intro hr; (try simp only [zdz] at hr); exact hr)); intro hr; have hc := hr; (try simp only [zdz] at hc); simp -implicitDefEqProofs (disch := omega) only [hr, X, go_sem, simprocAttr]; (try clear hr))
   any_goals exact vS) : p := (e X k1 k2 k3).1 h
theorem zt4 {K1 : Prop} {K2 : Prop} {K3 : Prop} {K4 : Prop} {p q : Prop} (k1 : K1) (k2 : K2) (k3 : K3) (k4 : K4) (h : q) (e : K1 → K2 → K3 → K4 → Cv q p := by
   intro k1 k2 k3 k4
   repeat' first | with_reducible apply vT | with_reducible apply vF | with_reducible apply vC | ((first | ((with_reducible apply vE); (focus exact k1); (focus (simp -implicitDefEqProofs (disch := omega) only [zdB, go_sem, simprocAttr]; done))) | ((with_reducible apply vE); (focus (apply k1 <;> omega)); (focus (simp -implicitDefEqProofs (disch := omega) only [zdB, go_sem, simprocAttr]; done))) | ((with_reducible apply vR); focus exact k1 ..) | ((with_reducible apply vE); (focus exact k2); (focus (simp -implicitDefEqProofs (disch := omega) only [zdB, go_sem, simprocAttr]; done))) | ((with_reducible apply vE); (focus (apply k2 <;> omega)); (focus (simp -implicitDefEqProofs (disch := omega) only [zdB, go_sem, simprocAttr]; done))) | ((with_reducible apply vR); focus exact k2 ..) | ((with_reducible apply vE); (focus exact k3); (focus (simp -implicitDefEqProofs (disch := omega) only [zdB, go_sem, simprocAttr]; done))) | ((with_reducible apply vE); (focus (apply k3 <;> omega)); (focus (simp -implicitDefEqProofs (disch := omega) only [zdB, go_sem, simprocAttr]; done))) | ((with_reducible apply vR); focus exact k3 ..) | ((with_reducible apply vE); (focus exact k4); (focus (simp -implicitDefEqProofs (disch := omega) only [zdB, go_sem, simprocAttr]; done))) | ((with_reducible apply vE); (focus (apply k4 <;> omega)); (focus (simp -implicitDefEqProofs (disch := omega) only [zdB, go_sem, simprocAttr]; done))) | ((with_reducible apply vR); focus exact k4 ..)); simp -implicitDefEqProofs (disch := omega) only [go_sem, simprocAttr]) | ((with_reducible apply vA); focus omega) | ((with_reducible apply vI); (focus (intro hr; (try simp only [zdz] at hr); exact hr)); intro hr; have hc := hr; (try simp only [zdz] at hc); simp -implicitDefEqProofs (disch := omega) only [hr, go_sem, simprocAttr]; (try clear hr))
   any_goals exact vS) : p := (e k1 k2 k3 k4).1 h
def Rd6 (H : List AObj) (v : AV) (l : List LTerm) : Prop := (v = .e0 ∧ l = []) ∨ v = avt l ∨ ∃ i off fz t cells, v = .hs i off l.length t ∧ H[i]? = some (.arr fz 6 cells) ∧ off + l.length * 6 ≤ cells.length ∧ (cells.drop off).take (l.length * 6) = l.flatMap aD
theorem aPp {H : List AObj} {v : AV} {l : List LTerm} (h : Rd6 H v l) : avt l = gJ dep H v := by
 rcases h with ⟨rfl, rfl⟩ | rfl | ⟨i, off, fz, t, cells, rfl, h1, h2, h3⟩
 · rfl
 · simp only [jC, aBv, if_true]
 · simp only [jC, pers, E7, h1, h3, lL, if_true, aP, if_false, if_pos h2]
   rfl
theorem xD {H : List AObj} {v : AV} {l : List LTerm} (h : Rd6 H v l) : lR H v (avt l) ∧ bK v (avt l) = [] := by
 have h0 := aPp h
 rcases h with ⟨rfl, rfl⟩ | rfl | ⟨i, off, fz, t, cells, rfl, h1, h2, h3⟩
 · exact ⟨h0, rfl⟩
 · exact ⟨h0, rfl⟩
 · exact ⟨h0, rfl⟩
theorem uS {H : List AObj} : Rd6 H .e0 [] := .inl ⟨rfl, rfl⟩
theorem aBt {H : List AObj} {l : List LTerm} : Rd6 H (.sl (l.flatMap aD) l.length) l := .inr (.inl rfl)
theorem aVd {H : List AObj} {t : LTerm} {v4 v5 : AV} {c : Int} (r4 : Rd6 H v4 t.kids) (r5 : Rd6 H v5 t.rest) : Fin H (.tup [.agg [.i .i64 t.kind, .i .i64 t.n, .s t.text, .s t.sort, v4, v5], .i .i64 c]) (bBw t c) := by
 have e4 := xD r4
 have e5 := xD r5
 have hn : bK (.tup [.agg [.i .i64 t.kind, .i .i64 t.n, .s t.text, .s t.sort, v4, v5], .i .i64 c]) (bBw t c) = [] := by
   simp only [bBw, bK, finIdsL, bC, e4.2, e5.2, List.append_nil]
 refine .inr ⟨?_, ?_, ?_⟩
 · rw [bBw, bC]; exact ⟨⟨rfl, rfl, rfl, rfl, e4.1, e5.1, trivial⟩, rfl, trivial⟩
 · rw [hn]; exact eC
 · rw [hn]; simp
def G5 (t : LTerm) : Bool := decide (t.kind = 1) || decide (t.kind = 3) || decide (t.kind = 4)
theorem bHz (t : LTerm): CT 192 [elT t] (.b (G5 t)) := by
 refine aF mixed Tryz.func192 g0 ?_
 · skip
   (repeat' (first | refine gT ?_ ?_ | refine gF ?_ ?_ | refine gC ?_ ?_ | refine aZ (by omega) ?_ | (intro hr; have hc := hr; (try simp only [zdz] at hc); simp -implicitDefEqProofs (disch := omega) only [hr, go_sem, simprocAttr]; (try clear hr))))
   all_goals (refine aE ?_ rfl; simp_all [G5])
theorem aMf (t : LTerm): CT 130 [elT t] (.b (G5 t)) := by
 refine aF mixed Tryz.func130 g0 ?_
 · skip
   (repeat' (first | refine gT ?_ ?_ | refine gF ?_ ?_ | refine gC ?_ ?_ | refine aZ (by omega) ?_ | (intro hr; have hc := hr; (try simp only [zdz] at hc); simp -implicitDefEqProofs (disch := omega) only [hr, go_sem, simprocAttr]; (try clear hr))))
   all_goals (refine aE ?_ rfl; simp_all [G5])
def lP (n : Int) : Bool := decide (-2147483647 ≤ n) && decide (n ≤ 2147483647)
theorem aVt (n : Int): CT 233 [.i .i64 n] (.b (lP n)) := by
 refine aF mixed Tryz.func233 g0 ?_
 · skip
   (repeat' (first | refine gT ?_ ?_ | refine gF ?_ ?_ | refine gC ?_ ?_ | refine aZ (by omega) ?_ | (intro hr; have hc := hr; (try simp only [zdz] at hc); simp -implicitDefEqProofs (disch := omega) only [hr, go_sem, simprocAttr]; (try clear hr))))
   all_goals (refine aE ?_ rfl; simp_all [lP] <;> omega)
def oJ (a b : Int) : Int := if a < b then -1 else if b < a then 1 else 0
theorem aKv {a b : Str} (h1 : ¬ a < b) (h2 : ¬ a = b) : b < a := by
 rcases List.le_iff_lt_or_eq.1 (List.not_lt.1 h1) with h | h
 · exact h
 · exact absurd h.symm h2
def oZ (a b : Str) : Int := if a < b then -1 else if b < a then 1 else 0
theorem aMo {a b : Str} (h : a < b) : oZ a b = -1 := if_pos h
theorem aMp {a b : Str} (h1 : ¬ a < b) (h2 : ¬ a = b) : oZ a b = 1 := by rw [oZ, if_neg h1, if_pos (aKv h1 h2)]
theorem aAf {a b : Str} (h : a = b) : oZ a b = 0 := by subst h; have : ¬ a < a := List.lt_irrefl a; simp only [oZ, if_neg this]
theorem aMb (a b : Int): CT 241 [.i .i64 a, .i .i64 b] (.i .i64 (oJ a b)) := by
 refine aF mixed Tryz.func241 g0 ?_
 · skip
   (repeat' (first | refine gT ?_ ?_ | refine gF ?_ ?_ | refine gC ?_ ?_ | refine aZ (by omega) ?_ | (intro hr; have hc := hr; (try simp only [zdz] at hc); simp -implicitDefEqProofs (disch := omega) only [hr, go_sem, simprocAttr]; (try clear hr))))
   all_goals (refine aE ?_ rfl; congr 1; unfold oJ; (repeat' split) <;> omega)
theorem aVo (a : Int): CT 238 [.i .i64 a] (.b false) := by
 refine aF mixed Tryz.func238 g0 ?_
 · skip
   (repeat' (first | refine gT ?_ ?_ | refine gF ?_ ?_ | refine gC ?_ ?_ | refine aZ (by omega) ?_ | (intro hr; have hc := hr; (try simp only [zdz] at hc); simp -implicitDefEqProofs (disch := omega) only [hr, go_sem, simprocAttr]; (try clear hr))))
   all_goals (refine aE ?_ rfl; simp_all)
theorem aVp (a : Int): CT 237 [.i .i64 a] (.b false) := by
 refine aF mixed Tryz.func237 g0 ?_
 · skip
   (repeat' (first | refine gT ?_ ?_ | refine gF ?_ ?_ | refine gC ?_ ?_ | refine aZ (by omega) ?_ | (intro hr; have hc := hr; (try simp only [zdz] at hc); simp -implicitDefEqProofs (disch := omega) only [hr, go_sem, simprocAttr]; (try clear hr))))
   all_goals (refine aE ?_ rfl; simp_all)
theorem aVy (a : Str): CT 239 [.s a] (.b false) := by
 refine aF mixed Tryz.func239 g0 ?_
 · skip
   (repeat' (first | refine gT ?_ ?_ | refine gF ?_ ?_ | refine gC ?_ ?_ | refine aZ (by omega) ?_ | (intro hr; have hc := hr; (try simp only [zdz] at hc); simp -implicitDefEqProofs (disch := omega) only [hr, go_sem, simprocAttr]; (try clear hr))))
   all_goals (refine aE ?_ rfl; simp_all)
theorem bHi (a b : Int): CT 204 [.i .i64 a, .i .i64 b] (.i .i64 (oJ a b)) := by
 refine aF mixed Tryz.func204 g0 ?_
 · skip
   (repeat' (first | refine gT ?_ ?_ | refine gF ?_ ?_ | refine gC ?_ ?_ | ((first | (refine aX (aVo a) ?_ ?_; (focus (simp -implicitDefEqProofs (disch := omega) only [zdB, go_sem, simprocAttr]; done))) | (refine aX (aVo b) ?_ ?_; (focus (simp -implicitDefEqProofs (disch := omega) only [zdB, go_sem, simprocAttr]; done)))); simp -implicitDefEqProofs (disch := omega) only [go_sem, simprocAttr]) | refine aZ (by omega) ?_ | (intro hr; have hc := hr; (try simp only [zdz] at hc); simp -implicitDefEqProofs (disch := omega) only [hr, go_sem, simprocAttr]; (try clear hr))))
   all_goals (refine aE ?_ rfl; congr 1; unfold oJ; (repeat' split) <;> omega)
theorem bHj (a b : Int): CT 203 [.i .i64 a, .i .i64 b] (.i .i64 (oJ a b)) := by
 refine aF mixed Tryz.func203 g0 ?_
 · skip
   (repeat' (first | refine gT ?_ ?_ | refine gF ?_ ?_ | refine gC ?_ ?_ | ((first | (refine aX (aVp a) ?_ ?_; (focus (simp -implicitDefEqProofs (disch := omega) only [zdB, go_sem, simprocAttr]; done))) | (refine aX (aVp b) ?_ ?_; (focus (simp -implicitDefEqProofs (disch := omega) only [zdB, go_sem, simprocAttr]; done)))); simp -implicitDefEqProofs (disch := omega) only [go_sem, simprocAttr]) | refine aZ (by omega) ?_ | (intro hr; have hc := hr; (try simp only [zdz] at hc); simp -implicitDefEqProofs (disch := omega) only [hr, go_sem, simprocAttr]; (try clear hr))))
   all_goals (refine aE ?_ rfl; congr 1; unfold oJ; (repeat' split) <;> omega)
theorem aVs (a b : Str): CT 242 [.s a, .s b] (.i .i64 (oZ a b)) := by
 refine aF mixed Tryz.func242 g0 ?_
 · skip
   (repeat' (first | refine gT ?_ ?_ | refine gF ?_ ?_ | refine gC ?_ ?_ | refine aZ (by omega) ?_ | (intro hr; have hc := hr; (try simp only [zdz] at hc); simp -implicitDefEqProofs (disch := omega) only [hr, go_sem, simprocAttr]; (try clear hr))))
   all_goals (refine aE ?_ rfl; congr 1; simp only [bytesLess_eq, decide_eq_true_eq, decide_eq_false_iff_not, cZ] at *; first | exact aMo (by assumption) | exact aMp (by assumption) (by assumption) | exact aAf (by assumption))
theorem aVu (a b : Str): CT 205 [.s a, .s b] (.i .i64 (oZ a b)) := by
 refine aF mixed Tryz.func205 g0 ?_
 · skip
   (repeat' (first | refine gT ?_ ?_ | refine gF ?_ ?_ | refine gC ?_ ?_ | ((first | (refine aX (aVy a) ?_ ?_; (focus (simp -implicitDefEqProofs (disch := omega) only [zdB, go_sem, simprocAttr]; done))) | (refine aX (aVy b) ?_ ?_; (focus (simp -implicitDefEqProofs (disch := omega) only [zdB, go_sem, simprocAttr]; done)))); simp -implicitDefEqProofs (disch := omega) only [go_sem, simprocAttr]) | refine aZ (by omega) ?_ | (intro hr; have hc := hr; (try simp only [zdz] at hc); simp -implicitDefEqProofs (disch := omega) only [hr, go_sem, simprocAttr]; (try clear hr))))
   all_goals (refine aE ?_ rfl; congr 1; simp only [bytesLess_eq, decide_eq_true_eq, decide_eq_false_iff_not, cZ] at *; first | exact aMo (by assumption) | exact aMp (by assumption) (by assumption) | exact aAf (by assumption))
def orI : List Int → Int
 | [] => 0
 | a :: l => if a = 0 then orI l else a
theorem P4 {l : List Int} {k : Nat} (hz : ∀ j, j < k → l.getD j 0 = 0) : orI l = orI (l.drop k) := by
 induction k generalizing l with
 | zero => rfl
 | succ k ih =>
   cases l with
   | nil => simp [orI]
   | cons a l =>
     have h0 : a = 0 := hz 0 (by omega)
     rw [fF, ← ih (fun j hj => by have := hz (j + 1) (by omega); simpa using this), orI, if_pos h0]
theorem aVv (l : List Int) (hl : l.length ≤ 17592186044416): CT 202 [avi l] (.i .i64 (orI l)) := by
 refine bI mixed Tryz.func202 g0 ?_
 · simp -implicitDefEqProofs (disch := omega) only [Tryz.f202, go_sem, List.replicate, simprocAttr, avi]
   refine bT (fun (k : Nat) => [.k, .k, .j, .k, .k, .j, .k, .k, .v (.i .i64 k), .j, .j, .j, .j, .j, .j, .j, .j, .k]) (fun k => []) (fun k => k ≤ l.length ∧ ∀ j, j < k → l.getD j 0 = 0) (fun k => l.length - k) (0) ⟨aG _, fun j h => by omega⟩ rfl (by simp [eQ]) ?_
   rintro k j ⟨hk, ha⟩
   simp -implicitDefEqProofs (disch := omega) only [go_sem, simprocAttr]
   (repeat' (first | refine gT ?_ ?_ | refine gF ?_ ?_ | refine gC ?_ ?_ | refine aZ (by omega) ?_ | (intro hr; have hc := hr; (try simp only [zdz] at hc); simp -implicitDefEqProofs (disch := omega) only [hr, go_sem, simprocAttr]; (try clear hr))))
   · refine aE ?_ rfl
     have hlt : k < l.length := by omega
     rw [P4 ha, bB hlt, orI, if_neg (by simpa [List.getD, hlt] using hc)]
     simp [List.getD, hlt]
   · exact ⟨k + 1, ⟨by omega, bE ha (by simpa using hc)⟩, by omega, by simp⟩
   · refine aE ?_ rfl
     rw [P4 ha, aQ (by omega)]; rfl
theorem P8 {s : Str} (h : dM s = true) : 0 < s.length := by
 cases s with
 | nil => revert h; decide
 | cons a l => simp
def aWw : Str := [116, 114, 117, 101]
def aLo : Str := [102, 97, 108, 115, 101]
def aUz (s : Str) : Bool := dM s && decide (97 ≤ ((s.getD 0 0).toNat : Int)) && decide (((s.getD 0 0).toNat : Int) ≤ 122) && !decide (s = aWw) && !decide (s = aLo)
theorem bHf (s : Str) (hs : s.length ≤ 140737488355328): CT 235 [.s s] (.b (aUz s)) := by
 refine aF mixed Tryz.func235 g0 ?_
 · skip
   have c := H9 s hs
   cases h : dM s with
   | false =>
     rw [h] at c
     (repeat' (first | refine gT ?_ ?_ | refine gF ?_ ?_ | refine gC ?_ ?_ | ((refine aX (c) ?_ ?_; (focus (simp -implicitDefEqProofs (disch := omega) only [zdB, go_sem, simprocAttr]; done))); simp -implicitDefEqProofs (disch := omega) only [go_sem, simprocAttr]) | refine aZ (by omega) ?_ | (intro hr; have hc := hr; (try simp only [zdz] at hc); simp -implicitDefEqProofs (disch := omega) only [hr, go_sem, simprocAttr]; (try clear hr))))
     all_goals exact aE (by simp [aUz, h]) rfl
   | true =>
     rw [h] at c
     have hpos := P8 h
     (repeat' (first | refine gT ?_ ?_ | refine gF ?_ ?_ | refine gC ?_ ?_ | ((refine aX (c) ?_ ?_; (focus (simp -implicitDefEqProofs (disch := omega) only [zdB, go_sem, simprocAttr]; done))); simp -implicitDefEqProofs (disch := omega) only [go_sem, simprocAttr]) | refine aZ (by omega) ?_ | (intro hr; have hc := hr; (try simp only [zdz] at hc); simp -implicitDefEqProofs (disch := omega) only [hr, go_sem, simprocAttr]; (try clear hr))))
     all_goals refine aE ?_ rfl
     all_goals (simp_all [aUz, aWw, aLo, decide_not] <;> (first | omega | (intros; omega) | exact decide_eq_decide.2 Iff.rfl))
theorem bHd (s : Str) (hs : s.length ≤ 140737488355328): CT 260 [.s s] (.b (aUz s)) := by
 refine aF mixed Tryz.func260 g0 ?_
 · skip
   have c := S8 s hs
   cases h : dM s with
   | false =>
     rw [h] at c
     (repeat' (first | refine gT ?_ ?_ | refine gF ?_ ?_ | refine gC ?_ ?_ | ((refine aX (c) ?_ ?_; (focus (simp -implicitDefEqProofs (disch := omega) only [zdB, go_sem, simprocAttr]; done))); simp -implicitDefEqProofs (disch := omega) only [go_sem, simprocAttr]) | refine aZ (by omega) ?_ | (intro hr; have hc := hr; (try simp only [zdz] at hc); simp -implicitDefEqProofs (disch := omega) only [hr, go_sem, simprocAttr]; (try clear hr))))
     all_goals exact aE (by simp [aUz, h]) rfl
   | true =>
     rw [h] at c
     have hpos := P8 h
     (repeat' (first | refine gT ?_ ?_ | refine gF ?_ ?_ | refine gC ?_ ?_ | ((refine aX (c) ?_ ?_; (focus (simp -implicitDefEqProofs (disch := omega) only [zdB, go_sem, simprocAttr]; done))); simp -implicitDefEqProofs (disch := omega) only [go_sem, simprocAttr]) | refine aZ (by omega) ?_ | (intro hr; have hc := hr; (try simp only [zdz] at hc); simp -implicitDefEqProofs (disch := omega) only [hr, go_sem, simprocAttr]; (try clear hr))))
     all_goals refine aE ?_ rfl
     all_goals (simp_all [aUz, aWw, aLo, decide_not] <;> (first | omega | (intros; omega) | exact decide_eq_decide.2 Iff.rfl))
end Go.Proofs.YtifefbhllfdmlaaGreatDoor
namespace Go.Proofs.YtifefbhllfdmlaaGreatDoor
open Go Go.Vo
open Nat (reduceAdd reduceSub reduceMul reduceLeDiff reduceLT reduceEqDiff)
open Int (reduceNeg)

theorem aHi {k : IntKind} {n : Int} (h : (Lit.int k n).wf = true) : k.min ≤ n ∧ n ≤ k.max := by simpa [Lit.wf] using h
section
variable {H : Type} {enc : TypeId × Value → H} {X : Ctx} {w : World} {h : List AObj} {sp : Nat → Bool} {hd : Bool}
theorem aPo {α : Type} {t : TypeId} {e : α → List AV} {Q : α → Prop} : RdN 0 enc Tryz.prog X w h sp hd t e Q := by
 intro fuel hf cs x hx
 obtain rfl : fuel = 0 := by omega
 simp [DataW.trod] at hx
theorem aFk (hF : ∀ b, b < w.heap.size → X.F b) {m : Nat} (r : RdN m enc Tryz.prog X w h sp hd 30 aD OkT) : RdN (m + 1) enc Tryz.prog X w h sp hd 28 (fun l : List LTerm => [avt l]) (fun l => (∀ t ∈ l, OkT t) ∧ l.length * 96 ≤ 140737488355328) :=
 (xC hF Tryz.underlying28 (sz := 6) (by_ := 96) (by kernel_rfl) (by kernel_rfl) (by decide) E3 r).map id (fun l hq => ⟨hq, rfl⟩)
theorem aXs (hF : ∀ b, b < w.heap.size → X.F b) : ∀ m, RdN m enc Tryz.prog X w h sp hd 30 aD OkT := by
 intro m
 induction m using Nat.strongRecOn with
 | ind m ih =>
   cases m with
   | zero => exact aPo
   | succ m =>
     have rk : RdN m enc Tryz.prog X w h sp hd 28 (fun l : List LTerm => [avt l]) (fun l => (∀ t ∈ l, OkT t) ∧ l.length * 96 ≤ 140737488355328) := by
       cases m with
       | zero => exact aPo
       | succ m => exact aFk hF (ih m (by omega))
     refine (A5 Tryz.underlying30 (N := 6) (by kernel_rfl) (iQ rfl (sz := 1) (by kernel_rfl) rfl (by decide) (sL Tryz.underlying27).n (iQ rfl (sz := 1) (by kernel_rfl) rfl (by decide) (sL Tryz.underlying3).n (iQ rfl (sz := 1) (by kernel_rfl) rfl (by decide) O4.n (iQ rfl (sz := 1) (by kernel_rfl) rfl (by decide) O4.n
       (iQ rfl (sz := 1) (by kernel_rfl) rfl (by decide) rk (iQ rfl (sz := 1) (by kernel_rfl) rfl (by decide) rk (aBs (by decide))))))))).map (fun p => LTerm.mk p.1 p.2.1 p.2.2.1 p.2.2.2.1 p.2.2.2.2.1 p.2.2.2.2.2.1) (fun p hq => ⟨?_, ?_⟩)
     · obtain ⟨q1, q2, q3, q4, ⟨q5, q5b⟩, ⟨q6, q6b⟩, _⟩ := hq
       have q2' : -9223372036854775808 ≤ p.2.1 ∧ p.2.1 ≤ 9223372036854775807 := by
         have q := aHi q2
         have e1 : IntKind.min .i64 = -9223372036854775808 := by decide +kernel
         have e2 : IntKind.max .i64 = 9223372036854775807 := by decide +kernel
         rw [e1, e2] at q
         exact q
       exact .mk q3 q4 q2'.1 q2'.2 (by simp only [LTerm.kids]; omega) (by simp only [LTerm.rest]; omega) q5 q6
     · rw [bC]; rfl
theorem aUk (hF : ∀ b, b < w.heap.size → X.F b) : Rd enc Tryz.prog X w h sp hd 30 aD OkT := .of (aXs hF)
end
theorem Y5 {W : World} {qR : Nat} {v : Value} (h : Value.okWide Tryz.prog W .any qR 30 v) : ∃ cs, v = .agg cs := by
 unfold Value.okWide at h
 rw [Tryz.underlying30] at h
 obtain ⟨cs, rfl, _⟩ := h
 exact ⟨cs, rfl⟩
theorem aOt {H : Type} {enc : TypeId × Value → H} {W : World} {qR : Nat} {v : Value} {d : DataW H} {p : List MemPlace} (hval : Value.okWide Tryz.prog W .any qR 30 v) (h0 : DataW.Trod enc Tryz.prog W 0 (fun _ => true) true 30 v d p) (hw : ∀ n ∈ d.weights Tryz.prog 30, n ≤ reachBytes) :
   ∃ t, OkT t ∧ RV (.none fun b => b < W.heap.size) W [] (elT t) v := aAs (Y5 hval) h0 hw (aUk (fun _ h => h))
theorem bDj {H : Type} {enc : TypeId × Value → H} {X : Ctx} {w : World} {h : List AObj} {sp : Nat → Bool} {hd : Bool} (hF : ∀ b, b < w.heap.size → X.F b) : Rd enc Tryz.prog X w h sp hd 32 (fun l : List Int => [avi l]) (fun l => l.length ≤ 140737488355328 ∧ ∀ i ∈ l, -9223372036854775808 ≤ i ∧ i ≤ 9223372036854775807) :=
 (oA hF Tryz.underlying32 (sz := 1) (by_ := 8) (by kernel_rfl) (by kernel_rfl) (by decide) (fun _ => rfl) (sL Tryz.underlying3)).map id (fun l hq => ⟨⟨dU (Nat.le_mul_of_pos_right _ (by decide)) hq.2, fun i hi => by
   have q := aHi (hq.1 i hi)
   have e1 : IntKind.min .i64 = -9223372036854775808 := by decide +kernel
   have e2 : IntKind.max .i64 = 9223372036854775807 := by decide +kernel
   rw [e1, e2] at q
   exact q⟩, by rw [avi, ← H2]; rfl⟩)
end Go.Proofs.YtifefbhllfdmlaaGreatDoor
namespace Go.Proofs.YtifefbhllfdmlaaGreatDoor
open Go Go.Vo
open Nat (reduceAdd reduceSub reduceMul reduceLeDiff reduceLT reduceEqDiff)
open Int (reduceNeg)

theorem yF {n : Nat} : ((n : Int) = 0) ↔ n = 0 := by omega
theorem yG {n : Nat} : ((n : Int) = 1) ↔ n = 1 := by omega
theorem oL {n : Nat} : ((n : Int) ≤ 8) ↔ n ≤ 8 := by omega
def oS (c : UInt8) : Bool := decide (32 ≤ (c.toNat : Int)) && decide ((c.toNat : Int) ≤ 126) && decide ((c.toNat : Int) ≠ 34) && decide ((c.toNat : Int) ≠ 92)
def uX (s : Str) : Bool := s.all oS && decide (s.length ≤ 200)
theorem aRk {α : Type} {l : List α} {k : Nat} {d : α} (h : k < l.length) : l[k]? = some (l.getD k d) := by simp [List.getD, h]
theorem aZo {α : Type} {l : List α} {k : Nat} {d x : α} (h : l[k]? = some x) : l.getD k d = x := by simp [List.getD, h]
theorem W2 {s : Str} {k : Nat} {c : UInt8} (h : s[k]? = some c) (hc : oS c = false) : uX s = false := by
 have : s.all oS = false := by
   rw [pX]
   exact ⟨c, cA h, by simp [hc]⟩
 simp [uX, this]
theorem aBe {s : Str} (h : ∀ j, j < s.length → oS (s.getD j 0) = true) : uX s = decide (s.length ≤ 200) := by
 have : s.all oS = true := iT (d := 0) h
 simp [uX, this]
theorem bHe (s : Str) (hs : s.length ≤ 140737488355328): CT 259 [.s s] (.b (uX s)) := by
 refine aF mixed Tryz.func259 g0 ?_
 · skip
   refine bT (fun (k : Nat) => [.k, .k, .j, .j, .k, .k, .v (.i .i64 k), .j, .j, .j, .j, .j, .j, .j, .j, .j, .j, .j, .j, .j, .j, .j, .j, .j, .j, .j, .j, .j, .j, .j, .j, .j, .k, .k, .k]) (fun k => []) (fun k => k ≤ s.length ∧ ∀ j, j < k → oS (s.getD j 0) = true) (fun k => s.length - k) (0) ⟨aG _, fun j h => by omega⟩ rfl (by simp [eQ]) ?_
   rintro k j ⟨hk, ha⟩
   refine zg ?_
   (refine zs0 ?_; repeat' first | exact trivial | refine zJ ?_ ?_ | refine zH fun hc => ?_)
   all_goals first
     | (refine aE ?_ rfl; rw [W2 (k := k) (aRk (d := 0) (by omega)) (by simp only [oS, gI, decide_eq_false_iff_not, ne_eq]; omega)]; done)
     | exact ⟨k + 1, ⟨by omega, bE ha (by simp only [oS, aB, decide_eq_true_eq, ne_eq]; omega)⟩, by omega, by simp⟩
     | (refine aE ?_ rfl; rw [aBe (fun j hj => ha j (by omega))]; exact congrArg AV.b (decide_eq_decide.2 (by omega)))
theorem bHn (s : Str) (hs : s.length ≤ 140737488355328): CT 234 [.s s] (.b (uX s)) := by
 refine aF mixed Tryz.func234 g0 ?_
 · skip
   refine bT (fun (k : Nat) => [.k, .k, .j, .k, .j, .k, .k, .j, .j, .j, .j, .j, .j, .j, .j, .j, .j, .j, .j, .j, .j, .j, .j, .j, .k, .k, .k]) (fun k => [.sit s k]) (fun k => k ≤ s.length ∧ ∀ j, j < k → oS (s.getD j 0) = true) (fun k => s.length - k) (0) ⟨aG _, fun j h => by omega⟩ rfl (by simp [eQ]) ?_
   rintro k j ⟨hk, ha⟩
   refine zg ?_
   refine Y7 rfl ?_ ?_ ?_
   · intro hle
     refine zg ?_
     refine aE ?_ rfl
     rw [aBe (fun j hj => ha j (by omega))]
     exact congrArg AV.b (decide_eq_decide.2 (by omega))
   · intro c hc hlt
     have hcg := aZo (d := 0) hc
     have hk2 := aM hc
     have hc0 := hc
     refine zg ?_
     (refine zs0 ?_; repeat' first | exact trivial | refine zJ ?_ ?_ | refine zH fun hc => ?_)
     all_goals first
       | (refine aE ?_ rfl; rw [W2 hc0 (by simp only [oS, gI, decide_eq_false_iff_not, ne_eq]; omega)]; done)
       | exact ⟨k + 1, ⟨by omega, bE ha (by rw [hcg]; simp only [oS, aB, decide_eq_true_eq, ne_eq]; omega)⟩, by omega, by simp⟩
   · intro c rn m hc h1 h2 h3 h4
     have hc0 := hc
     refine zg ?_
     (refine zs0 ?_; repeat' first | exact trivial | refine zJ ?_ ?_ | refine zH fun hc => ?_)
     all_goals first
       | (exfalso; omega)
       | (refine aE ?_ rfl; rw [W2 hc0 (by simp only [oS, gI, decide_eq_false_iff_not, ne_eq]; omega)]; done)
def fJ (t : LTerm) (n te so ki re : Bool) : Bool := (n || decide (t.n = 0)) && (te || decide (t.text = [])) && (so || decide (t.sort = [])) && (ki || decide (t.kids = [])) && (re || decide (t.rest = []))
theorem bAq (t : LTerm): CT 258 [elT t, .b true, .b false, .b false, .b false, .b false] (.b (fJ t true false false false false)) := by
 refine aF mixed Tryz.func258 g0 ?_
 · skip
   (refine zs0 ?_; repeat' first | exact trivial | refine zJ ?_ ?_ | refine zH fun hc => ?_)
   all_goals (refine aE ?_ rfl; simp_all [fJ])
theorem bAp (t : LTerm): CT 258 [elT t, .b false, .b true, .b false, .b false, .b false] (.b (fJ t false true false false false)) := by
 refine aF mixed Tryz.func258 g0 ?_
 · skip
   (refine zs0 ?_; repeat' first | exact trivial | refine zJ ?_ ?_ | refine zH fun hc => ?_)
   all_goals (refine aE ?_ rfl; simp_all [fJ])
theorem bAo (t : LTerm): CT 258 [elT t, .b false, .b true, .b false, .b true, .b false] (.b (fJ t false true false true false)) := by
 refine aF mixed Tryz.func258 g0 ?_
 · skip
   (refine zs0 ?_; repeat' first | exact trivial | refine zJ ?_ ?_ | refine zH fun hc => ?_)
   all_goals (refine aE ?_ rfl; simp_all [fJ])
theorem aMa (t : LTerm): CT 258 [elT t, .b false, .b true, .b true, .b false, .b false] (.b (fJ t false true true false false)) := by
 refine aF mixed Tryz.func258 g0 ?_
 · skip
   (refine zs0 ?_; repeat' first | exact trivial | refine zJ ?_ ?_ | refine zH fun hc => ?_)
   all_goals (refine aE ?_ rfl; simp_all [fJ])
theorem bAn (t : LTerm): CT 258 [elT t, .b false, .b false, .b false, .b true, .b true] (.b (fJ t false false false true true)) := by
 refine aF mixed Tryz.func258 g0 ?_
 · skip
   (refine zs0 ?_; repeat' first | exact trivial | refine zJ ?_ ?_ | refine zH fun hc => ?_)
   all_goals (refine aE ?_ rfl; simp_all [fJ])
def rM (t : LTerm) (so : Str) : Bool := decide (t.rest.length = 0) || (decide (t.rest.length = 1) && decide ((t.rest.getD 0 default).kind = 6) && dM (t.rest.getD 0 default).text && decide ((t.rest.getD 0 default).sort = so) && fJ (t.rest.getD 0 default) false true true false false)
theorem aVn (t : LTerm) (so : Str) (ht : OkT t): CT 261 [elT t, .s so] (.b (rM t so)) := by
 refine aF mixed Tryz.func261 g0 ?_
 · skip
   have h1 : 0 < t.rest.length → OkT (t.rest.getD 0 default) := fun h => ht.rst _ (aV h)
   (repeat' (first | refine gT ?_ ?_ | refine gF ?_ ?_ | refine gC ?_ ?_ | ((first | refine cF (S8 (t.rest.getD 0 default).text (h1 (by omega)).text) ?_ | refine cF (aMa (t.rest.getD 0 default)) ?_); simp -implicitDefEqProofs (disch := omega) only [go_sem, simprocAttr]) | refine aZ (by omega) ?_ | (intro hr; have hc := hr; (try simp only [zdz] at hc); simp -implicitDefEqProofs (disch := omega) only [hr, go_sem, simprocAttr]; (try clear hr))))
   all_goals simp only [yF, yG] at *
   all_goals (refine aE ?_ rfl; simp_all only [rM, decide_true, decide_false, cQ, cZ, Bool.true_and, Bool.false_and, Bool.and_false, Bool.and_true, Nat.one_ne_zero])
end Go.Proofs.YtifefbhllfdmlaaGreatDoor
namespace Go.Proofs.YtifefbhllfdmlaaGreatDoor
open Go Go.Vo
open Nat (reduceAdd reduceSub reduceMul reduceLeDiff reduceLT reduceEqDiff)
open Int (reduceNeg)

def B3 (s : Str) : Bool := dM (qR s)
theorem aVr (s : Str) (hs : s.length ≤ 140737488355328): CT 155 [.s s] (.b (B3 s)) := by
 refine aF mixed Tryz.func155 g0 ?_
 · skip
   (repeat' (first | refine gT ?_ ?_ | refine gF ?_ ?_ | refine gC ?_ ?_ | (refine cF (aWb s hs) ?_; simp -implicitDefEqProofs (disch := omega) only [go_sem, simprocAttr]) | (refine aGl (H9 _ (dU (I7 s) hs)) ?_; simp -implicitDefEqProofs (disch := omega) only [go_sem, simprocAttr]) | refine aZ (by omega) ?_ | (intro hr; have hc := hr; (try simp only [zdz] at hc); simp -implicitDefEqProofs (disch := omega) only [hr, go_sem, simprocAttr]; (try clear hr))))
   refine aE ?_ (by rfl); rfl
theorem oK {n : Nat} : ((n : Int).tmod 2 = 0) ↔ n % 2 = 0 := by
 rw [Int.tmod_eq_emod_of_nonneg (Int.natCast_nonneg n)]; omega
def F9 (s : Str) : Bool := decide (s = [95]) || decide (s = [36])
abbrev qP : Str := [76, 105, 115, 116]
abbrev zC : Str := [77, 97, 112]
abbrev aHd : Str := [65, 110, 121]
def dD (t : LTerm) : Bool :=
 if t.kind = 1 then lP t.n && fJ t true false false false false
 else if t.kind = 2 then (decide (t.n = 0) || decide (t.n = 1)) && fJ t true false false false false
 else if t.kind = 3 then uX t.text && fJ t false true false false false
 else if t.kind = 4 then aUz t.text && fJ t false true false false false
 else if t.kind = 5 then B3 t.text && decide (t.kids.length ≤ 8) && fJ t false true false true false
 else if t.kind = 6 then (if F9 t.text = true then decide (t.sort = aHd) && fJ t false true true false false else dM t.text && dM t.sort && fJ t false true true false false)
 else if t.kind = 7 then rM t qP && fJ t false false false true true
 else if t.kind = 8 then rM t zC && decide (t.kids.length % 2 = 0) && fJ t false false false true true
 else false
theorem nJ (t : LTerm) (h : dD t = true) : t.rest.length ≤ 1 := by
 have z : ∀ {a b c d}, fJ t a b c d false = true → t.rest.length ≤ 1 := by
   intro a b c d h
   simp only [fJ, aB, bO, decide_eq_true_eq, aP, false_or] at h
   rw [h.2]; simp
 have r : ∀ {s}, rM t s = true → t.rest.length ≤ 1 := by
   intro s h
   simp only [rM, aB, bO, decide_eq_true_eq] at h
   omega
 unfold dD at h
 repeat' split at h
 all_goals try simp only [aB] at h
 all_goals first | exact z h.2 | exact r h.1 | exact r h.1.1 | cases h
theorem bHg (t : LTerm) (ht : OkT t): CT 240 [elT t] (.b (dD t)) := by
 refine aF mixed Tryz.func240 g0 ?_
 · skip
   (repeat' (first | refine gT ?_ ?_ | refine gF ?_ ?_ | refine gC ?_ ?_ | ((first | refine cF (bHe t.text ht.text) ?_ | refine cF (bHd t.text ht.text) ?_ | refine cF (aMl t.text ht.text) ?_ | (refine aX (S8 t.text ht.text) ?_ ?_; (focus (simp -implicitDefEqProofs (disch := omega) only [zdB, go_sem, simprocAttr]; done))) | (refine aX (S8 t.sort ht.sort) ?_ ?_; (focus (simp -implicitDefEqProofs (disch := omega) only [zdB, go_sem, simprocAttr]; done))) | (refine aX (aVn t qP ht) ?_ ?_; (focus (simp -implicitDefEqProofs (disch := omega) only [zdB, go_sem, simprocAttr]; done))) | (refine aX (aVn t zC ht) ?_ ?_; (focus (simp -implicitDefEqProofs (disch := omega) only [zdB, go_sem, simprocAttr]; done))) | (refine aX (bAq t) ?_ ?_; (focus (simp -implicitDefEqProofs (disch := omega) only [zdB, go_sem, simprocAttr]; done))) | (refine aX (bAp t) ?_ ?_; (focus (simp -implicitDefEqProofs (disch := omega) only [zdB, go_sem, simprocAttr]; done))) | (refine aX (bAo t) ?_ ?_; (focus (simp -implicitDefEqProofs (disch := omega) only [zdB, go_sem, simprocAttr]; done))) | (refine aX (aMa t) ?_ ?_; (focus (simp -implicitDefEqProofs (disch := omega) only [zdB, go_sem, simprocAttr]; done))) | (refine aX (bAn t) ?_ ?_; (focus (simp -implicitDefEqProofs (disch := omega) only [zdB, go_sem, simprocAttr]; done)))); simp -implicitDefEqProofs (disch := omega) only [go_sem, simprocAttr]) | refine aZ (by omega) ?_ | (intro hr; have hc := hr; (try simp only [zdz] at hc); simp -implicitDefEqProofs (disch := omega) only [hr, go_sem, simprocAttr]; (try clear hr))))
   all_goals try simp only [yF, yG, oL, oK] at *
   all_goals refine aE ?_ rfl
   all_goals (simp_all [dD, lP, F9, B3] <;> (intros; omega))
end Go.Proofs.YtifefbhllfdmlaaGreatDoor

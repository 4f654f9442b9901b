/-
  What functions of the chapter return, as plain functions of what they are given; no condition beyond those that each theorem names.
-/
import Derived.Test.YtifefbhllfdmlaaGreatDoorTeP61
import Derived.Test.YtifefbhllfdmlaaGreatDoorSoP62
import Derived.Sort.Walk0
set_option maxRecDepth 100000
set_option linter.unusedSimpArgs false
set_option linter.unusedVariables false
set_option maxHeartbeats 4000000
namespace Go.Proofs.YtifefbhllfdmlaaGreatDoor
open Go Go.Vo
open Nat (reduceAdd reduceSub reduceMul reduceLeDiff reduceLT reduceEqDiff)
open Int (reduceNeg)

inductive OkT : LTerm → Prop
 | mk {t : LTerm} : t.text.length ≤ 140737488355328 → t.sort.length ≤ 140737488355328 → -9223372036854775808 ≤ t.n → t.n ≤ 9223372036854775807 → t.kids.length ≤ 1466015503701 → t.rest.length ≤ 1466015503701 → (∀ k ∈ t.kids, OkT k) → (∀ k ∈ t.rest, OkT k) → OkT t
section
variable {t : LTerm} (h : OkT t)
include h
theorem OkT.text : t.text.length ≤ 140737488355328 := by cases h; assumption
theorem OkT.sort : t.sort.length ≤ 140737488355328 := by cases h; assumption
theorem OkT.kids : t.kids.length ≤ 1466015503701 := by cases h; assumption
theorem OkT.rest : t.rest.length ≤ 1466015503701 := by cases h; assumption
theorem OkT.kid : ∀ k ∈ t.kids, OkT k := by cases h; assumption
theorem OkT.rst : ∀ k ∈ t.rest, OkT k := by cases h; assumption
end
abbrev tZ : LTerm := .mk 0 0 [] [] [] []
def elT (t : LTerm) : AV := .agg (aC t)
def bCi (t : LTerm) (e : Int) : AV := .tup [.agg (aC t), .i .i64 e]
section
variable (k n : Int) (t s : Str) (ks rs : List LTerm)
theorem aZr : (LTerm.mk k n t s ks rs).kind = k := rfl
theorem bRi : (LTerm.mk k n t s ks rs).n = n := rfl
theorem aXk : (LTerm.mk k n t s ks rs).text = t := rfl
theorem aXs : (LTerm.mk k n t s ks rs).sort = s := rfl
theorem aZs : (LTerm.mk k n t s ks rs).kids = ks := rfl
theorem aYa : (LTerm.mk k n t s ks rs).rest = rs := rfl
end
theorem bLz : ((2 : Int) = 0) = False := by decide
attribute [go_sem] bLz ite_self elT bCi aZr bRi aXk aXs aZs aYa
theorem zdB : (∀ l, avs l = .sl (l.map .s) l.length) ∧ (∀ l, avb l = .sl (l.flatMap bW) l.length) ∧ (∀ l, avi l = .sl (l.map (.i .i64)) l.length) ∧ (∀ l, avo l = .sl (l.flatMap bI) l.length) ∧ (∀ s, aN s = [avs s.sorts, avb s.below, avo s.ops, avo s.funs, avs s.values]) ∧ (∀ o, bI o = [.s o.name, avs o.args, .s o.sort, avb o.pieces, .i .i64 o.prec, .i .i64 o.assoc, avi o.strict]) ∧ (∀ b, bW b = [.s b.1, .s b.2]) ∧ (∀ t, elT t = .agg (aC t)) ∧ (∀ l, avt l = .sl (l.flatMap aC) l.length) ∧ (∀ t, aC t = [.i .i64 t.kind, .i .i64 t.n, .s t.text, .s t.sort, avt t.kids, avt t.rest]) := ⟨fun _ => rfl, fun _ => rfl, fun _ => rfl, fun _ => rfl, fun _ => rfl, fun _ => rfl, fun _ => rfl, fun _ => rfl, fun _ => rfl, bA⟩
theorem cF {P : Program} {G : eX} {dr : Option DR} {d : Option Nat} {os : List fN} {K : List AV → List AObj → Prop} {env : List AV} {h : List AObj} {f : FuncId} {A A' : List AV} {r : AV} (s : Ctr P G f A' r)
 (k : dA P G dr os K (fW env d (mat r (fH r h A)).1) (mat r (fH r h A)).2) (hA : A.map (gG dep h) = A' := by (simp -implicitDefEqProofs (disch := omega) only [zdB, go_sem, ↓reduceIte, reduceAdd, reduceSub, reduceMul, reduceLeDiff, reduceLT, reduceEqDiff, reduceNeg, Nat.reduceBEq]; done)) : tV P G dr f A d os K env h := aW s hA k
theorem zt1 {K1 : Prop} {p q : Prop} (k1 : K1) (h : q) (e : K1 → Cv q p := by
   intro k1
   repeat' first | with_reducible apply vT | with_reducible apply vF | with_reducible apply vC | ((first | ((with_reducible apply vE); (focus exact k1); (focus (simp -implicitDefEqProofs (disch := omega) only [zdB, go_sem, simprocAttr]; done))) | ((with_reducible apply vE); (focus (apply k1 <;> omega)); (focus (simp -implicitDefEqProofs (disch := omega) only [zdB, go_sem, simprocAttr]; done))) | ((with_reducible apply vR); focus exact k1 ..)); simp -implicitDefEqProofs (disch := omega) only [go_sem, simprocAttr]) | ((with_reducible apply vA); focus omega) | ((with_reducible apply vI); (focus (intro hr; (try simp only [zdz] at hr); exact hr)); intro hr; have hc := hr; (try simp only [zdz] at hc); simp -implicitDefEqProofs (disch := omega) only [hr, go_sem, simprocAttr]; (try clear hr))
   any_goals exact vS) : p := (e k1).1 h
theorem zy1 {K1 : Prop} {x : Prop} {p q : Prop} (X : x) (k1 : K1) (h : q) (e : x → K1 → Cv q p := by
   intro X k1
   repeat' first | with_reducible apply vT | with_reducible apply vF | with_reducible apply vC | ((first | ((with_reducible apply vE); (focus exact k1); (focus (simp -implicitDefEqProofs (disch := omega) only [X, zdB, go_sem, simprocAttr]; done))) | ((with_reducible apply vE); (focus (apply k1 <;> omega)); (focus (simp -implicitDefEqProofs (disch := omega) only [X, zdB, go_sem, simprocAttr]; done))) | ((with_reducible apply vR); focus exact k1 ..)); simp -implicitDefEqProofs (disch := omega) only [X, go_sem, simprocAttr]) | ((with_reducible apply vA); focus omega) | ((with_reducible apply vI); (focus (intro hr; (try simp only [zdz] at hr); exact hr)); intro hr; have hc := hr; (try simp only [zdz] at hc); simp -implicitDefEqProofs (disch := omega) only [hr, X, go_sem, simprocAttr]; (try clear hr))
   any_goals exact vS) : p := (e X k1).1 h
theorem zt2 {K1 : Prop} {K2 : Prop} {p q : Prop} (k1 : K1) (k2 : K2) (h : q) (e : K1 → K2 → Cv q p := by
   intro k1 k2
   repeat' first | with_reducible apply vT | with_reducible apply vF | with_reducible apply vC | ((first | ((with_reducible apply vE); (focus exact k1); (focus (simp -implicitDefEqProofs (disch := omega) only [zdB, go_sem, simprocAttr]; done))) | ((with_reducible apply vE); (focus (apply k1 <;> omega)); (focus (simp -implicitDefEqProofs (disch := omega) only [zdB, go_sem, simprocAttr]; done))) | ((with_reducible apply vR); focus exact k1 ..) | ((with_reducible apply vE); (focus exact k2); (focus (simp -implicitDefEqProofs (disch := omega) only [zdB, go_sem, simprocAttr]; done))) | ((with_reducible apply vE); (focus (apply k2 <;> omega)); (focus (simp -implicitDefEqProofs (disch := omega) only [zdB, go_sem, simprocAttr]; done))) | ((with_reducible apply vR); focus exact k2 ..)); simp -implicitDefEqProofs (disch := omega) only [go_sem, simprocAttr]) | ((with_reducible apply vA); focus omega) | ((with_reducible apply vI); (focus (intro hr; (try simp only [zdz] at hr); exact hr)); intro hr; have hc := hr; (try simp only [zdz] at hc); simp -implicitDefEqProofs (disch := omega) only [hr, go_sem, simprocAttr]; (try clear hr))
   any_goals exact vS) : p := (e k1 k2).1 h
theorem zy2 {K1 : Prop} {K2 : Prop} {x : Prop} {p q : Prop} (X : x) (k1 : K1) (k2 : K2) (h : q) (e : x → K1 → K2 → Cv q p := by
   intro X k1 k2
   repeat' first | with_reducible apply vT | with_reducible apply vF | with_reducible apply vC | ((first | ((with_reducible apply vE); (focus exact k1); (focus (simp -implicitDefEqProofs (disch := omega) only [X, zdB, go_sem, simprocAttr]; done))) | ((with_reducible apply vE); (focus (apply k1 <;> omega)); (focus (simp -implicitDefEqProofs (disch := omega) only [X, zdB, go_sem, simprocAttr]; done))) | ((with_reducible apply vR); focus exact k1 ..) | ((with_reducible apply vE); (focus exact k2); (focus (simp -implicitDefEqProofs (disch := omega) only [X, zdB, go_sem, simprocAttr]; done))) | ((with_reducible apply vE); (focus (apply k2 <;> omega)); (focus (simp -implicitDefEqProofs (disch := omega) only [X, zdB, go_sem, simprocAttr]; done))) | ((with_reducible apply vR); focus exact k2 ..)); simp -implicitDefEqProofs (disch := omega) only [X, go_sem, simprocAttr]) | ((with_reducible apply vA); focus omega) | ((with_reducible apply vI); (focus (intro hr; (try simp only [zdz] at hr); exact hr)); intro hr; have hc := hr; (try simp only [zdz] at hc); simp -implicitDefEqProofs (disch := omega) only [hr, X, go_sem, simprocAttr]; (try clear hr))
   any_goals exact vS) : p := (e X k1 k2).1 h
theorem zt3 {K1 : Prop} {K2 : Prop} {K3 : Prop} {p q : Prop} (k1 : K1) (k2 : K2) (k3 : K3) (h : q) (e : K1 → K2 → K3 → Cv q p := by
   intro k1 k2 k3
   repeat' first | with_reducible apply vT | with_reducible apply vF | with_reducible apply vC | ((first | ((with_reducible apply vE); (focus exact k1); (focus (simp -implicitDefEqProofs (disch := omega) only [zdB, go_sem, simprocAttr]; done))) | ((with_reducible apply vE); (focus (apply k1 <;> omega)); (focus (simp -implicitDefEqProofs (disch := omega) only [zdB, go_sem, simprocAttr]; done))) | ((with_reducible apply vR); focus exact k1 ..) | ((with_reducible apply vE); (focus exact k2); (focus (simp -implicitDefEqProofs (disch := omega) only [zdB, go_sem, simprocAttr]; done))) | ((with_reducible apply vE); (focus (apply k2 <;> omega)); (focus (simp -implicitDefEqProofs (disch := omega) only [zdB, go_sem, simprocAttr]; done))) | ((with_reducible apply vR); focus exact k2 ..) | ((with_reducible apply vE); (focus exact k3); (focus (simp -implicitDefEqProofs (disch := omega) only [zdB, go_sem, simprocAttr]; done))) | ((with_reducible apply vE); (focus (apply k3 <;> omega)); (focus (simp -implicitDefEqProofs (disch := omega) only [zdB, go_sem, simprocAttr]; done))) | ((with_reducible apply vR); focus exact k3 ..)); simp -implicitDefEqProofs (disch := omega) only [go_sem, simprocAttr]) | ((with_reducible apply vA); focus omega) | ((with_reducible apply vI); (focus (intro hr; (try simp only [zdz] at hr); exact hr)); intro hr; have hc := hr; (try simp only [zdz] at hc); simp -implicitDefEqProofs (disch := omega) only [hr, go_sem, simprocAttr]; (try clear hr))
   any_goals exact vS) : p := (e k1 k2 k3).1 h
theorem zy3 {K1 : Prop} {K2 : Prop} {K3 : Prop} {x : Prop} {p q : Prop} (X : x) (k1 : K1) (k2 : K2) (k3 : K3) (h : q) (e : x → K1 → K2 → K3 → Cv q p := by
   intro X k1 k2 k3
   repeat' first | with_reducible apply vT | with_reducible apply vF | with_reducible apply vC | ((first | ((with_reducible apply vE); (focus exact k1); (focus (simp -implicitDefEqProofs (disch := omega) only [X, zdB, go_sem, simprocAttr]; done))) | ((with_reducible apply vE); (focus (apply k1 <;> omega)); (focus (simp -implicitDefEqProofs (disch := omega) only [X, zdB, go_sem, simprocAttr]; done))) | ((with_reducible apply vR); focus exact k1 ..) | ((with_reducible apply vE); (focus exact k2); (focus (simp -implicitDefEqProofs (disch := omega) only [X, zdB, go_sem, simprocAttr]; done))) | ((with_reducible apply vE); (focus (apply k2 <;> omega)); (focus (simp -implicitDefEqProofs (disch := omega) only [X, zdB, go_sem, simprocAttr]; done))) | ((with_reducible apply vR); focus exact k2 ..) | ((with_reducible apply vE); (focus exact k3); (focus (simp -implicitDefEqProofs (disch := omega) only [X, zdB, go_sem, simprocAttr]; done))) | ((with_reducible apply vE); (focus (apply k3 <;> omega)); (focus (simp -implicitDefEqProofs (disch := omega) only [X, zdB, go_sem, simprocAttr]; done))) | ((with_reducible apply vR); focus exact k3 ..)); simp -implicitDefEqProofs (disch := omega) only [X, go_sem, simprocAttr]) | ((with_reducible apply vA); focus omega) | ((with_reducible apply vI); (focus (intro hr; (try simp only [zdz] at hr); exact hr)); intro hr; have hc := hr; (try simp only [zdz] at hc); simp -implicitDefEqProofs (disch := omega) only [hr, X, go_sem, simprocAttr]; (try clear hr))
   any_goals exact vS) : p := (e X k1 k2 k3).1 h
theorem zt4 {K1 : Prop} {K2 : Prop} {K3 : Prop} {K4 : Prop} {p q : Prop} (k1 : K1) (k2 : K2) (k3 : K3) (k4 : K4) (h : q) (e : K1 → K2 → K3 → K4 → Cv q p := by
   intro k1 k2 k3 k4
   repeat' first | with_reducible apply vT | with_reducible apply vF | with_reducible apply vC | ((first | ((with_reducible apply vE); (focus exact k1); (focus (simp -implicitDefEqProofs (disch := omega) only [zdB, go_sem, simprocAttr]; done))) | ((with_reducible apply vE); (focus (apply k1 <;> omega)); (focus (simp -implicitDefEqProofs (disch := omega) only [zdB, go_sem, simprocAttr]; done))) | ((with_reducible apply vR); focus exact k1 ..) | ((with_reducible apply vE); (focus exact k2); (focus (simp -implicitDefEqProofs (disch := omega) only [zdB, go_sem, simprocAttr]; done))) | ((with_reducible apply vE); (focus (apply k2 <;> omega)); (focus (simp -implicitDefEqProofs (disch := omega) only [zdB, go_sem, simprocAttr]; done))) | ((with_reducible apply vR); focus exact k2 ..) | ((with_reducible apply vE); (focus exact k3); (focus (simp -implicitDefEqProofs (disch := omega) only [zdB, go_sem, simprocAttr]; done))) | ((with_reducible apply vE); (focus (apply k3 <;> omega)); (focus (simp -implicitDefEqProofs (disch := omega) only [zdB, go_sem, simprocAttr]; done))) | ((with_reducible apply vR); focus exact k3 ..) | ((with_reducible apply vE); (focus exact k4); (focus (simp -implicitDefEqProofs (disch := omega) only [zdB, go_sem, simprocAttr]; done))) | ((with_reducible apply vE); (focus (apply k4 <;> omega)); (focus (simp -implicitDefEqProofs (disch := omega) only [zdB, go_sem, simprocAttr]; done))) | ((with_reducible apply vR); focus exact k4 ..)); simp -implicitDefEqProofs (disch := omega) only [go_sem, simprocAttr]) | ((with_reducible apply vA); focus omega) | ((with_reducible apply vI); (focus (intro hr; (try simp only [zdz] at hr); exact hr)); intro hr; have hc := hr; (try simp only [zdz] at hc); simp -implicitDefEqProofs (disch := omega) only [hr, go_sem, simprocAttr]; (try clear hr))
   any_goals exact vS) : p := (e k1 k2 k3 k4).1 h
def Rd6 (H : List AObj) (v : AV) (l : List LTerm) : Prop := (v = .e0 ∧ l = []) ∨ v = avt l ∨ ∃ i off fz t cells, v = .hs i off l.length t ∧ H[i]? = some (.arr fz 6 cells) ∧ off + l.length * 6 ≤ cells.length ∧ (cells.drop off).take (l.length * 6) = l.flatMap aC
theorem aPq {H : List AObj} {v : AV} {l : List LTerm} (h : Rd6 H v l) : avt l = gG dep H v := by
 rcases h with ⟨rfl, rfl⟩ | rfl | ⟨i, off, fz, t, cells, rfl, h1, h2, h3⟩
 · rfl
 · simp only [iT, aBo, if_true]
 · simp only [iT, pers, zW, h1, h3, lQ, if_true, aP, if_false, if_pos h2]
   rfl
theorem xR {H : List AObj} {v : AV} {l : List LTerm} (h : Rd6 H v l) : mH H v (avt l) ∧ bS v (avt l) = [] := by
 have h0 := aPq h
 rcases h with ⟨rfl, rfl⟩ | rfl | ⟨i, off, fz, t, cells, rfl, h1, h2, h3⟩
 · exact ⟨h0, rfl⟩
 · exact ⟨h0, rfl⟩
 · exact ⟨h0, rfl⟩
theorem vO {H : List AObj} : Rd6 H .e0 [] := .inl ⟨rfl, rfl⟩
theorem aBn {H : List AObj} {l : List LTerm} : Rd6 H (.sl (l.flatMap aC) l.length) l := .inr (.inl rfl)
theorem aVe {H : List AObj} {t : LTerm} {v4 v5 : AV} {c : Int} (r4 : Rd6 H v4 t.kids) (r5 : Rd6 H v5 t.rest) : Fin H (.tup [.agg [.i .i64 t.kind, .i .i64 t.n, .s t.text, .s t.sort, v4, v5], .i .i64 c]) (bCi t c) := by
 have e4 := xR r4
 have e5 := xR r5
 have hn : bS (.tup [.agg [.i .i64 t.kind, .i .i64 t.n, .s t.text, .s t.sort, v4, v5], .i .i64 c]) (bCi t c) = [] := by
   simp only [bCi, bS, finIdsL, bA, e4.2, e5.2, List.append_nil]
 refine .inr ⟨?_, ?_, ?_⟩
 · rw [bCi, bA]; exact ⟨⟨rfl, rfl, rfl, rfl, e4.1, e5.1, trivial⟩, rfl, trivial⟩
 · rw [hn]; exact dC
 · rw [hn]; simp
def wH (t : LTerm) : Bool := decide (t.kind = 1) || decide (t.kind = 3) || decide (t.kind = 4)
theorem aWh (t : LTerm): CT 192 [elT t] (.b (wH t)) := by
 refine aF mixed Tryz.func192 g0 ?_
 · skip
   (repeat' (first | refine gT ?_ ?_ | refine gF ?_ ?_ | refine gC ?_ ?_ | refine aV (by omega) ?_ | (intro hr; have hc := hr; (try simp only [zdz] at hc); simp -implicitDefEqProofs (disch := omega) only [hr, go_sem, simprocAttr]; (try clear hr))))
   all_goals (refine aE ?_ rfl; simp_all [wH])
theorem aLy (t : LTerm): CT 130 [elT t] (.b (wH t)) := by
 refine aF mixed Tryz.func130 g0 ?_
 · skip
   (repeat' (first | refine gT ?_ ?_ | refine gF ?_ ?_ | refine gC ?_ ?_ | refine aV (by omega) ?_ | (intro hr; have hc := hr; (try simp only [zdz] at hc); simp -implicitDefEqProofs (disch := omega) only [hr, go_sem, simprocAttr]; (try clear hr))))
   all_goals (refine aE ?_ rfl; simp_all [wH])
def lV (n : Int) : Bool := decide (-2147483647 ≤ n) && decide (n ≤ 2147483647)
theorem aWb (n : Int): CT 233 [.i .i64 n] (.b (lV n)) := by
 refine aF mixed Tryz.func233 g0 ?_
 · skip
   (repeat' (first | refine gT ?_ ?_ | refine gF ?_ ?_ | refine gC ?_ ?_ | refine aV (by omega) ?_ | (intro hr; have hc := hr; (try simp only [zdz] at hc); simp -implicitDefEqProofs (disch := omega) only [hr, go_sem, simprocAttr]; (try clear hr))))
   all_goals (refine aE ?_ rfl; simp_all [lV] <;> omega)
def oT (a b : Int) : Int := if a < b then -1 else if b < a then 1 else 0
theorem aKr {a b : Str} (h1 : ¬ a < b) (h2 : ¬ a = b) : b < a := by
 rcases List.le_iff_lt_or_eq.1 (List.not_lt.1 h1) with h | h
 · exact h
 · exact absurd h.symm h2
def pL (a b : Str) : Int := if a < b then -1 else if b < a then 1 else 0
theorem aMg {a b : Str} (h : a < b) : pL a b = -1 := if_pos h
theorem aMh {a b : Str} (h1 : ¬ a < b) (h2 : ¬ a = b) : pL a b = 1 := by rw [pL, if_neg h1, if_pos (aKr h1 h2)]
theorem aAf {a b : Str} (h : a = b) : pL a b = 0 := by subst h; have : ¬ a < a := List.lt_irrefl a; simp only [pL, if_neg this]
theorem aLv (a b : Int): CT 241 [.i .i64 a, .i .i64 b] (.i .i64 (oT a b)) := by
 refine aF mixed Tryz.func241 g0 ?_
 · skip
   (repeat' (first | refine gT ?_ ?_ | refine gF ?_ ?_ | refine gC ?_ ?_ | refine aV (by omega) ?_ | (intro hr; have hc := hr; (try simp only [zdz] at hc); simp -implicitDefEqProofs (disch := omega) only [hr, go_sem, simprocAttr]; (try clear hr))))
   all_goals (refine aE ?_ rfl; congr 1; unfold oT; (repeat' split) <;> omega)
theorem aVw (a : Int): CT 238 [.i .i64 a] (.b false) := by
 refine aF mixed Tryz.func238 g0 ?_
 · skip
   (repeat' (first | refine gT ?_ ?_ | refine gF ?_ ?_ | refine gC ?_ ?_ | refine aV (by omega) ?_ | (intro hr; have hc := hr; (try simp only [zdz] at hc); simp -implicitDefEqProofs (disch := omega) only [hr, go_sem, simprocAttr]; (try clear hr))))
   all_goals (refine aE ?_ rfl; simp_all)
theorem aVx (a : Int): CT 237 [.i .i64 a] (.b false) := by
 refine aF mixed Tryz.func237 g0 ?_
 · skip
   (repeat' (first | refine gT ?_ ?_ | refine gF ?_ ?_ | refine gC ?_ ?_ | refine aV (by omega) ?_ | (intro hr; have hc := hr; (try simp only [zdz] at hc); simp -implicitDefEqProofs (disch := omega) only [hr, go_sem, simprocAttr]; (try clear hr))))
   all_goals (refine aE ?_ rfl; simp_all)
theorem aWj (a : Str): CT 239 [.s a] (.b false) := by
 refine aF mixed Tryz.func239 g0 ?_
 · skip
   (repeat' (first | refine gT ?_ ?_ | refine gF ?_ ?_ | refine gC ?_ ?_ | refine aV (by omega) ?_ | (intro hr; have hc := hr; (try simp only [zdz] at hc); simp -implicitDefEqProofs (disch := omega) only [hr, go_sem, simprocAttr]; (try clear hr))))
   all_goals (refine aE ?_ rfl; simp_all)
theorem bHf (a b : Int): CT 204 [.i .i64 a, .i .i64 b] (.i .i64 (oT a b)) := by
 refine aF mixed Tryz.func204 g0 ?_
 · skip
   (repeat' (first | refine gT ?_ ?_ | refine gF ?_ ?_ | refine gC ?_ ?_ | ((first | (refine aW (aVw a) ?_ ?_; (focus (simp -implicitDefEqProofs (disch := omega) only [zdB, go_sem, simprocAttr]; done))) | (refine aW (aVw b) ?_ ?_; (focus (simp -implicitDefEqProofs (disch := omega) only [zdB, go_sem, simprocAttr]; done)))); simp -implicitDefEqProofs (disch := omega) only [go_sem, simprocAttr]) | refine aV (by omega) ?_ | (intro hr; have hc := hr; (try simp only [zdz] at hc); simp -implicitDefEqProofs (disch := omega) only [hr, go_sem, simprocAttr]; (try clear hr))))
   all_goals (refine aE ?_ rfl; congr 1; unfold oT; (repeat' split) <;> omega)
theorem bHg (a b : Int): CT 203 [.i .i64 a, .i .i64 b] (.i .i64 (oT a b)) := by
 refine aF mixed Tryz.func203 g0 ?_
 · skip
   (repeat' (first | refine gT ?_ ?_ | refine gF ?_ ?_ | refine gC ?_ ?_ | ((first | (refine aW (aVx a) ?_ ?_; (focus (simp -implicitDefEqProofs (disch := omega) only [zdB, go_sem, simprocAttr]; done))) | (refine aW (aVx b) ?_ ?_; (focus (simp -implicitDefEqProofs (disch := omega) only [zdB, go_sem, simprocAttr]; done)))); simp -implicitDefEqProofs (disch := omega) only [go_sem, simprocAttr]) | refine aV (by omega) ?_ | (intro hr; have hc := hr; (try simp only [zdz] at hc); simp -implicitDefEqProofs (disch := omega) only [hr, go_sem, simprocAttr]; (try clear hr))))
   all_goals (refine aE ?_ rfl; congr 1; unfold oT; (repeat' split) <;> omega)
theorem aWa (a b : Str): CT 242 [.s a, .s b] (.i .i64 (pL a b)) := by
 refine aF mixed Tryz.func242 g0 ?_
 · skip
   (repeat' (first | refine gT ?_ ?_ | refine gF ?_ ?_ | refine gC ?_ ?_ | refine aV (by omega) ?_ | (intro hr; have hc := hr; (try simp only [zdz] at hc); simp -implicitDefEqProofs (disch := omega) only [hr, go_sem, simprocAttr]; (try clear hr))))
   all_goals (refine aE ?_ rfl; congr 1; simp only [bytesLess_eq, decide_eq_true_eq, decide_eq_false_iff_not, cI] at *; first | exact aMg (by assumption) | exact aMh (by assumption) (by assumption) | exact aAf (by assumption))
theorem aWc (a b : Str): CT 205 [.s a, .s b] (.i .i64 (pL a b)) := by
 refine aF mixed Tryz.func205 g0 ?_
 · skip
   (repeat' (first | refine gT ?_ ?_ | refine gF ?_ ?_ | refine gC ?_ ?_ | ((first | (refine aW (aWj a) ?_ ?_; (focus (simp -implicitDefEqProofs (disch := omega) only [zdB, go_sem, simprocAttr]; done))) | (refine aW (aWj b) ?_ ?_; (focus (simp -implicitDefEqProofs (disch := omega) only [zdB, go_sem, simprocAttr]; done)))); simp -implicitDefEqProofs (disch := omega) only [go_sem, simprocAttr]) | refine aV (by omega) ?_ | (intro hr; have hc := hr; (try simp only [zdz] at hc); simp -implicitDefEqProofs (disch := omega) only [hr, go_sem, simprocAttr]; (try clear hr))))
   all_goals (refine aE ?_ rfl; congr 1; simp only [bytesLess_eq, decide_eq_true_eq, decide_eq_false_iff_not, cI] at *; first | exact aMg (by assumption) | exact aMh (by assumption) (by assumption) | exact aAf (by assumption))
def orI : List Int → Int
 | [] => 0
 | a :: l => if a = 0 then orI l else a
theorem P6 {l : List Int} {k : Nat} (hz : ∀ j, j < k → l.getD j 0 = 0) : orI l = orI (l.drop k) := by
 induction k generalizing l with
 | zero => rfl
 | succ k ih =>
   cases l with
   | nil => simp [orI]
   | cons a l =>
     have h0 : a = 0 := hz 0 (by omega)
     rw [fD, ← ih (fun j hj => by have := hz (j + 1) (by omega); simpa using this), orI, if_pos h0]
theorem aWd (l : List Int) (hl : l.length ≤ 17592186044416): CT 202 [avi l] (.i .i64 (orI l)) := by
 refine bM mixed Tryz.func202 g0 ?_
 · simp -implicitDefEqProofs (disch := omega) only [Tryz.f202, go_sem, List.replicate, simprocAttr, avi]
   refine bP (fun (k : Nat) => [.k, .k, .j, .k, .k, .j, .k, .k, .v (.i .i64 k), .j, .j, .j, .j, .j, .j, .j, .j, .k]) (fun k => []) (fun k => k ≤ l.length ∧ ∀ j, j < k → l.getD j 0 = 0) (fun k => l.length - k) (0) ⟨aG _, fun j h => by omega⟩ rfl (by simp [eN]) ?_
   rintro k j ⟨hk, ha⟩
   simp -implicitDefEqProofs (disch := omega) only [go_sem, simprocAttr]
   (repeat' (first | refine gT ?_ ?_ | refine gF ?_ ?_ | refine gC ?_ ?_ | refine aV (by omega) ?_ | (intro hr; have hc := hr; (try simp only [zdz] at hc); simp -implicitDefEqProofs (disch := omega) only [hr, go_sem, simprocAttr]; (try clear hr))))
   · refine aE ?_ rfl
     have hlt : k < l.length := by omega
     rw [P6 ha, bO hlt, orI, if_neg (by simpa [List.getD, hlt] using hc)]
     simp [List.getD, hlt]
   · exact ⟨k + 1, ⟨by omega, aY ha (by simpa using hc)⟩, by omega, by simp⟩
   · refine aE ?_ rfl
     rw [P6 ha, bF (by omega)]; rfl
theorem P9 {s : Str} (h : cY s = true) : 0 < s.length := by
 cases s with
 | nil => revert h; decide
 | cons a l => simp
def aXi : Str := [116, 114, 117, 101]
def aLl : Str := [102, 97, 108, 115, 101]
def aVb (s : Str) : Bool := cY s && decide (97 ≤ ((s.getD 0 0).toNat : Int)) && decide (((s.getD 0 0).toNat : Int) ≤ 122) && !decide (s = aXi) && !decide (s = aLl)
theorem bHc (s : Str) (hs : s.length ≤ 140737488355328): CT 235 [.s s] (.b (aVb s)) := by
 refine aF mixed Tryz.func235 g0 ?_
 · skip
   have c := I4 s hs
   cases h : cY s with
   | false =>
     rw [h] at c
     (repeat' (first | refine gT ?_ ?_ | refine gF ?_ ?_ | refine gC ?_ ?_ | ((refine aW (c) ?_ ?_; (focus (simp -implicitDefEqProofs (disch := omega) only [zdB, go_sem, simprocAttr]; done))); simp -implicitDefEqProofs (disch := omega) only [go_sem, simprocAttr]) | refine aV (by omega) ?_ | (intro hr; have hc := hr; (try simp only [zdz] at hc); simp -implicitDefEqProofs (disch := omega) only [hr, go_sem, simprocAttr]; (try clear hr))))
     all_goals exact aE (by simp [aVb, h]) rfl
   | true =>
     rw [h] at c
     have hpos := P9 h
     (repeat' (first | refine gT ?_ ?_ | refine gF ?_ ?_ | refine gC ?_ ?_ | ((refine aW (c) ?_ ?_; (focus (simp -implicitDefEqProofs (disch := omega) only [zdB, go_sem, simprocAttr]; done))); simp -implicitDefEqProofs (disch := omega) only [go_sem, simprocAttr]) | refine aV (by omega) ?_ | (intro hr; have hc := hr; (try simp only [zdz] at hc); simp -implicitDefEqProofs (disch := omega) only [hr, go_sem, simprocAttr]; (try clear hr))))
     all_goals refine aE ?_ rfl
     all_goals (simp_all [aVb, aXi, aLl, decide_not] <;> (first | omega | (intros; omega) | exact decide_eq_decide.2 Iff.rfl))
theorem bHa (s : Str) (hs : s.length ≤ 140737488355328): CT 260 [.s s] (.b (aVb s)) := by
 refine aF mixed Tryz.func260 g0 ?_
 · skip
   have c := I3 s hs
   cases h : cY s with
   | false =>
     rw [h] at c
     (repeat' (first | refine gT ?_ ?_ | refine gF ?_ ?_ | refine gC ?_ ?_ | ((refine aW (c) ?_ ?_; (focus (simp -implicitDefEqProofs (disch := omega) only [zdB, go_sem, simprocAttr]; done))); simp -implicitDefEqProofs (disch := omega) only [go_sem, simprocAttr]) | refine aV (by omega) ?_ | (intro hr; have hc := hr; (try simp only [zdz] at hc); simp -implicitDefEqProofs (disch := omega) only [hr, go_sem, simprocAttr]; (try clear hr))))
     all_goals exact aE (by simp [aVb, h]) rfl
   | true =>
     rw [h] at c
     have hpos := P9 h
     (repeat' (first | refine gT ?_ ?_ | refine gF ?_ ?_ | refine gC ?_ ?_ | ((refine aW (c) ?_ ?_; (focus (simp -implicitDefEqProofs (disch := omega) only [zdB, go_sem, simprocAttr]; done))); simp -implicitDefEqProofs (disch := omega) only [go_sem, simprocAttr]) | refine aV (by omega) ?_ | (intro hr; have hc := hr; (try simp only [zdz] at hc); simp -implicitDefEqProofs (disch := omega) only [hr, go_sem, simprocAttr]; (try clear hr))))
     all_goals refine aE ?_ rfl
     all_goals (simp_all [aVb, aXi, aLl, decide_not] <;> (first | omega | (intros; omega) | exact decide_eq_decide.2 Iff.rfl))

theorem yT {n : Nat} : ((n : Int) = 0) ↔ n = 0 := by omega
theorem yU {n : Nat} : ((n : Int) = 1) ↔ n = 1 := by omega
theorem oV {n : Nat} : ((n : Int) ≤ 8) ↔ n ≤ 8 := by omega
def pD (c : UInt8) : Bool := decide (32 ≤ (c.toNat : Int)) && decide ((c.toNat : Int) ≤ 126) && decide ((c.toNat : Int) ≠ 34) && decide ((c.toNat : Int) ≠ 92)
def vW (s : Str) : Bool := s.all pD && decide (s.length ≤ 200)
theorem aRj {α : Type} {l : List α} {k : Nat} {d : α} (h : k < l.length) : l[k]? = some (l.getD k d) := by simp [List.getD, h]
theorem bAa {α : Type} {l : List α} {k : Nat} {d x : α} (h : l[k]? = some x) : l.getD k d = x := by simp [List.getD, h]
theorem W7 {s : Str} {k : Nat} {c : UInt8} (h : s[k]? = some c) (hc : pD c = false) : vW s = false := by
 have : s.all pD = false := by
   rw [jD]
   exact ⟨c, cG h, by simp [hc]⟩
 simp [vW, this]
theorem aBa {s : Str} (h : ∀ j, j < s.length → pD (s.getD j 0) = true) : vW s = decide (s.length ≤ 200) := by
 have : s.all pD = true := iV (d := 0) h
 simp [vW, this]
theorem bHb (s : Str) (hs : s.length ≤ 140737488355328): CT 259 [.s s] (.b (vW s)) := by
 refine aF mixed Tryz.func259 g0 ?_
 · skip
   refine bP (fun (k : Nat) => [.k, .k, .j, .j, .k, .k, .v (.i .i64 k), .j, .j, .j, .j, .j, .j, .j, .j, .j, .j, .j, .j, .j, .j, .j, .j, .j, .j, .j, .j, .j, .j, .j, .j, .j, .k, .k, .k]) (fun k => []) (fun k => k ≤ s.length ∧ ∀ j, j < k → pD (s.getD j 0) = true) (fun k => s.length - k) (0) ⟨aG _, fun j h => by omega⟩ rfl (by simp [eN]) ?_
   rintro k j ⟨hk, ha⟩
   refine zg ?_
   (refine zs0 ?_; repeat' first | exact trivial | refine zJ ?_ ?_ | refine zH fun hc => ?_)
   all_goals first
     | (refine aE ?_ rfl; rw [W7 (k := k) (aRj (d := 0) (by omega)) (by simp only [pD, gJ, decide_eq_false_iff_not, ne_eq]; omega)]; done)
     | exact ⟨k + 1, ⟨by omega, aY ha (by simp only [pD, aB, decide_eq_true_eq, ne_eq]; omega)⟩, by omega, by simp⟩
     | (refine aE ?_ rfl; rw [aBa (fun j hj => ha j (by omega))]; exact congrArg AV.b (decide_eq_decide.2 (by omega)))
theorem bHk (s : Str) (hs : s.length ≤ 140737488355328): CT 234 [.s s] (.b (vW s)) := by
 refine aF mixed Tryz.func234 g0 ?_
 · skip
   refine bP (fun (k : Nat) => [.k, .k, .j, .k, .j, .k, .k, .j, .j, .j, .j, .j, .j, .j, .j, .j, .j, .j, .j, .j, .j, .j, .j, .j, .k, .k, .k]) (fun k => [.sit s k]) (fun k => k ≤ s.length ∧ ∀ j, j < k → pD (s.getD j 0) = true) (fun k => s.length - k) (0) ⟨aG _, fun j h => by omega⟩ rfl (by simp [eN]) ?_
   rintro k j ⟨hk, ha⟩
   refine zg ?_
   refine Y9 rfl ?_ ?_ ?_
   · intro hle
     refine zg ?_
     refine aE ?_ rfl
     rw [aBa (fun j hj => ha j (by omega))]
     exact congrArg AV.b (decide_eq_decide.2 (by omega))
   · intro c hc hlt
     have hcg := bAa (d := 0) hc
     have hk2 := aO hc
     have hc0 := hc
     refine zg ?_
     (refine zs0 ?_; repeat' first | exact trivial | refine zJ ?_ ?_ | refine zH fun hc => ?_)
     all_goals first
       | (refine aE ?_ rfl; rw [W7 hc0 (by simp only [pD, gJ, decide_eq_false_iff_not, ne_eq]; omega)]; done)
       | exact ⟨k + 1, ⟨by omega, aY ha (by rw [hcg]; simp only [pD, aB, decide_eq_true_eq, ne_eq]; omega)⟩, by omega, by simp⟩
   · intro c rn m hc h1 h2 h3 h4
     have hc0 := hc
     refine zg ?_
     (refine zs0 ?_; repeat' first | exact trivial | refine zJ ?_ ?_ | refine zH fun hc => ?_)
     all_goals first
       | (exfalso; omega)
       | (refine aE ?_ rfl; rw [W7 hc0 (by simp only [pD, gJ, decide_eq_false_iff_not, ne_eq]; omega)]; done)
def eI (t : LTerm) (n te so ki re : Bool) : Bool := (n || decide (t.n = 0)) && (te || decide (t.text = [])) && (so || decide (t.sort = [])) && (ki || decide (t.kids = [])) && (re || decide (t.rest = []))
theorem bBc (t : LTerm): CT 258 [elT t, .b true, .b false, .b false, .b false, .b false] (.b (eI t true false false false false)) := by
 refine aF mixed Tryz.func258 g0 ?_
 · skip
   (refine zs0 ?_; repeat' first | exact trivial | refine zJ ?_ ?_ | refine zH fun hc => ?_)
   all_goals (refine aE ?_ rfl; simp_all [eI])
theorem bBb (t : LTerm): CT 258 [elT t, .b false, .b true, .b false, .b false, .b false] (.b (eI t false true false false false)) := by
 refine aF mixed Tryz.func258 g0 ?_
 · skip
   (refine zs0 ?_; repeat' first | exact trivial | refine zJ ?_ ?_ | refine zH fun hc => ?_)
   all_goals (refine aE ?_ rfl; simp_all [eI])
theorem bBa (t : LTerm): CT 258 [elT t, .b false, .b true, .b false, .b true, .b false] (.b (eI t false true false true false)) := by
 refine aF mixed Tryz.func258 g0 ?_
 · skip
   (refine zs0 ?_; repeat' first | exact trivial | refine zJ ?_ ?_ | refine zH fun hc => ?_)
   all_goals (refine aE ?_ rfl; simp_all [eI])
theorem aLu (t : LTerm): CT 258 [elT t, .b false, .b true, .b true, .b false, .b false] (.b (eI t false true true false false)) := by
 refine aF mixed Tryz.func258 g0 ?_
 · skip
   (refine zs0 ?_; repeat' first | exact trivial | refine zJ ?_ ?_ | refine zH fun hc => ?_)
   all_goals (refine aE ?_ rfl; simp_all [eI])
theorem bAz (t : LTerm): CT 258 [elT t, .b false, .b false, .b false, .b true, .b true] (.b (eI t false false false true true)) := by
 refine aF mixed Tryz.func258 g0 ?_
 · skip
   (refine zs0 ?_; repeat' first | exact trivial | refine zJ ?_ ?_ | refine zH fun hc => ?_)
   all_goals (refine aE ?_ rfl; simp_all [eI])
def oM (t : LTerm) (so : Str) : Bool := decide (t.rest.length = 0) || (decide (t.rest.length = 1) && decide ((t.rest.getD 0 default).kind = 6) && cY (t.rest.getD 0 default).text && decide ((t.rest.getD 0 default).sort = so) && eI (t.rest.getD 0 default) false true true false false)
theorem aVv (t : LTerm) (so : Str) (ht : OkT t): CT 261 [elT t, .s so] (.b (oM t so)) := by
 refine aF mixed Tryz.func261 g0 ?_
 · skip
   have h1 : 0 < t.rest.length → OkT (t.rest.getD 0 default) := fun h => ht.rst _ (bB h)
   (repeat' (first | refine gT ?_ ?_ | refine gF ?_ ?_ | refine gC ?_ ?_ | ((first | refine cF (I3 (t.rest.getD 0 default).text (h1 (by omega)).text) ?_ | refine cF (aLu (t.rest.getD 0 default)) ?_); simp -implicitDefEqProofs (disch := omega) only [go_sem, simprocAttr]) | refine aV (by omega) ?_ | (intro hr; have hc := hr; (try simp only [zdz] at hc); simp -implicitDefEqProofs (disch := omega) only [hr, go_sem, simprocAttr]; (try clear hr))))
   all_goals simp only [yT, yU] at *
   all_goals (refine aE ?_ rfl; simp_all only [oM, decide_true, decide_false, cQ, cI, Bool.true_and, Bool.false_and, Bool.and_false, Bool.and_true, Nat.one_ne_zero])

def C3 (s : Str) : Bool := cY (mJ s)
theorem aVz (s : Str) (hs : s.length ≤ 140737488355328): CT 155 [.s s] (.b (C3 s)) := by
 refine aF mixed Tryz.func155 g0 ?_
 · skip
   (repeat' (first | refine gT ?_ ?_ | refine gF ?_ ?_ | refine gC ?_ ?_ | (refine cF (aWm s hs) ?_; simp -implicitDefEqProofs (disch := omega) only [go_sem, simprocAttr]) | (refine aGm (I4 _ (dT (I9 s) hs)) ?_; simp -implicitDefEqProofs (disch := omega) only [go_sem, simprocAttr]) | refine aV (by omega) ?_ | (intro hr; have hc := hr; (try simp only [zdz] at hc); simp -implicitDefEqProofs (disch := omega) only [hr, go_sem, simprocAttr]; (try clear hr))))
   refine aE ?_ (by rfl); rfl
theorem oU {n : Nat} : ((n : Int).tmod 2 = 0) ↔ n % 2 = 0 := by
 rw [Int.tmod_eq_emod_of_nonneg (Int.natCast_nonneg n)]; omega
def sZ (s : Str) : Bool := decide (s = [95]) || decide (s = [36])
abbrev pW : Str := [76, 105, 115, 116]
abbrev yE : Str := [77, 97, 112]
abbrev aEa : Str := [65, 110, 121]
def cB (t : LTerm) : Bool :=
 if t.kind = 1 then lV t.n && eI t true false false false false
 else if t.kind = 2 then (decide (t.n = 0) || decide (t.n = 1)) && eI t true false false false false
 else if t.kind = 3 then vW t.text && eI t false true false false false
 else if t.kind = 4 then aVb t.text && eI t false true false false false
 else if t.kind = 5 then C3 t.text && decide (t.kids.length ≤ 8) && eI t false true false true false
 else if t.kind = 6 then (if sZ t.text = true then decide (t.sort = aEa) && eI t false true true false false else cY t.text && cY t.sort && eI t false true true false false)
 else if t.kind = 7 then oM t pW && eI t false false false true true
 else if t.kind = 8 then oM t yE && decide (t.kids.length % 2 = 0) && eI t false false false true true
 else false
theorem nV (t : LTerm) (h : cB t = true) : t.rest.length ≤ 1 := by
 have z : ∀ {a b c d}, eI t a b c d false = true → t.rest.length ≤ 1 := by
   intro a b c d h
   simp only [eI, aB, bK, decide_eq_true_eq, aP, false_or] at h
   rw [h.2]; simp
 have r : ∀ {s}, oM t s = true → t.rest.length ≤ 1 := by
   intro s h
   simp only [oM, aB, bK, decide_eq_true_eq] at h
   omega
 unfold cB at h
 repeat' split at h
 all_goals try simp only [aB] at h
 all_goals first | exact z h.2 | exact r h.1 | exact r h.1.1 | cases h
theorem bHd (t : LTerm) (ht : OkT t): CT 240 [elT t] (.b (cB t)) := by
 refine aF mixed Tryz.func240 g0 ?_
 · skip
   (repeat' (first | refine gT ?_ ?_ | refine gF ?_ ?_ | refine gC ?_ ?_ | ((first | refine cF (bHb t.text ht.text) ?_ | refine cF (bHa t.text ht.text) ?_ | refine cF (aMe t.text ht.text) ?_ | (refine aW (I3 t.text ht.text) ?_ ?_; (focus (simp -implicitDefEqProofs (disch := omega) only [zdB, go_sem, simprocAttr]; done))) | (refine aW (I3 t.sort ht.sort) ?_ ?_; (focus (simp -implicitDefEqProofs (disch := omega) only [zdB, go_sem, simprocAttr]; done))) | (refine aW (aVv t pW ht) ?_ ?_; (focus (simp -implicitDefEqProofs (disch := omega) only [zdB, go_sem, simprocAttr]; done))) | (refine aW (aVv t yE ht) ?_ ?_; (focus (simp -implicitDefEqProofs (disch := omega) only [zdB, go_sem, simprocAttr]; done))) | (refine aW (bBc t) ?_ ?_; (focus (simp -implicitDefEqProofs (disch := omega) only [zdB, go_sem, simprocAttr]; done))) | (refine aW (bBb t) ?_ ?_; (focus (simp -implicitDefEqProofs (disch := omega) only [zdB, go_sem, simprocAttr]; done))) | (refine aW (bBa t) ?_ ?_; (focus (simp -implicitDefEqProofs (disch := omega) only [zdB, go_sem, simprocAttr]; done))) | (refine aW (aLu t) ?_ ?_; (focus (simp -implicitDefEqProofs (disch := omega) only [zdB, go_sem, simprocAttr]; done))) | (refine aW (bAz t) ?_ ?_; (focus (simp -implicitDefEqProofs (disch := omega) only [zdB, go_sem, simprocAttr]; done)))); simp -implicitDefEqProofs (disch := omega) only [go_sem, simprocAttr]) | refine aV (by omega) ?_ | (intro hr; have hc := hr; (try simp only [zdz] at hc); simp -implicitDefEqProofs (disch := omega) only [hr, go_sem, simprocAttr]; (try clear hr))))
   all_goals try simp only [yT, yU, oV, oU] at *
   all_goals refine aE ?_ rfl
   all_goals (simp_all [cB, lV, sZ, C3] <;> (intros; omega))
end Go.Proofs.YtifefbhllfdmlaaGreatDoor

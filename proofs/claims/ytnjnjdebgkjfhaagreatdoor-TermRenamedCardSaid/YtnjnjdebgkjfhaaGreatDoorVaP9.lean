/-
  What functions of the chapter return, as plain functions of what they are given; no condition beyond those that each theorem names.
-/
import Derived.Test.YtnjnjdebgkjfhaaGreatDoorVaP7
import Derived.Test.YtnjnjdebgkjfhaaGreatDoorSoP4
import Derived.Test.YtnjnjdebgkjfhaaGreatDoorSoP7
import Derived.Test.YtnjnjdebgkjfhaaGreatDoorVaP4
import Derived.Test.YtnjnjdebgkjfhaaGreatDoorVaP8
import Derived.Test.YtnjnjdebgkjfhaaGreatDoorVaP6
set_option maxRecDepth 100000
set_option linter.unusedSimpArgs false
set_option linter.unusedVariables false
set_option maxHeartbeats 4000000
namespace Go.Proofs.YtnjnjdebgkjfhaaGreatDoor
open Go Go.Vo
open Nat (reduceAdd reduceSub reduceMul reduceLeDiff reduceLT reduceEqDiff)
open Int (reduceNeg)

mutual
def chT (a b : Str) : Bool → LTerm → LTerm
 | q, .mk k n x s ks rs => .mk k n (if k = 5 then swapOp x a b else if k = 6 then (if x = [95] then x else if x = [36] then x else swap x a b) else x)
     (if k = 5 then s else if k = 6 then (if x = [95] then s else if x = [36] then s else if q = true then swap s a b else s) else s) (chL a b q ks) (chL a b false rs)
def chL (a b : Str) : Bool → List LTerm → List LTerm
 | q, [] => []
 | q, t :: l => chT a b q t :: chL a b q l
end
theorem chL_eq {q : Bool} {a b : Str} : ∀ {l : List LTerm}, chL a b q l = l.map (chT a b q)
 | [] => rfl
 | t :: l => by rw [chL, chL_eq, List.map_cons]
theorem chT_eq {q : Bool} {a b : Str} {t : LTerm} : chT a b q t = .mk t.kind t.n (if t.kind = 5 then swapOp t.text a b else if t.kind = 6 then (if t.text = [95] then t.text else if t.text = [36] then t.text else swap t.text a b) else t.text)
     (if t.kind = 5 then t.sort else if t.kind = 6 then (if t.text = [95] then t.sort else if t.text = [36] then t.sort else if q = true then swap t.sort a b else t.sort) else t.sort) (t.kids.map (chT a b q)) (t.rest.map (chT a b false)) := by
 cases t; rw [chT, chL_eq, chL_eq]; rfl
def opC (a b : Str) : AV := .fn 84 [] [.box [.s a] 0, .box [.s b] 0]
def vaC (a b : Str) : AV := .fn 81 [] [.box [.s a] 0, .box [.s b] 0]
def soC (q : Bool) (a b : Str) : AV := if q = true then vaC a b else .fn 146 [] []
theorem ctr385 (x : Str): CT 146 [.s x] (.s x) := by
 refine sem_introB mixed Tryz.func146 g0 ?_
 · skip
   (repeat' (first | refine gT ?_ ?_ | refine gF ?_ ?_ | refine gC ?_ ?_ | refine And.intro (by omega) ?_ | (intro hr; have hc := hr; (try simp only [zda, zdb, zdc, zdd] at hc); simp -implicitDefEqProofs (disch := omega) only [hr, go_sem, ↓reduceIte, reduceAdd, reduceSub, reduceMul, reduceLeDiff, reduceLT, reduceEqDiff, reduceNeg, Nat.reduceBEq]; (try clear hr))))
   exact fin_eq rfl rfl
theorem ctr371 (x a b : Str): CT 81 [.s x, .box [.s a] 0, .box [.s b] 0] (.s (swap x a b)) := by
 refine sem_introB mixed Tryz.func81 g0 ?_
 · skip
   (repeat' (first | refine gT ?_ ?_ | refine gF ?_ ?_ | refine gC ?_ ?_ | ((refine c_ctrE (ctr80 x a b) ?_ ?_; (focus (simp -implicitDefEqProofs (disch := omega) only [avs, avb, avi, avo, sigCells, opCells, pairCells, elT, avt, termCells_eq, go_sem, ↓reduceIte, reduceAdd, reduceSub, reduceMul, reduceLeDiff, reduceLT, reduceEqDiff, reduceNeg, Nat.reduceBEq]; done))); simp -implicitDefEqProofs (disch := omega) only [go_sem, ↓reduceIte, reduceAdd, reduceSub, reduceMul, reduceLeDiff, reduceLT, reduceEqDiff, reduceNeg, Nat.reduceBEq]) | refine And.intro (by omega) ?_ | (intro hr; have hc := hr; (try simp only [zda, zdb, zdc, zdd] at hc); simp -implicitDefEqProofs (disch := omega) only [hr, go_sem, ↓reduceIte, reduceAdd, reduceSub, reduceMul, reduceLeDiff, reduceLT, reduceEqDiff, reduceNeg, Nat.reduceBEq]; (try clear hr))))
   exact fin_eq rfl rfl
theorem ctr373 (x a b : Str) (hx : x.length ≤ 140737488355328) (ha : a.length ≤ 1000) (hb : b.length ≤ 1000): CT 84 [.s x, .box [.s a] 0, .box [.s b] 0] (.s (swapOp x a b)) := by
 refine sem_introB mixed Tryz.func84 g0 ?_
 · skip
   (repeat' (first | refine gT ?_ ?_ | refine gF ?_ ?_ | refine gC ?_ ?_ | ((refine c_ctrE (ctr83 x a b hx ha hb) ?_ ?_; (focus (simp -implicitDefEqProofs (disch := omega) only [avs, avb, avi, avo, sigCells, opCells, pairCells, elT, avt, termCells_eq, go_sem, ↓reduceIte, reduceAdd, reduceSub, reduceMul, reduceLeDiff, reduceLT, reduceEqDiff, reduceNeg, Nat.reduceBEq]; done))); simp -implicitDefEqProofs (disch := omega) only [go_sem, ↓reduceIte, reduceAdd, reduceSub, reduceMul, reduceLeDiff, reduceLT, reduceEqDiff, reduceNeg, Nat.reduceBEq]) | refine And.intro (by omega) ?_ | (intro hr; have hc := hr; (try simp only [zda, zdb, zdc, zdd] at hc); simp -implicitDefEqProofs (disch := omega) only [hr, go_sem, ↓reduceIte, reduceAdd, reduceSub, reduceMul, reduceLeDiff, reduceLT, reduceEqDiff, reduceNeg, Nat.reduceBEq]; (try clear hr))))
   exact fin_eq rfl rfl
theorem chg1 (l : List LTerm) (q : Bool) (a b : Str) (hl : l.length ≤ 1466015503701) (ih : ∀ t ∈ l, CT 83 [elT t, opC a b, soC q a b, vaC a b] (elT (chT a b q t))): CT 145 [avt l, soC q a b, .box [opC a b] 0, .box [vaC a b] 0] (avt (l.map (chT a b q))) := by
 refine sem_introA mixed Tryz.func145 g0 ?_
 · simp -implicitDefEqProofs (disch := omega) only [Tryz.f145, go_sem, List.replicate, ↓reduceIte, reduceAdd, reduceSub, reduceMul, reduceLeDiff, reduceLT, reduceEqDiff, reduceNeg, Nat.reduceBEq, avt, opC, vaC]
   have hs : pers (soC q a b) = true := by unfold soC; split <;> rfl
   generalize soC q a b = so at *
   refine x_loopJ (fun (s : Nat × AV × List AObj) => [.k, .k, .k, .k, .k, .k, .k, .v (s.2.1), .k, .j, .k, .k, .v (.i .i64 (s.1 : Nat)), .j, .j, .j, .j, .j, .j, .j, .j, .j, .j, .j, .j, .k]) (fun s => s.2.2) (fun s => s.1 ≤ l.length ∧ OutIs 6 0 s.2.2 s.2.1 (((l.map (chT a b q)).take s.1).flatMap termCells) s.1) (fun s => l.length - s.1) ((0, .e0, [])) ⟨Nat.zero_le _, outIs_e0⟩ rfl (by simp [Fits]) ?_
   rintro ⟨k, out, g⟩ j ⟨hk, ho⟩
   dsimp only at hk ho
   have o : k < l.length → CT 83 [elT (l.getD k default), opC a b, so, vaC a b] (elT (chT a b q (l.getD k default))) := fun h => ih _ (mem_getD h)
   simp -implicitDefEqProofs (disch := omega) only [go_sem, ↓reduceIte, reduceAdd, reduceSub, reduceMul, reduceLeDiff, reduceLT, reduceEqDiff, reduceNeg, Nat.reduceBEq]
   (repeat' (first | refine gT ?_ ?_ | refine gF ?_ ?_ | refine gC ?_ ?_ | ((refine c_ctrE ((o (by omega))) ?_ ?_; (focus (simp -implicitDefEqProofs (disch := omega) only [rep1t, opC, vaC, hs, avs, avb, avi, avo, sigCells, opCells, pairCells, elT, avt, termCells_eq, go_sem, ↓reduceIte, reduceAdd, reduceSub, reduceMul, reduceLeDiff, reduceLT, reduceEqDiff, reduceNeg, Nat.reduceBEq]; done))); simp -implicitDefEqProofs (disch := omega) only [rep1t, opC, vaC, hs, go_sem, ↓reduceIte, reduceAdd, reduceSub, reduceMul, reduceLeDiff, reduceLT, reduceEqDiff, reduceNeg, Nat.reduceBEq]) | refine And.intro (by omega) ?_ | (intro hr; have hc := hr; (try simp only [zda, zdb, zdc, zdd] at hc); simp -implicitDefEqProofs (disch := omega) only [hr, rep1t, opC, vaC, hs, go_sem, ↓reduceIte, reduceAdd, reduceSub, reduceMul, reduceLeDiff, reduceLT, reduceEqDiff, reduceNeg, Nat.reduceBEq]; (try clear hr))))
   · refine app_intro' (pre := []) (g := g ++ [.box false [.i .i64 (l.getD k default).kind, .i .i64 (l.getD k default).n, .s (l.getD k default).text, .s (l.getD k default).sort, .sl ((l.getD k default).kids.flatMap termCells) (l.getD k default).kids.length, .sl ((l.getD k default).rest.flatMap termCells) (l.getD k default).rest.length]]) (more := [.arr false 6 ([.i .i64 (chT a b q (l.getD k default)).kind, .i .i64 (chT a b q (l.getD k default)).n, .s (chT a b q (l.getD k default)).text, .s (chT a b q (l.getD k default)).sort, .sl ((chT a b q (l.getD k default)).kids.flatMap termCells) (chT a b q (l.getD k default)).kids.length, .sl ((chT a b q (l.getD k default)).rest.flatMap termCells) (chT a b q (l.getD k default)).rest.length])]) (news := [.i .i64 (chT a b q (l.getD k default)).kind, .i .i64 (chT a b q (l.getD k default)).n, .s (chT a b q (l.getD k default)).text, .s (chT a b q (l.getD k default)).sort, .sl ((chT a b q (l.getD k default)).kids.flatMap termCells) (chT a b q (l.getD k default)).kids.length, .sl ((chT a b q (l.getD k default)).rest.flatMap termCells) (chT a b q (l.getD k default)).rest.length]) (m := 1) ((ho).more _) rfl (by simp -implicitDefEqProofs (disch := omega) only [go_sem, ↓reduceIte, reduceAdd, reduceSub, reduceMul, reduceLeDiff, reduceLT, reduceEqDiff, reduceNeg, Nat.reduceBEq]) el28 zo30 sz30 by30 rfl (by decide) (by simp -implicitDefEqProofs (disch := omega) only [go_sem, ↓reduceIte, reduceAdd, reduceSub, reduceMul, reduceLeDiff, reduceLT, reduceEqDiff, reduceNeg, Nat.reduceBEq]) (by simp -implicitDefEqProofs (disch := omega) only [go_sem, ↓reduceIte, reduceAdd, reduceSub, reduceMul, reduceLeDiff, reduceLT, reduceEqDiff, reduceNeg, Nat.reduceBEq]) ⟨by omega, by omega⟩ ?_
     intro out' g' ho' _
     simp -implicitDefEqProofs (disch := omega) only [go_sem, ↓reduceIte, reduceAdd, reduceSub, reduceMul, reduceLeDiff, reduceLT, reduceEqDiff, reduceNeg, Nat.reduceBEq]
     refine ⟨(k + 1, out', g'), ⟨by dsimp only; omega, ?_⟩, by dsimp only; omega, rfl, by simp⟩
     dsimp only
     have hkl : k < (l.map (chT a b q)).length := by rw [List.length_map]; omega
     rw [List.map_take, take_cells hkl, termCells_eq]
     have e : (l.map (chT a b q)).getD k default = chT a b q (l.getD k default) := by simp [List.getD, show k < l.length by omega]
     rw [e]
     exact ho'
   · have h1 : k = l.length := by omega
     subst h1
     rw [List.take_of_length_le (by simp)] at ho
     have r := fin_rd (l := l.map (chT a b q)) (out_rd (by rw [List.length_map]; exact ho) rfl)
     rw [List.length_map] at r
     exact r
theorem ite_fz {c : Bool} {a d : AObj} {x y : List AV} : (if c = true then [a, .box false x, .box false y, d] else [a, .box true x, .box true y, d]) = [a, .box (!c) x, .box (!c) y, d] := by cases c <;> rfl
theorem ite_fz2 {c z : Bool} {a d : AObj} {x y : List AV} : (if c = true then [a, .box z x, .box z y, d] else [a, .box true x, .box true y, d]) = [a, .box (!c || z) x, .box (!c || z) y, d] := by cases c <;> rfl
theorem chg2 (t : LTerm) (q : Bool) (a b : Str) (ht : OkT t) (ha : a.length ≤ 1000) (hb : b.length ≤ 1000) (ck : CT 145 [avt t.kids, soC q a b, .box [opC a b] 0, .box [vaC a b] 0] (avt (t.kids.map (chT a b q)))) (cr : CT 145 [avt t.rest, soC false a b, .box [opC a b] 0, .box [vaC a b] 0] (avt (t.rest.map (chT a b false)))): CT 83 [elT t, opC a b, soC q a b, vaC a b] (elT (chT a b q t)) := by
 refine sem_introA mixed Tryz.func83 g0 ?_
 · simp -implicitDefEqProofs (disch := omega) only [Tryz.f83, go_sem, List.replicate, ↓reduceIte, reduceAdd, reduceSub, reduceMul, reduceLeDiff, reduceLT, reduceEqDiff, reduceNeg, Nat.reduceBEq, opC, vaC]
   have hx := ht.text
   have c1 := ctr373 t.text a b hx ha hb
   have c2 := ctr371 t.text a b
   have c3 : CT 81 [.s t.sort, .box [.s a] 0, .box [.s b] 0] (.s (swap t.sort a b)) := ctr371 t.sort a b
   have c4 := ctr385 t.sort
   have c5 : CT 145 [avt t.rest, .fn 146 [] [], .box [opC a b] 0, .box [vaC a b] 0] (avt (t.rest.map (chT a b false))) := cr
   rw [chT_eq]
   cases q with
   | true =>
     rw [show soC true a b = .fn 81 [] [.box [.s a] 0, .box [.s b] 0] from rfl] at *
     (repeat' (first | refine gT ?_ ?_ | refine gF ?_ ?_ | refine gC ?_ ?_ | ((first | (refine c_ctrE (c1) ?_ ?_; (focus (simp -implicitDefEqProofs (disch := omega) only [opC, vaC, ite_fz, ite_fz2, avs, avb, avi, avo, sigCells, opCells, pairCells, elT, avt, termCells_eq, go_sem, ↓reduceIte, reduceAdd, reduceSub, reduceMul, reduceLeDiff, reduceLT, reduceEqDiff, reduceNeg, Nat.reduceBEq]; done))) | (refine c_ctrE (c2) ?_ ?_; (focus (simp -implicitDefEqProofs (disch := omega) only [opC, vaC, ite_fz, ite_fz2, avs, avb, avi, avo, sigCells, opCells, pairCells, elT, avt, termCells_eq, go_sem, ↓reduceIte, reduceAdd, reduceSub, reduceMul, reduceLeDiff, reduceLT, reduceEqDiff, reduceNeg, Nat.reduceBEq]; done))) | (refine c_ctrE (c3) ?_ ?_; (focus (simp -implicitDefEqProofs (disch := omega) only [opC, vaC, ite_fz, ite_fz2, avs, avb, avi, avo, sigCells, opCells, pairCells, elT, avt, termCells_eq, go_sem, ↓reduceIte, reduceAdd, reduceSub, reduceMul, reduceLeDiff, reduceLT, reduceEqDiff, reduceNeg, Nat.reduceBEq]; done))) | (refine c_ctrE (ck) ?_ ?_; (focus (simp -implicitDefEqProofs (disch := omega) only [opC, vaC, ite_fz, ite_fz2, avs, avb, avi, avo, sigCells, opCells, pairCells, elT, avt, termCells_eq, go_sem, ↓reduceIte, reduceAdd, reduceSub, reduceMul, reduceLeDiff, reduceLT, reduceEqDiff, reduceNeg, Nat.reduceBEq]; done))) | (refine c_ctrE (c5) ?_ ?_; (focus (simp -implicitDefEqProofs (disch := omega) only [opC, vaC, ite_fz, ite_fz2, avs, avb, avi, avo, sigCells, opCells, pairCells, elT, avt, termCells_eq, go_sem, ↓reduceIte, reduceAdd, reduceSub, reduceMul, reduceLeDiff, reduceLT, reduceEqDiff, reduceNeg, Nat.reduceBEq]; done)))); simp -implicitDefEqProofs (disch := omega) only [opC, vaC, ite_fz, ite_fz2, go_sem, ↓reduceIte, reduceAdd, reduceSub, reduceMul, reduceLeDiff, reduceLT, reduceEqDiff, reduceNeg, Nat.reduceBEq]) | refine And.intro (by omega) ?_ | (intro hr; have hc := hr; (try simp only [zda, zdb, zdc, zdd] at hc); simp -implicitDefEqProofs (disch := omega) only [hr, opC, vaC, ite_fz, ite_fz2, go_sem, ↓reduceIte, reduceAdd, reduceSub, reduceMul, reduceLeDiff, reduceLT, reduceEqDiff, reduceNeg, Nat.reduceBEq]; (try clear hr))))
     all_goals clear c1 c2 c3 c4 c5 ck cr
     all_goals refine fin_eq ?_ (by simp only [pers, persL, persTs, Bool.and_self])
     all_goals simp [*]
   | false =>
     rw [show soC false a b = .fn 146 [] [] from rfl] at *
     (repeat' (first | refine gT ?_ ?_ | refine gF ?_ ?_ | refine gC ?_ ?_ | ((first | (refine c_ctrE (c1) ?_ ?_; (focus (simp -implicitDefEqProofs (disch := omega) only [opC, vaC, ite_fz, ite_fz2, avs, avb, avi, avo, sigCells, opCells, pairCells, elT, avt, termCells_eq, go_sem, ↓reduceIte, reduceAdd, reduceSub, reduceMul, reduceLeDiff, reduceLT, reduceEqDiff, reduceNeg, Nat.reduceBEq]; done))) | (refine c_ctrE (c2) ?_ ?_; (focus (simp -implicitDefEqProofs (disch := omega) only [opC, vaC, ite_fz, ite_fz2, avs, avb, avi, avo, sigCells, opCells, pairCells, elT, avt, termCells_eq, go_sem, ↓reduceIte, reduceAdd, reduceSub, reduceMul, reduceLeDiff, reduceLT, reduceEqDiff, reduceNeg, Nat.reduceBEq]; done))) | (refine c_ctrE (c4) ?_ ?_; (focus (simp -implicitDefEqProofs (disch := omega) only [opC, vaC, ite_fz, ite_fz2, avs, avb, avi, avo, sigCells, opCells, pairCells, elT, avt, termCells_eq, go_sem, ↓reduceIte, reduceAdd, reduceSub, reduceMul, reduceLeDiff, reduceLT, reduceEqDiff, reduceNeg, Nat.reduceBEq]; done))) | (refine c_ctrE (ck) ?_ ?_; (focus (simp -implicitDefEqProofs (disch := omega) only [opC, vaC, ite_fz, ite_fz2, avs, avb, avi, avo, sigCells, opCells, pairCells, elT, avt, termCells_eq, go_sem, ↓reduceIte, reduceAdd, reduceSub, reduceMul, reduceLeDiff, reduceLT, reduceEqDiff, reduceNeg, Nat.reduceBEq]; done))) | (refine c_ctrE (c5) ?_ ?_; (focus (simp -implicitDefEqProofs (disch := omega) only [opC, vaC, ite_fz, ite_fz2, avs, avb, avi, avo, sigCells, opCells, pairCells, elT, avt, termCells_eq, go_sem, ↓reduceIte, reduceAdd, reduceSub, reduceMul, reduceLeDiff, reduceLT, reduceEqDiff, reduceNeg, Nat.reduceBEq]; done)))); simp -implicitDefEqProofs (disch := omega) only [opC, vaC, ite_fz, ite_fz2, go_sem, ↓reduceIte, reduceAdd, reduceSub, reduceMul, reduceLeDiff, reduceLT, reduceEqDiff, reduceNeg, Nat.reduceBEq]) | refine And.intro (by omega) ?_ | (intro hr; have hc := hr; (try simp only [zda, zdb, zdc, zdd] at hc); simp -implicitDefEqProofs (disch := omega) only [hr, opC, vaC, ite_fz, ite_fz2, go_sem, ↓reduceIte, reduceAdd, reduceSub, reduceMul, reduceLeDiff, reduceLT, reduceEqDiff, reduceNeg, Nat.reduceBEq]; (try clear hr))))
     all_goals clear c1 c2 c3 c4 c5 ck cr
     all_goals refine fin_eq ?_ (by simp only [pers, persL, persTs, Bool.and_self])
     all_goals simp [*]
theorem chT_of {a b : Str} (ha : a.length ≤ 1000) (hb : b.length ≤ 1000) : ∀ (t : LTerm), OkT t → ∀ q, CT 83 [elT t, opC a b, soC q a b, vaC a b] (elT (chT a b q t)) :=
 term_ind fun t hk hr ht q => chg2 t q a b ht ha hb (chg1 t.kids q a b ht.kids fun x hx => hk x hx (ht.kid x hx) q) (chg1 t.rest false a b ht.rest fun x hx => hr x hx (ht.rst x hx) false)
theorem c_two {P : Program} {G : Glob} {d : Option Nat} {os : List AOper} {K : List AV → List AObj → Prop} {env : List AV} {F f g : FuncId} {T T' r : AV} {B0 B3 : AObj} {x y : List AV}
   (s : Ctr P G F [T, .fn f [] [.box x 0, .box y 0], .fn g [] [.box x 0, .box y 0], .fn g [] [.box x 0, .box y 0]] r) (hT : pers T = true) (hx : persL x = true) (hy : persL y = true) (hT' : T = T')
   (k : ∀ p q, awops P G none os K (aput env d (mat r [B0, .box p x, .box q y, B3]).1) (mat r [B0, .box p x, .box q y, B3]).2) :
   callF P G none F [T', .fn f [] [.ptr 1 0, .ptr 2 0], .fn g [] [.ptr 1 0, .ptr 2 0], .fn g [] [.ptr 1 0, .ptr 2 0]] d os K env [B0, .box false x, .box false y, B3] := by
 subst hT'
 have e0 : snap dep [B0, .box false x, .box false y, B3] T = T ∧ reach dep [B0, .box false x, .box false y, B3] T = [] := ⟨by rw [snap_dep, if_pos hT], by rw [reach_dep, if_pos hT]⟩
 have e1 := fn2 (H := [B0, .box false x, .box false y, B3]) (f := f) (j := 1) (k := 2) rfl rfl hx hy
 have e2 := fn2 (H := [B0, .box false x, .box false y, B3]) (f := g) (j := 1) (k := 2) rfl rfl hx hy
 have hA : ∃ p q, hAfter r [B0, .box false x, .box false y, B3] [T, .fn f [] [.ptr 1 0, .ptr 2 0], .fn g [] [.ptr 1 0, .ptr 2 0], .fn g [] [.ptr 1 0, .ptr 2 0]] = [B0, .box p x, .box q y, B3] := by
   unfold hAfter
   split
   · exact ⟨false, false, rfl⟩
   · refine ⟨true, true, ?_⟩
     simp only [List.flatMap_cons, List.flatMap_nil, e0.2, e1.2, e2.2]
     rfl
 obtain ⟨p, q, hA⟩ := hA
 refine c_ctrE s (by simp only [List.map_cons, List.map_nil, e0.1, e1.1, e2.1]) ?_
 rw [hA]
 exact k p q
def renameV (t : LTerm) (a b : Str) : Res := if validT nodeB t && isName a && isName b then (chT a b true t, 0) else (tZ, 2)
theorem ctr351 (t : LTerm) (a b : Str) (ht : OkT t) (ha : a.length ≤ 140737488355328) (hb : b.length ≤ 140737488355328): CT 43 [elT t, .s a, .s b] (resV (renameV t a b)) := by
 refine sem_introA mixed Tryz.func43 g0 ?_
 · generalize hR : ((resV (renameV t a b)) : AV) = R
   simp -implicitDefEqProofs (disch := omega) only [Tryz.f43, go_sem, List.replicate, ↓reduceIte, reduceAdd, reduceSub, reduceMul, reduceLeDiff, reduceLT, reduceEqDiff, reduceNeg, Nat.reduceBEq]
   have c := ctr242 t ht
   have c1 := ctr41 a ha
   have c2 := ctr41 b hb
   cases hv : validT nodeB t with
   | false =>
     rw [hv] at c
     (repeat' (first | refine gT ?_ ?_ | refine gF ?_ ?_ | refine gC ?_ ?_ | ((first | (refine c_ctrE (c) ?_ ?_; (focus (simp -implicitDefEqProofs (disch := omega) only [avs, avb, avi, avo, sigCells, opCells, pairCells, elT, avt, termCells_eq, go_sem, ↓reduceIte, reduceAdd, reduceSub, reduceMul, reduceLeDiff, reduceLT, reduceEqDiff, reduceNeg, Nat.reduceBEq]; done))) | (refine c_ctrE (c1) ?_ ?_; (focus (simp -implicitDefEqProofs (disch := omega) only [avs, avb, avi, avo, sigCells, opCells, pairCells, elT, avt, termCells_eq, go_sem, ↓reduceIte, reduceAdd, reduceSub, reduceMul, reduceLeDiff, reduceLT, reduceEqDiff, reduceNeg, Nat.reduceBEq]; done))) | (refine c_ctrE (c2) ?_ ?_; (focus (simp -implicitDefEqProofs (disch := omega) only [avs, avb, avi, avo, sigCells, opCells, pairCells, elT, avt, termCells_eq, go_sem, ↓reduceIte, reduceAdd, reduceSub, reduceMul, reduceLeDiff, reduceLT, reduceEqDiff, reduceNeg, Nat.reduceBEq]; done)))); simp -implicitDefEqProofs (disch := omega) only [go_sem, ↓reduceIte, reduceAdd, reduceSub, reduceMul, reduceLeDiff, reduceLT, reduceEqDiff, reduceNeg, Nat.reduceBEq]) | refine And.intro (by omega) ?_ | (intro hr; have hc := hr; (try simp only [zda, zdb, zdc, zdd] at hc); simp -implicitDefEqProofs (disch := omega) only [hr, go_sem, ↓reduceIte, reduceAdd, reduceSub, reduceMul, reduceLeDiff, reduceLT, reduceEqDiff, reduceNeg, Nat.reduceBEq]; (try clear hr))))
     all_goals (subst hR; exact fin_res (by rw [renameV, hv]; rfl) rd6_e0 rd6_e0)
   | true =>
     rw [hv] at c
     cases h1 : isName a with
     | false =>
       rw [h1] at c1
       (repeat' (first | refine gT ?_ ?_ | refine gF ?_ ?_ | refine gC ?_ ?_ | ((first | (refine c_ctrE (c) ?_ ?_; (focus (simp -implicitDefEqProofs (disch := omega) only [avs, avb, avi, avo, sigCells, opCells, pairCells, elT, avt, termCells_eq, go_sem, ↓reduceIte, reduceAdd, reduceSub, reduceMul, reduceLeDiff, reduceLT, reduceEqDiff, reduceNeg, Nat.reduceBEq]; done))) | (refine c_ctrE (c1) ?_ ?_; (focus (simp -implicitDefEqProofs (disch := omega) only [avs, avb, avi, avo, sigCells, opCells, pairCells, elT, avt, termCells_eq, go_sem, ↓reduceIte, reduceAdd, reduceSub, reduceMul, reduceLeDiff, reduceLT, reduceEqDiff, reduceNeg, Nat.reduceBEq]; done))) | (refine c_ctrE (c2) ?_ ?_; (focus (simp -implicitDefEqProofs (disch := omega) only [avs, avb, avi, avo, sigCells, opCells, pairCells, elT, avt, termCells_eq, go_sem, ↓reduceIte, reduceAdd, reduceSub, reduceMul, reduceLeDiff, reduceLT, reduceEqDiff, reduceNeg, Nat.reduceBEq]; done)))); simp -implicitDefEqProofs (disch := omega) only [go_sem, ↓reduceIte, reduceAdd, reduceSub, reduceMul, reduceLeDiff, reduceLT, reduceEqDiff, reduceNeg, Nat.reduceBEq]) | refine And.intro (by omega) ?_ | (intro hr; have hc := hr; (try simp only [zda, zdb, zdc, zdd] at hc); simp -implicitDefEqProofs (disch := omega) only [hr, go_sem, ↓reduceIte, reduceAdd, reduceSub, reduceMul, reduceLeDiff, reduceLT, reduceEqDiff, reduceNeg, Nat.reduceBEq]; (try clear hr))))
       all_goals (subst hR; exact fin_res (by rw [renameV, hv, h1]; rfl) rd6_e0 rd6_e0)
     | true =>
       rw [h1] at c1
       cases h2 : isName b with
       | false =>
         rw [h2] at c2
         (repeat' (first | refine gT ?_ ?_ | refine gF ?_ ?_ | refine gC ?_ ?_ | ((first | (refine c_ctrE (c) ?_ ?_; (focus (simp -implicitDefEqProofs (disch := omega) only [avs, avb, avi, avo, sigCells, opCells, pairCells, elT, avt, termCells_eq, go_sem, ↓reduceIte, reduceAdd, reduceSub, reduceMul, reduceLeDiff, reduceLT, reduceEqDiff, reduceNeg, Nat.reduceBEq]; done))) | (refine c_ctrE (c1) ?_ ?_; (focus (simp -implicitDefEqProofs (disch := omega) only [avs, avb, avi, avo, sigCells, opCells, pairCells, elT, avt, termCells_eq, go_sem, ↓reduceIte, reduceAdd, reduceSub, reduceMul, reduceLeDiff, reduceLT, reduceEqDiff, reduceNeg, Nat.reduceBEq]; done))) | (refine c_ctrE (c2) ?_ ?_; (focus (simp -implicitDefEqProofs (disch := omega) only [avs, avb, avi, avo, sigCells, opCells, pairCells, elT, avt, termCells_eq, go_sem, ↓reduceIte, reduceAdd, reduceSub, reduceMul, reduceLeDiff, reduceLT, reduceEqDiff, reduceNeg, Nat.reduceBEq]; done)))); simp -implicitDefEqProofs (disch := omega) only [go_sem, ↓reduceIte, reduceAdd, reduceSub, reduceMul, reduceLeDiff, reduceLT, reduceEqDiff, reduceNeg, Nat.reduceBEq]) | refine And.intro (by omega) ?_ | (intro hr; have hc := hr; (try simp only [zda, zdb, zdc, zdd] at hc); simp -implicitDefEqProofs (disch := omega) only [hr, go_sem, ↓reduceIte, reduceAdd, reduceSub, reduceMul, reduceLeDiff, reduceLT, reduceEqDiff, reduceNeg, Nat.reduceBEq]; (try clear hr))))
         all_goals (subst hR; exact fin_res (by rw [renameV, hv, h1, h2]; rfl) rd6_e0 rd6_e0)
       | true =>
         rw [h2] at c2
         have l1 := nameW_len h1
         have l2 := nameW_len h2
         have c3 := chT_of (a := a) (b := b) (by omega) (by omega) t ht true
         have he : renameV t a b = (chT a b true t, 0) := by rw [renameV, hv, h1, h2]; rfl
         rw [show soC true a b = vaC a b from rfl] at c3
         (repeat' (first | refine gT ?_ ?_ | refine gF ?_ ?_ | refine gC ?_ ?_ | ((first | (refine c_ctrE (c) ?_ ?_; (focus (simp -implicitDefEqProofs (disch := omega) only [opC, vaC, avs, avb, avi, avo, sigCells, opCells, pairCells, elT, avt, termCells_eq, go_sem, ↓reduceIte, reduceAdd, reduceSub, reduceMul, reduceLeDiff, reduceLT, reduceEqDiff, reduceNeg, Nat.reduceBEq]; done))) | (refine c_ctrE (c1) ?_ ?_; (focus (simp -implicitDefEqProofs (disch := omega) only [opC, vaC, avs, avb, avi, avo, sigCells, opCells, pairCells, elT, avt, termCells_eq, go_sem, ↓reduceIte, reduceAdd, reduceSub, reduceMul, reduceLeDiff, reduceLT, reduceEqDiff, reduceNeg, Nat.reduceBEq]; done))) | (refine c_ctrE (c2) ?_ ?_; (focus (simp -implicitDefEqProofs (disch := omega) only [opC, vaC, avs, avb, avi, avo, sigCells, opCells, pairCells, elT, avt, termCells_eq, go_sem, ↓reduceIte, reduceAdd, reduceSub, reduceMul, reduceLeDiff, reduceLT, reduceEqDiff, reduceNeg, Nat.reduceBEq]; done)))); simp -implicitDefEqProofs (disch := omega) only [opC, vaC, go_sem, ↓reduceIte, reduceAdd, reduceSub, reduceMul, reduceLeDiff, reduceLT, reduceEqDiff, reduceNeg, Nat.reduceBEq]) | refine And.intro (by omega) ?_ | (intro hr; have hc := hr; (try simp only [zda, zdb, zdc, zdd] at hc); simp -implicitDefEqProofs (disch := omega) only [hr, opC, vaC, go_sem, ↓reduceIte, reduceAdd, reduceSub, reduceMul, reduceLeDiff, reduceLT, reduceEqDiff, reduceNeg, Nat.reduceBEq]; (try clear hr))))
         rw [opC, vaC] at c3
         refine c_two (T := elT t) c3 (show persL (termCells t) = true from persT t) rfl rfl (by rw [elT, termCells_eq]; rfl) fun p q => ?_
         simp -implicitDefEqProofs (disch := omega) only [elT, termCells_eq, avt, go_sem, ↓reduceIte, reduceAdd, reduceSub, reduceMul, reduceLeDiff, reduceLT, reduceEqDiff, reduceNeg, Nat.reduceBEq]
         subst hR
         exact fin_resP he

theorem nodesL_map {f : LTerm → LTerm} {l : List LTerm} (h : ∀ t ∈ l, nodesT (f t) = nodesT t) : nodesL (l.map f) = nodesL l := by
 induction l with
 | nil => rfl
 | cons x l ih => rw [List.map_cons, nodesL, nodesL, h x (by simp), ih (fun t ht => h t (by simp [ht]))]
theorem highL_map {f : LTerm → LTerm} {l : List LTerm} (h : ∀ t ∈ l, highT (f t) = highT t) : highL (l.map f) = highL l := by
 induction l with
 | nil => rfl
 | cons x l ih => rw [List.map_cons, highL, highL, h x (by simp), ih (fun t ht => h t (by simp [ht]))]
theorem ch_parts {a b : Str} {q : Bool} {t : LTerm} : (chT a b q t).kids = t.kids.map (chT a b q) ∧ (chT a b q t).rest = t.rest.map (chT a b false) ∧ (chT a b q t).kind = t.kind ∧ (chT a b q t).n = t.n := by
 rw [chT_eq]; exact ⟨rfl, rfl, rfl, rfl⟩
theorem ch_nodes {a b : Str} : ∀ (t : LTerm) (q : Bool), nodesT (chT a b q t) = nodesT t :=
 term_ind fun t hk hr q => by
   obtain ⟨e1, e2, _, _⟩ := ch_parts (a := a) (b := b) (q := q) (t := t)
   rw [nodesT_eq, nodesT_eq t, e1, e2, List.length_map, nodesL_map (fun x hx => hk x hx q)]
theorem ch_high {a b : Str} : ∀ (t : LTerm) (q : Bool), highT (chT a b q t) = highT t :=
 term_ind fun t hk hr q => by
   obtain ⟨e1, e2, _, _⟩ := ch_parts (a := a) (b := b) (q := q) (t := t)
   rw [highT_eq, highT_eq t, e1, e2, List.length_map, highL_map (fun x hx => hk x hx q)]
theorem name_closed {s : Str} (h : isName s = true) : openS s = false := by
 obtain ⟨c, v, e, hc⟩ := name_first h
 have := letter_ne hc
 rw [e]
 simp only [openS, Bool.or_eq_false_iff, decide_eq_false_iff_not, List.cons.injEq, not_and]
 exact ⟨fun h => absurd h this.2.1, fun h => absurd h this.2.2⟩
theorem closed_ne {s : Str} (h : openS s = false) : ¬ s = [95] ∧ ¬ s = [36] := by simpa only [openS, Bool.or_eq_false_iff, decide_eq_false_iff_not] using h
theorem mkText {k n : Int} {x y : Str} {l r : List LTerm} : (LTerm.mk k n x y l r).text = x := rfl
theorem mkSort {k n : Int} {x y : Str} {l r : List LTerm} : (LTerm.mk k n x y l r).sort = y := rfl
theorem ch_op {a b : Str} {q : Bool} {t : LTerm} (h : t.kind = 5) : (chT a b q t).text = swapOp t.text a b ∧ (chT a b q t).sort = t.sort := by
 rw [chT_eq, mkText, mkSort, if_pos h, if_pos h]; exact ⟨rfl, rfl⟩
theorem ch_var {a b : Str} {q : Bool} {t : LTerm} (h : t.kind = 6) (ho : openS t.text = false) : (chT a b q t).text = swap t.text a b ∧ (chT a b q t).sort = if q = true then swap t.sort a b else t.sort := by
 obtain ⟨h1, h2⟩ := closed_ne ho
 have n5 : ¬ t.kind = 5 := by omega
 rw [chT_eq, mkText, mkSort]
 rw [if_neg n5, if_pos h, if_neg h1, if_neg h2, if_neg n5, if_pos h, if_neg h1, if_neg h2]
 exact ⟨rfl, rfl⟩
theorem ch_open {a b : Str} {q : Bool} {t : LTerm} (h : t.kind = 6) (ho : openS t.text = true) : (chT a b q t).text = t.text ∧ (chT a b q t).sort = t.sort := by
 have n5 : ¬ t.kind = 5 := by omega
 simp only [openS, Bool.or_eq_true, decide_eq_true_eq] at ho
 rw [chT_eq, mkText, mkSort]
 rw [if_neg n5, if_pos h, if_neg n5, if_pos h]
 rcases ho with e | e
 · rw [if_pos e, if_pos e]; exact ⟨rfl, rfl⟩
 · by_cases e2 : t.text = [95]
   · rw [if_pos e2, if_pos e2]; exact ⟨rfl, rfl⟩
   · rw [if_neg e2, if_pos e, if_neg e2, if_pos e]; exact ⟨rfl, rfl⟩
theorem ch_else {a b : Str} {q : Bool} {t : LTerm} (h : ¬ t.kind = 5) (h6 : ¬ t.kind = 6) : (chT a b q t).text = t.text ∧ (chT a b q t).sort = t.sort := by
 rw [chT_eq, mkText, mkSort]
 rw [if_neg h, if_neg h6, if_neg h, if_neg h6]
 exact ⟨rfl, rfl⟩
theorem zero_ch {x y : LTerm} {a1 a2 a3 a4 a5 : Bool} (h : zeroB x a1 a2 a3 a4 a5 = true) (hn : y.n = x.n) (ht : a2 = false → x.text = [] → y.text = []) (hs : a3 = false → x.sort = [] → y.sort = []) (hk : x.kids = [] → y.kids = []) (hr : x.rest = [] → y.rest = []) : zeroB y a1 a2 a3 a4 a5 = true := by
 simp only [zeroB, Bool.and_eq_true, Bool.or_eq_true, decide_eq_true_eq] at h ⊢
 obtain ⟨⟨⟨⟨q1, q2⟩, q3⟩, q4⟩, q5⟩ := h
 refine ⟨⟨⟨⟨?_, ?_⟩, ?_⟩, ?_⟩, ?_⟩
 · rw [hn]; exact q1
 · cases a2 with
   | true => exact .inl rfl
   | false => exact .inr (ht rfl (q2.resolve_left (by simp)))
 · cases a3 with
   | true => exact .inl rfl
   | false => exact .inr (hs rfl (q3.resolve_left (by simp)))
 · exact q4.imp id hk
 · exact q5.imp id hr
theorem oneR_ch {r : LTerm} {so a b : Str} (h : OneR r so) (ha : isName a = true) (hb : isName b = true) : OneR (chT a b false r) so ∧ chT a b false (chT a b false r) = r := by
 have ho := name_closed h.name
 obtain ⟨e1, e2⟩ := ch_var (a := a) (b := b) (q := false) h.k ho
 obtain ⟨p1, p2, p3, p4⟩ := ch_parts (a := a) (b := b) (q := false) (t := r)
 have hn := swap_name h.name ha hb
 have o1 : OneR (chT a b false r) so := ⟨by rw [p3, h.k], by rw [p4, h.n], by rw [e1]; exact hn, by rw [e2, if_neg (by simp)]; exact h.sort, by rw [p1, h.kids]; rfl, by rw [p2, h.rest]; rfl⟩
 refine ⟨o1, ?_⟩
 obtain ⟨f1, f2⟩ := ch_var (a := a) (b := b) (q := false) o1.k (name_closed o1.name)
 obtain ⟨r1, r2, r3, r4⟩ := ch_parts (a := a) (b := b) (q := false) (t := chT a b false r)
 rw [LTerm.ext_iff]
 exact ⟨by rw [r3, p3], by rw [r4, p4], by rw [f1, e1, swap_swap], by rw [f2, e2, if_neg (by simp), if_neg (by simp)], by rw [r1, p1, h.kids]; rfl, by rw [r2, p2, h.rest]; rfl⟩
theorem restB_of {t : LTerm} {so : Str} (h : t.rest = [] ∨ ∃ r, t.rest = [r] ∧ OneR r so) : restB t so = true := by
 rcases h with h | ⟨r, h, o⟩
 · simp [restB, h]
 · have e1 := o.k
   have e2 := o.name
   have e3 := o.sort
   have e4 := o.n
   have e5 := o.kids
   have e6 := o.rest
   simp [restB, h, zeroB, e1, e2, e3, e4, e5, e6]
theorem restB_ch {t : LTerm} {so a b : Str} {q : Bool} (h : restB t so = true) (ha : isName a = true) (hb : isName b = true) : restB (chT a b q t) so = true := by
 have p := (ch_parts (a := a) (b := b) (q := q) (t := t)).2.1
 rcases rest_one h with e | ⟨r, e, o⟩
 · exact restB_of (.inl (by rw [p, e]; rfl))
 · exact restB_of (.inr ⟨_, by rw [p, e]; rfl, (oneR_ch o ha hb).1⟩)
theorem nodeB_6 {t : LTerm} (h : t.kind = 6) : nodeB t = (if openS t.text = true then decide (t.sort = anyN) && zeroB t false true true false false else isName t.text && isName t.sort && zeroB t false true true false false) := by simp only [nodeB, h, Int.reduceEq, if_false, if_true]
theorem node_ch {t : LTerm} {a b : Str} (hn : nodeB t = true) (ha : isName a = true) (hb : isName b = true) : nodeB (chT a b true t) = true := by
 have hk := nodeB_k hn
 obtain ⟨p1, p2, p3, p4⟩ := ch_parts (a := a) (b := b) (q := true) (t := t)
 have mk : t.kids = [] → (chT a b true t).kids = [] := fun h => by rw [p1, h]; rfl
 have mr : t.rest = [] → (chT a b true t).rest = [] := fun h => by rw [p2, h]; rfl
 by_cases h5 : t.kind = 5
 · obtain ⟨e1, e2⟩ := ch_op (a := a) (b := b) (q := true) h5
   rw [nodeB_5 h5, Bool.and_eq_true, Bool.and_eq_true] at hn
   rw [nodeB_5 (by rw [p3]; exact h5), Bool.and_eq_true, Bool.and_eq_true]
   refine ⟨⟨?_, by rw [p1, List.length_map]; exact hn.1.2⟩, zero_ch hn.2 p4 (fun h => by cases h) (fun _ h => by rw [e2]; exact h) mk mr⟩
   rw [opName, e1]
   have := (refr (n := t.text) (swap_name hn.1.1 ha hb)).1
   unfold swapOp
   rw [this]
   exact swap_name hn.1.1 ha hb
 by_cases h6 : t.kind = 6
 · rw [nodeB_6 h6] at hn
   rw [nodeB_6 (by rw [p3]; exact h6)]
   rcases bool_em (openS t.text) with ho | ho
   · obtain ⟨e1, e2⟩ := ch_open (a := a) (b := b) (q := true) h6 ho
     rw [if_pos ho, Bool.and_eq_true] at hn
     rw [e1, if_pos ho, e2, Bool.and_eq_true]
     exact ⟨hn.1, zero_ch hn.2 p4 (fun h => by cases h) (fun h => by cases h) mk mr⟩
   · obtain ⟨e1, e2⟩ := ch_var (a := a) (b := b) (q := true) h6 ho
     rw [if_neg (by rw [ho]; simp), Bool.and_eq_true, Bool.and_eq_true] at hn
     have n1 := swap_name hn.1.1 ha hb
     have n2 := swap_name hn.1.2 ha hb
     rw [e1, if_neg (by rw [name_closed n1]; simp), e2, if_pos rfl, n1, n2]
     exact zero_ch hn.2 p4 (fun h => by cases h) (fun h => by cases h) mk mr
 obtain ⟨e1, e2⟩ := ch_else (a := a) (b := b) (q := true) h5 h6
 have z : ∀ {a1 a2 a3 a4 a5 : Bool}, zeroB t a1 a2 a3 a4 a5 = true → zeroB (chT a b true t) a1 a2 a3 a4 a5 = true := fun h => zero_ch h p4 (fun _ h => by rw [e1]; exact h) (fun _ h => by rw [e2]; exact h) mk mr
 by_cases h1 : t.kind = 1
 · rw [nodeB_1 h1, Bool.and_eq_true] at hn
   rw [nodeB_1 (by rw [p3]; exact h1), p4, Bool.and_eq_true]
   exact ⟨hn.1, z hn.2⟩
 by_cases h2 : t.kind = 2
 · rw [nodeB_2 h2, Bool.and_eq_true] at hn
   rw [nodeB_2 (by rw [p3]; exact h2), p4, Bool.and_eq_true]
   exact ⟨hn.1, z hn.2⟩
 by_cases h3 : t.kind = 3
 · rw [nodeB_3 h3, Bool.and_eq_true] at hn
   rw [nodeB_3 (by rw [p3]; exact h3), e1, Bool.and_eq_true]
   exact ⟨hn.1, z hn.2⟩
 by_cases h4 : t.kind = 4
 · rw [nodeB_4 h4, Bool.and_eq_true] at hn
   rw [nodeB_4 (by rw [p3]; exact h4), e1, Bool.and_eq_true]
   exact ⟨hn.1, z hn.2⟩
 by_cases h7 : t.kind = 7
 · rw [nodeB_7 h7, Bool.and_eq_true] at hn
   rw [nodeB_7 (by rw [p3]; exact h7), Bool.and_eq_true]
   exact ⟨restB_ch hn.1 ha hb, z hn.2⟩
 have h8 : t.kind = 8 := by omega
 rw [nodeB_8 h8, Bool.and_eq_true, Bool.and_eq_true] at hn
 rw [nodeB_8 (by rw [p3]; exact h8), Bool.and_eq_true, Bool.and_eq_true]
 exact ⟨⟨restB_ch hn.1.1 ha hb, by rw [p1, List.length_map]; exact hn.1.2⟩, z hn.2⟩
theorem map_id_on {f : LTerm → LTerm} {l : List LTerm} (h : ∀ t ∈ l, f t = t) : l.map f = l := by
 induction l with
 | nil => rfl
 | cons x l ih => rw [List.map_cons, h x (by simp), ih (fun t ht => h t (by simp [ht]))]
theorem ch_wf {a b : Str} (ha : isName a = true) (hb : isName b = true) : ∀ t : LTerm, wfT nodeB t = true → wfT nodeB (chT a b true t) = true :=
 term_ind (Q := fun t => wfT nodeB t = true → wfT nodeB (chT a b true t) = true) fun t hk _ hw => by
   rw [wfT_eq] at hw ⊢
   refine ⟨node_ch hw.1 ha hb, fun k hm => ?_⟩
   rw [ch_parts.1, List.mem_map] at hm
   obtain ⟨x, hx, rfl⟩ := hm
   exact hk x hx (hw.2 x hx)
theorem rest_back {t : LTerm} {a b : Str} (hn : nodeB t = true) (ha : isName a = true) (hb : isName b = true) : (t.rest.map (chT a b false)).map (chT a b false) = t.rest := by
 rw [List.map_map]
 have one : ∀ so, restB t so = true → t.rest.map (chT a b false ∘ chT a b false) = t.rest := fun so h => by
   rcases rest_one h with e | ⟨r, e, o⟩
   · rw [e]; rfl
   · rw [e]; show [chT a b false (chT a b false r)] = [r]; rw [(oneR_ch o ha hb).2]
 have none : t.rest = [] → t.rest.map (chT a b false ∘ chT a b false) = t.rest := fun h => by rw [h]; rfl
 have hk := nodeB_k hn
 have zr : ∀ {a1 a2 a3 a4 : Bool}, zeroB t a1 a2 a3 a4 false = true → t.rest = [] := fun h => by
   simp only [zeroB, Bool.and_eq_true, Bool.or_eq_true, decide_eq_true_eq, Bool.false_eq_true, false_or] at h
   exact h.2
 by_cases h7 : t.kind = 7
 · rw [nodeB_7 h7, Bool.and_eq_true] at hn; exact one _ hn.1
 by_cases h8 : t.kind = 8
 · rw [nodeB_8 h8, Bool.and_eq_true, Bool.and_eq_true] at hn; exact one _ hn.1.1
 refine none ?_
 by_cases h1 : t.kind = 1
 · rw [nodeB_1 h1, Bool.and_eq_true] at hn; exact zr hn.2
 by_cases h2 : t.kind = 2
 · rw [nodeB_2 h2, Bool.and_eq_true] at hn; exact zr hn.2
 by_cases h3 : t.kind = 3
 · rw [nodeB_3 h3, Bool.and_eq_true] at hn; exact zr hn.2
 by_cases h4 : t.kind = 4
 · rw [nodeB_4 h4, Bool.and_eq_true] at hn; exact zr hn.2
 by_cases h5 : t.kind = 5
 · rw [nodeB_5 h5, Bool.and_eq_true] at hn; exact zr hn.2
 have h6 : t.kind = 6 := by omega
 rw [nodeB_6 h6] at hn
 split at hn <;> rw [Bool.and_eq_true] at hn <;> exact zr hn.2
theorem ch_back {a b : Str} (ha : isName a = true) (hb : isName b = true) : ∀ t : LTerm, wfT nodeB t = true → chT a b true (chT a b true t) = t :=
 term_ind (Q := fun t => wfT nodeB t = true → chT a b true (chT a b true t) = t) fun t hk _ hw => by
   rw [wfT_eq] at hw
   obtain ⟨p1, p2, p3, p4⟩ := ch_parts (a := a) (b := b) (q := true) (t := t)
   obtain ⟨r1, r2, r3, r4⟩ := ch_parts (a := a) (b := b) (q := true) (t := chT a b true t)
   have kk : (chT a b true (chT a b true t)).kids = t.kids := by
     rw [r1, p1, List.map_map]
     exact map_id_on fun x hx => hk x hx (hw.2 x hx)
   have rr : (chT a b true (chT a b true t)).rest = t.rest := by rw [r2, p2]; exact rest_back hw.1 ha hb
   have ts : (chT a b true (chT a b true t)).text = t.text ∧ (chT a b true (chT a b true t)).sort = t.sort := by
     by_cases h5 : t.kind = 5
     · obtain ⟨e1, e2⟩ := ch_op (a := a) (b := b) (q := true) h5
       obtain ⟨f1, f2⟩ := ch_op (a := a) (b := b) (q := true) (t := chT a b true t) (by rw [p3]; exact h5)
       have hn := hw.1
       rw [nodeB_5 h5, Bool.and_eq_true, Bool.and_eq_true] at hn
       exact ⟨by rw [f1, e1]; exact swapOp_swapOp hn.1.1 ha hb, by rw [f2, e2]⟩
     by_cases h6 : t.kind = 6
     · rcases bool_em (openS t.text) with ho | ho
       · obtain ⟨e1, e2⟩ := ch_open (a := a) (b := b) (q := true) h6 ho
         obtain ⟨f1, f2⟩ := ch_open (a := a) (b := b) (q := true) (t := chT a b true t) (by rw [p3]; exact h6) (by rw [e1]; exact ho)
         exact ⟨by rw [f1, e1], by rw [f2, e2]⟩
       · obtain ⟨e1, e2⟩ := ch_var (a := a) (b := b) (q := true) h6 ho
         have hn := hw.1
         rw [nodeB_6 h6, if_neg (by rw [ho]; simp), Bool.and_eq_true, Bool.and_eq_true] at hn
         have n1 := swap_name hn.1.1 ha hb
         obtain ⟨f1, f2⟩ := ch_var (a := a) (b := b) (q := true) (t := chT a b true t) (by rw [p3]; exact h6) (by rw [e1]; exact name_closed n1)
         rw [if_pos rfl] at e2 f2
         exact ⟨by rw [f1, e1, swap_swap], by rw [f2, e2, swap_swap]⟩
     obtain ⟨e1, e2⟩ := ch_else (a := a) (b := b) (q := true) h5 h6
     obtain ⟨f1, f2⟩ := ch_else (a := a) (b := b) (q := true) (t := chT a b true t) (by rw [p3]; exact h5) (by rw [p3]; exact h6)
     exact ⟨by rw [f1, e1], by rw [f2, e2]⟩
   rw [LTerm.ext_iff]
   exact ⟨by rw [r3, p3], by rw [r4, p4], ts.1, ts.2, kk, rr⟩
theorem ch_valid {t : LTerm} {a b : Str} (hv : validT nodeB t = true) (ha : isName a = true) (hb : isName b = true) : validT nodeB (chT a b true t) = true := by
 simp only [validT, Bool.and_eq_true] at hv ⊢
 rw [ch_nodes, ch_high]
 exact ⟨⟨ch_wf ha hb t hv.1.1, hv.1.2⟩, hv.2⟩
theorem ch_ok {a b : Str} (ha : a.length ≤ 1000) (hb : b.length ≤ 1000) : ∀ (t : LTerm), OkT t → ∀ q, OkT (chT a b q t) :=
 term_ind fun t hk hr ht q => by
   obtain ⟨p1, p2, p3, p4⟩ := ch_parts (a := a) (b := b) (q := q) (t := t)
   have hx := ht.text
   have hs := ht.sort
   have l1 : (swap t.text a b).length ≤ 140737488355328 := swap_len hx (by omega) (by omega)
   have l2 : (swap t.sort a b).length ≤ 140737488355328 := swap_len hs (by omega) (by omega)
   have l3 := swapOp_len' hx ha hb
   refine .mk ?_ ?_ (by rw [p4]; exact ht.nlo) (by rw [p4]; exact ht.nhi) (by rw [p1, List.length_map]; exact ht.kids) (by rw [p2, List.length_map]; exact ht.rest) ?_ ?_
   · rw [chT_eq, mkText]; repeat' split
     all_goals assumption
   · rw [chT_eq, mkSort]; repeat' split
     all_goals assumption
   · intro k hm
     rw [p1, List.mem_map] at hm
     obtain ⟨x, hx, rfl⟩ := hm
     exact hk x hx (ht.kid x hx) q
   · intro k hm
     rw [p2, List.mem_map] at hm
     obtain ⟨x, hx, rfl⟩ := hm
     exact hr x hx (ht.rst x hx) false
theorem depthV_ok {t : LTerm} (hv : validT nodeB t = true) : depthV t = ((highT t : Int), 0) := by rw [depthV, hv]; rfl
theorem sizeV_yes {t : LTerm} (hv : validT nodeB t = true) : sizeV t = ((nodesT t : Int), 0) := by rw [sizeV, hv]; rfl
theorem ctr325 (t : LTerm) (a b : Str) (ht : OkT t) (ha : a.length ≤ 140737488355328) (hb : b.length ≤ 140737488355328): CT 11 [elT t, .s a, .s b] (.b true) := by
 refine sem_introA mixed Tryz.func11 g0 ?_
 · simp -implicitDefEqProofs (disch := omega) only [Tryz.f11, go_sem, List.replicate, ↓reduceIte, reduceAdd, reduceSub, reduceMul, reduceLeDiff, reduceLT, reduceEqDiff, reduceNeg, Nat.reduceBEq, List.flatten_cons, List.flatten_nil, List.append_nil]
   have ft := few1 t ht
   have c1 := ctr351 t a b ht ha hb
   rcases bool_em (fewP 2600 [t]) with h1 | h1
   · rw [h1] at ft
     rcases bool_em (validT nodeB t && isName a && isName b) with hw | hw
     · have he : renameV t a b = (chT a b true t, 0) := by rw [renameV, hw]; rfl
       rw [he] at c1
       simp only [Bool.and_eq_true] at hw
       obtain ⟨⟨v1, n1⟩, n2⟩ := hw
       have l1 := nameW_len n1
       have l2 := nameW_len n2
       have v2 := ch_valid v1 n1 n2
       have o2 := ch_ok (a := a) (b := b) (by omega) (by omega) t ht true
       have e2 := ch_nodes (a := a) (b := b) t true
       have e3 := ch_high (a := a) (b := b) t true
       have e4 := ch_back n1 n2 t (valid_wf v1)
       have c2 := ctr351 (chT a b true t) a b o2 ha hb
       have s1 := ctr338 (chT a b true t) o2
       have d1 := ctr340 (chT a b true t) o2
       have e5 : renameV (chT a b true t) a b = (t, 0) := by rw [renameV, v2, n1, n2, e4]; rfl
       rw [e5] at c2
       rw [sizeV_yes v2, e2] at s1
       rw [depthV_ok v2, e3] at d1
       have m1 : nodesT t ≤ 2000 := by simp only [validT, Bool.and_eq_true, decide_eq_true_eq] at v1; omega
       have m2 : highT t ≤ 60 := by simp only [validT, Bool.and_eq_true, decide_eq_true_eq] at v1; omega
       have k1 := ctr354 t ht (by omega)
       have k2 := ctr355 t ht (by omega)
       have k3 := ctr264 t t ht ht
       rw [zt rfl] at k3
       clear e2 e3 e4 e5 he
       generalize chT a b true t = r at *
       (repeat' (first | refine gT ?_ ?_ | refine gF ?_ ?_ | refine gC ?_ ?_ | ((first | (refine c_ctrE (ft) ?_ ?_; (focus (simp -implicitDefEqProofs (disch := omega) only [List.flatMap_cons, List.flatMap_nil, List.append_nil, List.length_cons, List.length_nil, rep1t, List.flatten_cons, List.flatten_nil, resV, numAV, eq_self, decide_true, avs, avb, avi, avo, sigCells, opCells, pairCells, elT, avt, termCells_eq, go_sem, ↓reduceIte, reduceAdd, reduceSub, reduceMul, reduceLeDiff, reduceLT, reduceEqDiff, reduceNeg, Nat.reduceBEq]; done))) | (refine c_ctrE (c1) ?_ ?_; (focus (simp -implicitDefEqProofs (disch := omega) only [List.flatMap_cons, List.flatMap_nil, List.append_nil, List.length_cons, List.length_nil, rep1t, List.flatten_cons, List.flatten_nil, resV, numAV, eq_self, decide_true, avs, avb, avi, avo, sigCells, opCells, pairCells, elT, avt, termCells_eq, go_sem, ↓reduceIte, reduceAdd, reduceSub, reduceMul, reduceLeDiff, reduceLT, reduceEqDiff, reduceNeg, Nat.reduceBEq]; done))) | (refine c_ctrE (c2) ?_ ?_; (focus (simp -implicitDefEqProofs (disch := omega) only [List.flatMap_cons, List.flatMap_nil, List.append_nil, List.length_cons, List.length_nil, rep1t, List.flatten_cons, List.flatten_nil, resV, numAV, eq_self, decide_true, avs, avb, avi, avo, sigCells, opCells, pairCells, elT, avt, termCells_eq, go_sem, ↓reduceIte, reduceAdd, reduceSub, reduceMul, reduceLeDiff, reduceLT, reduceEqDiff, reduceNeg, Nat.reduceBEq]; done))) | (refine c_ctrE (s1) ?_ ?_; (focus (simp -implicitDefEqProofs (disch := omega) only [List.flatMap_cons, List.flatMap_nil, List.append_nil, List.length_cons, List.length_nil, rep1t, List.flatten_cons, List.flatten_nil, resV, numAV, eq_self, decide_true, avs, avb, avi, avo, sigCells, opCells, pairCells, elT, avt, termCells_eq, go_sem, ↓reduceIte, reduceAdd, reduceSub, reduceMul, reduceLeDiff, reduceLT, reduceEqDiff, reduceNeg, Nat.reduceBEq]; done))) | (refine c_ctrE (d1) ?_ ?_; (focus (simp -implicitDefEqProofs (disch := omega) only [List.flatMap_cons, List.flatMap_nil, List.append_nil, List.length_cons, List.length_nil, rep1t, List.flatten_cons, List.flatten_nil, resV, numAV, eq_self, decide_true, avs, avb, avi, avo, sigCells, opCells, pairCells, elT, avt, termCells_eq, go_sem, ↓reduceIte, reduceAdd, reduceSub, reduceMul, reduceLeDiff, reduceLT, reduceEqDiff, reduceNeg, Nat.reduceBEq]; done))) | (refine c_ctrE (k1) ?_ ?_; (focus (simp -implicitDefEqProofs (disch := omega) only [List.flatMap_cons, List.flatMap_nil, List.append_nil, List.length_cons, List.length_nil, rep1t, List.flatten_cons, List.flatten_nil, resV, numAV, eq_self, decide_true, avs, avb, avi, avo, sigCells, opCells, pairCells, elT, avt, termCells_eq, go_sem, ↓reduceIte, reduceAdd, reduceSub, reduceMul, reduceLeDiff, reduceLT, reduceEqDiff, reduceNeg, Nat.reduceBEq]; done))) | (refine c_ctrE (k2) ?_ ?_; (focus (simp -implicitDefEqProofs (disch := omega) only [List.flatMap_cons, List.flatMap_nil, List.append_nil, List.length_cons, List.length_nil, rep1t, List.flatten_cons, List.flatten_nil, resV, numAV, eq_self, decide_true, avs, avb, avi, avo, sigCells, opCells, pairCells, elT, avt, termCells_eq, go_sem, ↓reduceIte, reduceAdd, reduceSub, reduceMul, reduceLeDiff, reduceLT, reduceEqDiff, reduceNeg, Nat.reduceBEq]; done))) | (refine c_ctrE (k3) ?_ ?_; (focus (simp -implicitDefEqProofs (disch := omega) only [List.flatMap_cons, List.flatMap_nil, List.append_nil, List.length_cons, List.length_nil, rep1t, List.flatten_cons, List.flatten_nil, resV, numAV, eq_self, decide_true, avs, avb, avi, avo, sigCells, opCells, pairCells, elT, avt, termCells_eq, go_sem, ↓reduceIte, reduceAdd, reduceSub, reduceMul, reduceLeDiff, reduceLT, reduceEqDiff, reduceNeg, Nat.reduceBEq]; done))) | (refine c_ctrE (ctr328) ?_ ?_; (focus (simp -implicitDefEqProofs (disch := omega) only [List.flatMap_cons, List.flatMap_nil, List.append_nil, List.length_cons, List.length_nil, rep1t, List.flatten_cons, List.flatten_nil, resV, numAV, eq_self, decide_true, avs, avb, avi, avo, sigCells, opCells, pairCells, elT, avt, termCells_eq, go_sem, ↓reduceIte, reduceAdd, reduceSub, reduceMul, reduceLeDiff, reduceLT, reduceEqDiff, reduceNeg, Nat.reduceBEq]; done)))); simp -implicitDefEqProofs (disch := omega) only [List.flatMap_cons, List.flatMap_nil, List.append_nil, List.length_cons, List.length_nil, rep1t, List.flatten_cons, List.flatten_nil, resV, numAV, eq_self, decide_true, go_sem, ↓reduceIte, reduceAdd, reduceSub, reduceMul, reduceLeDiff, reduceLT, reduceEqDiff, reduceNeg, Nat.reduceBEq]) | refine And.intro (by omega) ?_ | (intro hr; have hc := hr; (try simp only [zda, zdb, zdc, zdd] at hc); simp -implicitDefEqProofs (disch := omega) only [hr, List.flatMap_cons, List.flatMap_nil, List.append_nil, List.length_cons, List.length_nil, rep1t, List.flatten_cons, List.flatten_nil, resV, numAV, eq_self, decide_true, go_sem, ↓reduceIte, reduceAdd, reduceSub, reduceMul, reduceLeDiff, reduceLT, reduceEqDiff, reduceNeg, Nat.reduceBEq]; (try clear hr))))
       all_goals exact fin_eq rfl rfl
     · have he : renameV t a b = (tZ, 2) := by rw [renameV, hw]; rfl
       rw [he] at c1
       (repeat' (first | refine gT ?_ ?_ | refine gF ?_ ?_ | refine gC ?_ ?_ | ((first | (refine c_ctrE (ft) ?_ ?_; (focus (simp -implicitDefEqProofs (disch := omega) only [List.flatMap_cons, List.flatMap_nil, List.append_nil, List.length_cons, List.length_nil, rep1t, List.flatten_cons, List.flatten_nil, resV, eq_self, decide_true, avs, avb, avi, avo, sigCells, opCells, pairCells, elT, avt, termCells_eq, go_sem, ↓reduceIte, reduceAdd, reduceSub, reduceMul, reduceLeDiff, reduceLT, reduceEqDiff, reduceNeg, Nat.reduceBEq]; done))) | (refine c_ctrE (c1) ?_ ?_; (focus (simp -implicitDefEqProofs (disch := omega) only [List.flatMap_cons, List.flatMap_nil, List.append_nil, List.length_cons, List.length_nil, rep1t, List.flatten_cons, List.flatten_nil, resV, eq_self, decide_true, avs, avb, avi, avo, sigCells, opCells, pairCells, elT, avt, termCells_eq, go_sem, ↓reduceIte, reduceAdd, reduceSub, reduceMul, reduceLeDiff, reduceLT, reduceEqDiff, reduceNeg, Nat.reduceBEq]; done))) | (refine c_ctrE (ctr328) ?_ ?_; (focus (simp -implicitDefEqProofs (disch := omega) only [List.flatMap_cons, List.flatMap_nil, List.append_nil, List.length_cons, List.length_nil, rep1t, List.flatten_cons, List.flatten_nil, resV, eq_self, decide_true, avs, avb, avi, avo, sigCells, opCells, pairCells, elT, avt, termCells_eq, go_sem, ↓reduceIte, reduceAdd, reduceSub, reduceMul, reduceLeDiff, reduceLT, reduceEqDiff, reduceNeg, Nat.reduceBEq]; done)))); simp -implicitDefEqProofs (disch := omega) only [List.flatMap_cons, List.flatMap_nil, List.append_nil, List.length_cons, List.length_nil, rep1t, List.flatten_cons, List.flatten_nil, resV, eq_self, decide_true, go_sem, ↓reduceIte, reduceAdd, reduceSub, reduceMul, reduceLeDiff, reduceLT, reduceEqDiff, reduceNeg, Nat.reduceBEq]) | refine And.intro (by omega) ?_ | (intro hr; have hc := hr; (try simp only [zda, zdb, zdc, zdd] at hc); simp -implicitDefEqProofs (disch := omega) only [hr, List.flatMap_cons, List.flatMap_nil, List.append_nil, List.length_cons, List.length_nil, rep1t, List.flatten_cons, List.flatten_nil, resV, eq_self, decide_true, go_sem, ↓reduceIte, reduceAdd, reduceSub, reduceMul, reduceLeDiff, reduceLT, reduceEqDiff, reduceNeg, Nat.reduceBEq]; (try clear hr))))
       all_goals exact fin_eq rfl rfl
   · rw [h1] at ft
     (repeat' (first | refine gT ?_ ?_ | refine gF ?_ ?_ | refine gC ?_ ?_ | ((first | (refine c_ctrE (ft) ?_ ?_; (focus (simp -implicitDefEqProofs (disch := omega) only [List.flatMap_cons, List.flatMap_nil, List.append_nil, List.length_cons, List.length_nil, rep1t, List.flatten_cons, List.flatten_nil, avs, avb, avi, avo, sigCells, opCells, pairCells, elT, avt, termCells_eq, go_sem, ↓reduceIte, reduceAdd, reduceSub, reduceMul, reduceLeDiff, reduceLT, reduceEqDiff, reduceNeg, Nat.reduceBEq]; done))) | (refine c_ctrE (ctr328) ?_ ?_; (focus (simp -implicitDefEqProofs (disch := omega) only [List.flatMap_cons, List.flatMap_nil, List.append_nil, List.length_cons, List.length_nil, rep1t, List.flatten_cons, List.flatten_nil, avs, avb, avi, avo, sigCells, opCells, pairCells, elT, avt, termCells_eq, go_sem, ↓reduceIte, reduceAdd, reduceSub, reduceMul, reduceLeDiff, reduceLT, reduceEqDiff, reduceNeg, Nat.reduceBEq]; done)))); simp -implicitDefEqProofs (disch := omega) only [List.flatMap_cons, List.flatMap_nil, List.append_nil, List.length_cons, List.length_nil, rep1t, List.flatten_cons, List.flatten_nil, go_sem, ↓reduceIte, reduceAdd, reduceSub, reduceMul, reduceLeDiff, reduceLT, reduceEqDiff, reduceNeg, Nat.reduceBEq]) | refine And.intro (by omega) ?_ | (intro hr; have hc := hr; (try simp only [zda, zdb, zdc, zdd] at hc); simp -implicitDefEqProofs (disch := omega) only [hr, List.flatMap_cons, List.flatMap_nil, List.append_nil, List.length_cons, List.length_nil, rep1t, List.flatten_cons, List.flatten_nil, go_sem, ↓reduceIte, reduceAdd, reduceSub, reduceMul, reduceLeDiff, reduceLT, reduceEqDiff, reduceNeg, Nat.reduceBEq]; (try clear hr))))
     all_goals exact fin_eq rfl rfl
end Go.Proofs.YtnjnjdebgkjfhaaGreatDoor

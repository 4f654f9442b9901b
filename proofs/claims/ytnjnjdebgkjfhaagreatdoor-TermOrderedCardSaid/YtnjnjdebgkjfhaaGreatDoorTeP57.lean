/-
  What functions of the chapter return, as plain functions of what they are given; no condition beyond those that each theorem names.
-/
import Derived.Test.YtnjnjdebgkjfhaaGreatDoorTeP55
set_option maxRecDepth 100000
set_option linter.unusedSimpArgs false
set_option linter.unusedVariables false
set_option maxHeartbeats 4000000
namespace Go.Proofs.YtnjnjdebgkjfhaaGreatDoor
open Go Go.Vo
open Nat (reduceAdd reduceSub reduceMul reduceLeDiff reduceLT reduceEqDiff)
open Int (reduceNeg)

abbrev neq : Str := [101, 113]
abbrev Res := LTerm × Int
def resV (p : Res) : AV := resT p.1 p.2
attribute [go_sem] resV

theorem neT_3 : (28 : Nat) ≠ 3 := by decide
theorem capT {h : List AObj} : abuiltin Tryz.prog h .cap #[28] [.e0] = some (.i .i64 0, h) := cap_e0 un28
theorem appZT {dr : Option Nat} {d : Option Nat} {os : List AOper} {K : List AV → List AObj → Prop} {env : List AV} {h : List AObj} {s x : Operand} : runOp Tryz.prog G0 dr (.call ⟨.builtin .append, #[s, x], #[28, 3]⟩) d os K env h = zerosC Tryz.prog G0 dr (Tryz.prog.underlying 3) (azeros Tryz.prog h 28 (aev G0 env s) (aev G0 env x)) d os K env := r_appendZ neT_3
attribute [go_sem] capT
attribute [go_sem ↓] appZT
theorem ctr286 (n : Nat) (hn : n ≤ 1000000): CT 192 [.e0, .i .i64 n] (.own 6 [] 0) := by
 refine sem_intro (rx := false) (th := fun _ => none) mixed Tryz.func192 rfl (by kernel_rfl) (by kernel_rfl) (ac := ?_) ?_ g0 ?_
 rotate_left
 · simp only [strip, splitQ, stripOps, stripOp, hoist, List.filter_cons, List.filter_nil, List.nil_append, List.cons_append, isFree, anyPre, Region.binds, Bool.not_true, Bool.not_false, Bool.false_eq_true, if_true, if_false, Option.isNone_none, Option.isNone_some, Bool.true_and, Bool.false_and, List.map_nil, List.map_cons, List.isEmpty_nil, List.isEmpty_cons, List.append_nil]
   rfl
 · simp -implicitDefEqProofs (disch := omega) only [Tryz.f192, go_sem, List.replicate, simprocAttr]
   (repeat' (first | refine gT ?_ ?_ | refine gF ?_ ?_ | refine gC ?_ ?_ | refine And.intro (by omega) ?_ | (intro hr; have hc := hr; (try simp only [zda, zdb, zdc, zdd] at hc); simp -implicitDefEqProofs (disch := omega) only [hr, go_sem, simprocAttr]; (try clear hr))))
   · exfalso; omega
   · rw [if_pos (by omega), if_neg (by omega)]
     simp -implicitDefEqProofs (disch := omega) only [go_sem, simprocAttr]
     refine ⟨by simp [List.length_flatten], ?_⟩
     exact .inr ⟨⟨rfl, rfl, _, rfl, by simp, by simp, rfl⟩, by simp [finIds], by simp [finIds, finRch]⟩
   · exact .inr ⟨⟨rfl, rfl⟩, by simp [finIds], by simp [finIds]⟩
theorem map_avt_get {l : List (List LTerm)} {k : Nat} (h : k < l.length) : (l.map avt)[k]? = some (avt (l.getD k [])) := by simp [h]
theorem persL_avts {l : List (List LTerm)} : persL (l.map avt) = true := by
 induction l with
 | nil => rfl
 | cons x l ih => simp [persL, ih, pers_avt]
attribute [go_sem] map_avt_get persL_avts
def sumT (l : List (List LTerm)) : Nat := l.flatten.length
@[simp] theorem sumT_nil : sumT [] = 0 := rfl
theorem sumT_succ {l : List (List LTerm)} {k : Nat} (h : k < l.length) : sumT (l.take (k + 1)) = sumT (l.take k) + (l.getD k []).length := by
 rw [take_getD (d := []) h]; simp [sumT]
theorem sumT_le {l : List (List LTerm)} {k : Nat} : sumT (l.take k) ≤ sumT l := by
 have h : (l.take k ++ l.drop k).flatten.length = l.flatten.length := by rw [List.take_append_drop]
 unfold sumT
 rw [List.flatten_append, List.length_append] at h
 omega
theorem sumT_at {l : List (List LTerm)} {k : Nat} (h : k < l.length) : sumT (l.take k) + (l.getD k []).length ≤ sumT l := by
 rw [← sumT_succ h]; exact sumT_le
theorem ctr268 (l : List (List LTerm)) (hl : l.length ≤ 1000) (hs : sumT l ≤ 1000000): CT 131 [.sl (l.map avt) l.length] (avt l.flatten) := by
 refine sem_intro (rx := false) (th := fun _ => none) mixed Tryz.func131 rfl (by kernel_rfl) (by kernel_rfl) (ac := ?_) ?_ g0 ?_
 rotate_left
 · simp only [strip, splitQ, stripOps, stripOp, hoist, List.filter_cons, List.filter_nil, List.nil_append, List.cons_append, isFree, anyPre, Region.binds, Bool.not_true, Bool.not_false, Bool.false_eq_true, if_true, if_false, Option.isNone_none, Option.isNone_some, Bool.true_and, Bool.false_and, List.map_nil, List.map_cons, List.isEmpty_nil, List.isEmpty_cons, List.append_nil]
   rfl
 · simp -implicitDefEqProofs (disch := omega) only [Tryz.f131, go_sem, List.replicate, simprocAttr]
   refine x_loopJ (fun (k : Nat) => [.k, .k, .k, .v (.i .i64 (sumT (l.take k) : Nat)), .k, .j, .k, .k, .k, .k, .k, .v (.i .i64 k), .j, .j, .j, .j, .j, .j, .j, .j, .j, .j, .j, .k, .k, .k, .k, .k, .k, .k, .k, .k, .k, .k, .k, .k]) (fun k => []) (fun k => k ≤ l.length) (fun k => l.length - k) (0) (Nat.zero_le _) rfl (by simp [Fits]) ?_
   rintro k j hk
   have hat : k < l.length → sumT (l.take k) + (l.getD k []).length ≤ sumT l := sumT_at
   have hkk := sumT_le (l := l) (k := k)
   simp -implicitDefEqProofs (disch := omega) only [go_sem, simprocAttr]
   (repeat' (first | refine gT ?_ ?_ | refine gF ?_ ?_ | refine gC ?_ ?_ | refine And.intro (by omega) ?_ | (intro hr; have hc := hr; (try simp only [zda, zdb, zdc, zdd] at hc); simp -implicitDefEqProofs (disch := omega) only [hr, go_sem, simprocAttr]; (try clear hr))))
   · exfalso; omega
   · refine ⟨k + 1, by omega, by omega, ?_, by simp⟩
     rw [sumT_succ (by omega)]; simp
   · have h1 : k = l.length := by omega
     subst h1
     refine c_ctr0 (ctr286 (sumT l) (by omega)) (by simp -implicitDefEqProofs (disch := omega) only [snap0, go_sem, simprocAttr]) ?_
     simp -implicitDefEqProofs (disch := omega) only [go_sem, simprocAttr]
     refine x_loopJ (fun (t : Nat × AV × List AObj) => [.k, .k, .k, .k, .k, .k, .v (t.2.1), .k, .j, .k, .k, .k, .k, .k, .k, .k, .k, .k, .k, .k, .k, .k, .k, .k, .k, .k, .k, .v (.i .i64 (t.1 : Nat)), .j, .j, .j, .j, .j, .j, .j, .k]) (fun t => t.2.2) (fun t => t.1 ≤ l.length ∧ OutIs 6 0 t.2.2 t.2.1 ((l.take t.1).flatten.flatMap termCells) (sumT (l.take t.1))) (fun t => l.length - t.1) ((0, .hs 0 0 0 false, [.arr false 6 []])) ⟨Nat.zero_le _, .inr ⟨0, rfl, rfl, rfl⟩⟩ rfl (by simp [Fits]) ?_
     rintro ⟨k, out, g⟩ j ⟨hk, ho⟩
     dsimp only at hk ho
     have hat : k < l.length → sumT (l.take k) + (l.getD k []).length ≤ sumT l := sumT_at
     simp -implicitDefEqProofs (disch := omega) only [go_sem, simprocAttr]
     (repeat' (first | refine gT ?_ ?_ | refine gF ?_ ?_ | refine gC ?_ ?_ | refine And.intro (by omega) ?_ | (intro hr; have hc := hr; (try simp only [zda, zdb, zdc, zdd] at hc); simp -implicitDefEqProofs (disch := omega) only [hr, go_sem, simprocAttr]; (try clear hr))))
     · refine app_intro' (more := []) (pre := []) (news := (l.getD k []).flatMap termCells) (m := (l.getD k []).length) ho rfl (by simp) el28 zo30 sz30 by30 rfl (by decide) (by simp -implicitDefEqProofs (disch := omega) only [go_sem, simprocAttr]) (by simp -implicitDefEqProofs (disch := omega) only [go_sem, simprocAttr]) ⟨by omega, by omega⟩ ?_
       intro out' g' ho' _
       simp -implicitDefEqProofs (disch := omega) only [go_sem, simprocAttr]
       refine ⟨(k + 1, out', g'), ⟨by omega, ?_⟩, by simp; omega, rfl, by simp⟩
       dsimp only
       rw [sumT_succ (by omega), take_getD (d := []) (by omega), List.flatten_append, List.flatMap_append]
       simpa using ho'
     · have h1 : k = l.length := by omega
       subst h1
       rw [List.take_length] at ho
       exact fin_rd (out_rd ho rfl)
end Go.Proofs.YtnjnjdebgkjfhaaGreatDoor

/-
  What functions of the chapter return, as plain functions of what they are given; no condition beyond those that each theorem names.
-/
import Derived.Test.YtnjnjdebgkjfhaaGreatDoorTeP51
import Derived.Test.YtnjnjdebgkjfhaaGreatDoorSoP52
import Derived.Sort.Walk0
set_option maxRecDepth 100000
set_option linter.unusedSimpArgs false
set_option linter.unusedVariables false
set_option maxHeartbeats 4000000
namespace Go.Proofs.YtnjnjdebgkjfhaaGreatDoor
open Go Go.Vo
open Nat (reduceAdd reduceSub reduceMul reduceLeDiff reduceLT reduceEqDiff)
open Int (reduceNeg)

theorem mode_gc : (Region.Mode.any == Region.Mode.gc) = false := rfl
theorem mode_text : (Region.Mode.any == Region.Mode.text) = false := rfl
inductive OkT : LTerm → Prop
 | mk {t : LTerm} : t.text.length ≤ 140737488355328 → t.sort.length ≤ 140737488355328 → -9223372036854775808 ≤ t.n → t.n ≤ 9223372036854775807 → t.kids.length ≤ 1466015503701 → t.rest.length ≤ 1466015503701 → (∀ k ∈ t.kids, OkT k) → (∀ k ∈ t.rest, OkT k) → OkT t
section
variable {t : LTerm} (h : OkT t)
include h
theorem OkT.text : t.text.length ≤ 140737488355328 := by cases h; assumption
theorem OkT.sort : t.sort.length ≤ 140737488355328 := by cases h; assumption
theorem OkT.kids : t.kids.length ≤ 1466015503701 := by cases h; assumption
theorem OkT.rest : t.rest.length ≤ 1466015503701 := by cases h; assumption
theorem OkT.kid : ∀ k ∈ t.kids, OkT k := by cases h; assumption
theorem OkT.rst : ∀ k ∈ t.rest, OkT k := by cases h; assumption
end
abbrev tInt (n : Int) : LTerm := .mk 1 n [] [] [] []
def elT (t : LTerm) : AV := .agg (termCells t)
def resT (t : LTerm) (e : Int) : AV := .tup [.agg (termCells t), .i .i64 e]
section
variable (k n : Int) (t s : Str) (ks rs : List LTerm)
theorem kind_mk : (LTerm.mk k n t s ks rs).kind = k := rfl
theorem n_mk : (LTerm.mk k n t s ks rs).n = n := rfl
theorem text_mk : (LTerm.mk k n t s ks rs).text = t := rfl
theorem sort_mk : (LTerm.mk k n t s ks rs).sort = s := rfl
theorem kids_mk : (LTerm.mk k n t s ks rs).kids = ks := rfl
theorem rest_mk : (LTerm.mk k n t s ks rs).rest = rs := rfl
end
theorem i2ne0 : ((2 : Int) = 0) = False := by decide
attribute [go_sem] i2ne0 ite_self elT resT kind_mk n_mk text_mk sort_mk kids_mk rest_mk
theorem cF {P : Program} {G : Glob} {dr : Option Nat} {d : Option Nat} {os : List AOper} {K : List AV → List AObj → Prop} {env : List AV} {h : List AObj} {f : FuncId} {A A' : List AV} {r : AV} (s : Ctr P G f A' r)
 (k : awops P G dr os K (aput env d (mat r (hAfter r h A)).1) (mat r (hAfter r h A)).2) (hA : A.map (snap dep h) = A' := by (simp -implicitDefEqProofs (disch := omega) only [avs, avb, avi, avo, sigCells, opCells, pairCells, elT, avt, termCells_eq, go_sem, ↓reduceIte, reduceAdd, reduceSub, reduceMul, reduceLeDiff, reduceLT, reduceEqDiff, reduceNeg, Nat.reduceBEq]; done)) : callF P G dr f A d os K env h := c_ctrE s hA k
def Rd6 (H : List AObj) (v : AV) (l : List LTerm) : Prop := (v = .e0 ∧ l = []) ∨ v = avt l ∨ ∃ i off fz t cells, v = .hs i off l.length t ∧ H[i]? = some (.arr fz 6 cells) ∧ off + l.length * 6 ≤ cells.length ∧ (cells.drop off).take (l.length * 6) = l.flatMap termCells
theorem rd6_snap {H : List AObj} {v : AV} {l : List LTerm} (h : Rd6 H v l) : avt l = snap dep H v := by
 rcases h with ⟨rfl, rfl⟩ | rfl | ⟨i, off, fz, t, cells, rfl, h1, h2, h3⟩
 · rfl
 · simp only [snap_dep, pers_avt, if_true]
 · simp only [snap_dep, pers, snapS, h1, h3, persTs, if_true, Bool.false_eq_true, if_false, if_pos h2]
   rfl
theorem rd6_fin {H : List AObj} {v : AV} {l : List LTerm} (h : Rd6 H v l) : finOK H v (avt l) ∧ finIds v (avt l) = [] := by
 have h0 := rd6_snap h
 rcases h with ⟨rfl, rfl⟩ | rfl | ⟨i, off, fz, t, cells, rfl, h1, h2, h3⟩
 · exact ⟨h0, rfl⟩
 · exact ⟨h0, rfl⟩
 · exact ⟨h0, rfl⟩
def isKey (t : LTerm) : Bool := decide (t.kind = 1) || decide (t.kind = 3) || decide (t.kind = 4)
theorem ctr259 (t : LTerm): CT 183 [elT t] (.b (isKey t)) := by
 refine sem_intro (rx := false) (th := fun _ => none) mixed Tryz.func183 rfl (by kernel_rfl) (by kernel_rfl) (ac := ?_) ?_ g0 ?_
 rotate_left
 · simp only [strip, splitQ, stripOps, stripOp, hoist, List.filter_cons, List.filter_nil, List.nil_append, List.cons_append, isFree, anyPre, Region.binds, Bool.not_true, Bool.not_false, Bool.false_eq_true, if_true, if_false, Option.isNone_none, Option.isNone_some, Bool.true_and, Bool.false_and, List.map_nil, List.map_cons, List.isEmpty_nil, List.isEmpty_cons, List.append_nil]
   rfl
 · simp -implicitDefEqProofs (disch := omega) only [Tryz.f183, go_sem, List.replicate, simprocAttr]
   (repeat' (first | refine gT ?_ ?_ | refine gF ?_ ?_ | refine gC ?_ ?_ | refine And.intro (by omega) ?_ | (intro hr; have hc := hr; (try simp only [zda, zdb, zdc, zdd] at hc); simp -implicitDefEqProofs (disch := omega) only [hr, go_sem, simprocAttr]; (try clear hr))))
   all_goals (refine fin_eq ?_ rfl; simp_all [isKey])
def isInt (n : Int) : Bool := decide (-2147483647 ≤ n) && decide (n ≤ 2147483647)
theorem ctr288 (n : Int): CT 152 [.i .i64 n] (.b (isInt n)) := by
 refine sem_intro (rx := false) (th := fun _ => none) mixed Tryz.func152 rfl (by kernel_rfl) (by kernel_rfl) (ac := ?_) ?_ g0 ?_
 rotate_left
 · simp only [strip, splitQ, stripOps, stripOp, hoist, List.filter_cons, List.filter_nil, List.nil_append, List.cons_append, isFree, anyPre, Region.binds, Bool.not_true, Bool.not_false, Bool.false_eq_true, if_true, if_false, Option.isNone_none, Option.isNone_some, Bool.true_and, Bool.false_and, List.map_nil, List.map_cons, List.isEmpty_nil, List.isEmpty_cons, List.append_nil]
   rfl
 · simp -implicitDefEqProofs (disch := omega) only [Tryz.f152, go_sem, List.replicate, simprocAttr]
   (repeat' (first | refine gT ?_ ?_ | refine gF ?_ ?_ | refine gC ?_ ?_ | refine And.intro (by omega) ?_ | (intro hr; have hc := hr; (try simp only [zda, zdb, zdc, zdd] at hc); simp -implicitDefEqProofs (disch := omega) only [hr, go_sem, simprocAttr]; (try clear hr))))
   all_goals (refine fin_eq ?_ rfl; simp_all [isInt] <;> omega)
def cmpN (a b : Int) : Int := if a < b then -1 else if b < a then 1 else 0
theorem gt_of_not {a b : Str} (h1 : ¬ a < b) (h2 : ¬ a = b) : b < a := by
 rcases List.le_iff_lt_or_eq.1 (List.not_lt.1 h1) with h | h
 · exact h
 · exact absurd h.symm h2
def cmpT (a b : Str) : Int := if a < b then -1 else if b < a then 1 else 0
theorem cmpT_lt {a b : Str} (h : a < b) : cmpT a b = -1 := if_pos h
theorem cmpT_gt {a b : Str} (h1 : ¬ a < b) (h2 : ¬ a = b) : cmpT a b = 1 := by rw [cmpT, if_neg h1, if_pos (gt_of_not h1 h2)]
theorem cmpT_eq {a b : Str} (h : a = b) : cmpT a b = 0 := by subst h; have : ¬ a < a := List.lt_irrefl a; simp only [cmpT, if_neg this]
theorem ctr301 (a : Int): CT 190 [.i .i64 a] (.b false) := by
 refine sem_intro (rx := false) (th := fun _ => none) mixed Tryz.func190 rfl (by kernel_rfl) (by kernel_rfl) (ac := ?_) ?_ g0 ?_
 rotate_left
 · simp only [strip, splitQ, stripOps, stripOp, hoist, List.filter_cons, List.filter_nil, List.nil_append, List.cons_append, isFree, anyPre, Region.binds, Bool.not_true, Bool.not_false, Bool.false_eq_true, if_true, if_false, Option.isNone_none, Option.isNone_some, Bool.true_and, Bool.false_and, List.map_nil, List.map_cons, List.isEmpty_nil, List.isEmpty_cons, List.append_nil]
   rfl
 · simp -implicitDefEqProofs (disch := omega) only [Tryz.f190, go_sem, List.replicate, simprocAttr]
   (repeat' (first | refine gT ?_ ?_ | refine gF ?_ ?_ | refine gC ?_ ?_ | refine And.intro (by omega) ?_ | (intro hr; have hc := hr; (try simp only [zda, zdb, zdc, zdd] at hc); simp -implicitDefEqProofs (disch := omega) only [hr, go_sem, simprocAttr]; (try clear hr))))
   all_goals (refine fin_eq ?_ rfl; simp_all)
theorem ctr300 (a : Int): CT 189 [.i .i64 a] (.b false) := by
 refine sem_intro (rx := false) (th := fun _ => none) mixed Tryz.func189 rfl (by kernel_rfl) (by kernel_rfl) (ac := ?_) ?_ g0 ?_
 rotate_left
 · simp only [strip, splitQ, stripOps, stripOp, hoist, List.filter_cons, List.filter_nil, List.nil_append, List.cons_append, isFree, anyPre, Region.binds, Bool.not_true, Bool.not_false, Bool.false_eq_true, if_true, if_false, Option.isNone_none, Option.isNone_some, Bool.true_and, Bool.false_and, List.map_nil, List.map_cons, List.isEmpty_nil, List.isEmpty_cons, List.append_nil]
   rfl
 · simp -implicitDefEqProofs (disch := omega) only [Tryz.f189, go_sem, List.replicate, simprocAttr]
   (repeat' (first | refine gT ?_ ?_ | refine gF ?_ ?_ | refine gC ?_ ?_ | refine And.intro (by omega) ?_ | (intro hr; have hc := hr; (try simp only [zda, zdb, zdc, zdd] at hc); simp -implicitDefEqProofs (disch := omega) only [hr, go_sem, simprocAttr]; (try clear hr))))
   all_goals (refine fin_eq ?_ rfl; simp_all)
theorem ctr167 (a : Str): CT 191 [.s a] (.b false) := by
 refine sem_intro (rx := false) (th := fun _ => none) mixed Tryz.func191 rfl (by kernel_rfl) (by kernel_rfl) (ac := ?_) ?_ g0 ?_
 rotate_left
 · simp only [strip, splitQ, stripOps, stripOp, hoist, List.filter_cons, List.filter_nil, List.nil_append, List.cons_append, isFree, anyPre, Region.binds, Bool.not_true, Bool.not_false, Bool.false_eq_true, if_true, if_false, Option.isNone_none, Option.isNone_some, Bool.true_and, Bool.false_and, List.map_nil, List.map_cons, List.isEmpty_nil, List.isEmpty_cons, List.append_nil]
   rfl
 · simp -implicitDefEqProofs (disch := omega) only [Tryz.f191, go_sem, List.replicate, simprocAttr]
   (repeat' (first | refine gT ?_ ?_ | refine gF ?_ ?_ | refine gC ?_ ?_ | refine And.intro (by omega) ?_ | (intro hr; have hc := hr; (try simp only [zda, zdb, zdc, zdd] at hc); simp -implicitDefEqProofs (disch := omega) only [hr, go_sem, simprocAttr]; (try clear hr))))
   all_goals (refine fin_eq ?_ rfl; simp_all)
theorem ctr282 (a b : Int): CT 125 [.i .i64 a, .i .i64 b] (.i .i64 (cmpN a b)) := by
 refine sem_intro (rx := false) (th := fun _ => none) mixed Tryz.func125 rfl (by kernel_rfl) (by kernel_rfl) (ac := ?_) ?_ g0 ?_
 rotate_left
 · simp only [strip, splitQ, stripOps, stripOp, hoist, List.filter_cons, List.filter_nil, List.nil_append, List.cons_append, isFree, anyPre, Region.binds, Bool.not_true, Bool.not_false, Bool.false_eq_true, if_true, if_false, Option.isNone_none, Option.isNone_some, Bool.true_and, Bool.false_and, List.map_nil, List.map_cons, List.isEmpty_nil, List.isEmpty_cons, List.append_nil]
   rfl
 · simp -implicitDefEqProofs (disch := omega) only [Tryz.f125, go_sem, List.replicate, simprocAttr]
   (repeat' (first | refine gT ?_ ?_ | refine gF ?_ ?_ | refine gC ?_ ?_ | ((first | (refine c_ctrE (ctr301 a) ?_ ?_; (focus (simp -implicitDefEqProofs (disch := omega) only [avs, avb, avi, avo, sigCells, opCells, pairCells, elT, avt, termCells_eq, go_sem, simprocAttr]; done))) | (refine c_ctrE (ctr301 b) ?_ ?_; (focus (simp -implicitDefEqProofs (disch := omega) only [avs, avb, avi, avo, sigCells, opCells, pairCells, elT, avt, termCells_eq, go_sem, simprocAttr]; done)))); simp -implicitDefEqProofs (disch := omega) only [go_sem, simprocAttr]) | refine And.intro (by omega) ?_ | (intro hr; have hc := hr; (try simp only [zda, zdb, zdc, zdd] at hc); simp -implicitDefEqProofs (disch := omega) only [hr, go_sem, simprocAttr]; (try clear hr))))
   all_goals (refine fin_eq ?_ rfl; congr 1; unfold cmpN; (repeat' split) <;> omega)
theorem ctr281 (a b : Int): CT 124 [.i .i64 a, .i .i64 b] (.i .i64 (cmpN a b)) := by
 refine sem_intro (rx := false) (th := fun _ => none) mixed Tryz.func124 rfl (by kernel_rfl) (by kernel_rfl) (ac := ?_) ?_ g0 ?_
 rotate_left
 · simp only [strip, splitQ, stripOps, stripOp, hoist, List.filter_cons, List.filter_nil, List.nil_append, List.cons_append, isFree, anyPre, Region.binds, Bool.not_true, Bool.not_false, Bool.false_eq_true, if_true, if_false, Option.isNone_none, Option.isNone_some, Bool.true_and, Bool.false_and, List.map_nil, List.map_cons, List.isEmpty_nil, List.isEmpty_cons, List.append_nil]
   rfl
 · simp -implicitDefEqProofs (disch := omega) only [Tryz.f124, go_sem, List.replicate, simprocAttr]
   (repeat' (first | refine gT ?_ ?_ | refine gF ?_ ?_ | refine gC ?_ ?_ | ((first | (refine c_ctrE (ctr300 a) ?_ ?_; (focus (simp -implicitDefEqProofs (disch := omega) only [avs, avb, avi, avo, sigCells, opCells, pairCells, elT, avt, termCells_eq, go_sem, simprocAttr]; done))) | (refine c_ctrE (ctr300 b) ?_ ?_; (focus (simp -implicitDefEqProofs (disch := omega) only [avs, avb, avi, avo, sigCells, opCells, pairCells, elT, avt, termCells_eq, go_sem, simprocAttr]; done)))); simp -implicitDefEqProofs (disch := omega) only [go_sem, simprocAttr]) | refine And.intro (by omega) ?_ | (intro hr; have hc := hr; (try simp only [zda, zdb, zdc, zdd] at hc); simp -implicitDefEqProofs (disch := omega) only [hr, go_sem, simprocAttr]; (try clear hr))))
   all_goals (refine fin_eq ?_ rfl; congr 1; unfold cmpN; (repeat' split) <;> omega)
theorem ctr283 (a b : Str): CT 126 [.s a, .s b] (.i .i64 (cmpT a b)) := by
 refine sem_intro (rx := false) (th := fun _ => none) mixed Tryz.func126 rfl (by kernel_rfl) (by kernel_rfl) (ac := ?_) ?_ g0 ?_
 rotate_left
 · simp only [strip, splitQ, stripOps, stripOp, hoist, List.filter_cons, List.filter_nil, List.nil_append, List.cons_append, isFree, anyPre, Region.binds, Bool.not_true, Bool.not_false, Bool.false_eq_true, if_true, if_false, Option.isNone_none, Option.isNone_some, Bool.true_and, Bool.false_and, List.map_nil, List.map_cons, List.isEmpty_nil, List.isEmpty_cons, List.append_nil]
   rfl
 · simp -implicitDefEqProofs (disch := omega) only [Tryz.f126, go_sem, List.replicate, simprocAttr]
   (repeat' (first | refine gT ?_ ?_ | refine gF ?_ ?_ | refine gC ?_ ?_ | ((first | (refine c_ctrE (ctr167 a) ?_ ?_; (focus (simp -implicitDefEqProofs (disch := omega) only [avs, avb, avi, avo, sigCells, opCells, pairCells, elT, avt, termCells_eq, go_sem, simprocAttr]; done))) | (refine c_ctrE (ctr167 b) ?_ ?_; (focus (simp -implicitDefEqProofs (disch := omega) only [avs, avb, avi, avo, sigCells, opCells, pairCells, elT, avt, termCells_eq, go_sem, simprocAttr]; done)))); simp -implicitDefEqProofs (disch := omega) only [go_sem, simprocAttr]) | refine And.intro (by omega) ?_ | (intro hr; have hc := hr; (try simp only [zda, zdb, zdc, zdd] at hc); simp -implicitDefEqProofs (disch := omega) only [hr, go_sem, simprocAttr]; (try clear hr))))
   all_goals (refine fin_eq ?_ rfl; congr 1; simp only [bytesLess_eq, decide_eq_true_eq, decide_eq_false_iff_not, Bool.false_or] at *; first | exact cmpT_lt (by assumption) | exact cmpT_gt (by assumption) (by assumption) | exact cmpT_eq (by assumption))
def orI : List Int → Int
 | [] => 0
 | a :: l => if a = 0 then orI l else a
theorem orI_split {l : List Int} {k : Nat} (hz : ∀ j, j < k → l.getD j 0 = 0) : orI l = orI (l.drop k) := by
 induction k generalizing l with
 | zero => rfl
 | succ k ih =>
   cases l with
   | nil => simp [orI]
   | cons a l =>
     have h0 : a = 0 := hz 0 (by omega)
     rw [List.drop_succ_cons, ← ih (fun j hj => by have := hz (j + 1) (by omega); simpa using this), orI, if_pos h0]
theorem ctr280 (l : List Int) (hl : l.length ≤ 17592186044416): CT 123 [avi l] (.i .i64 (orI l)) := by
 refine sem_intro (rx := false) (th := fun _ => none) mixed Tryz.func123 rfl (by kernel_rfl) (by kernel_rfl) (ac := ?_) ?_ g0 ?_
 rotate_left
 · simp only [strip, splitQ, stripOps, stripOp, hoist, List.filter_cons, List.filter_nil, List.nil_append, List.cons_append, isFree, anyPre, Region.binds, Bool.not_true, Bool.not_false, Bool.false_eq_true, if_true, if_false, Option.isNone_none, Option.isNone_some, Bool.true_and, Bool.false_and, List.map_nil, List.map_cons, List.isEmpty_nil, List.isEmpty_cons, List.append_nil]
   rfl
 · simp -implicitDefEqProofs (disch := omega) only [Tryz.f123, go_sem, List.replicate, simprocAttr, avi]
   refine x_loopJ (fun (k : Nat) => [.k, .k, .j, .k, .k, .j, .k, .k, .v (.i .i64 k), .j, .j, .j, .j, .j, .j, .j, .j, .k]) (fun k => []) (fun k => k ≤ l.length ∧ ∀ j, j < k → l.getD j 0 = 0) (fun k => l.length - k) (0) ⟨Nat.zero_le _, fun j h => by omega⟩ rfl (by simp [Fits]) ?_
   rintro k j ⟨hk, ha⟩
   simp -implicitDefEqProofs (disch := omega) only [go_sem, simprocAttr]
   (repeat' (first | refine gT ?_ ?_ | refine gF ?_ ?_ | refine gC ?_ ?_ | refine And.intro (by omega) ?_ | (intro hr; have hc := hr; (try simp only [zda, zdb, zdc, zdd] at hc); simp -implicitDefEqProofs (disch := omega) only [hr, go_sem, simprocAttr]; (try clear hr))))
   · refine fin_eq ?_ rfl
     have hlt : k < l.length := by omega
     rw [orI_split ha, List.drop_eq_getElem_cons hlt, orI, if_neg (by simpa [List.getD, hlt] using hc)]
     simp [List.getD, hlt]
   · exact ⟨k + 1, ⟨by omega, below_succ ha (by simpa using hc)⟩, by omega, by simp⟩
   · refine fin_eq ?_ rfl
     rw [orI_split ha, List.drop_of_length_le (by omega)]; rfl
theorem name_post {s : Str} (h : isName s = true) : 0 < s.length := by
 cases s with
 | nil => revert h; decide
 | cons a l => simp
def trueS : Str := [116, 114, 117, 101]
def falseS : Str := [102, 97, 108, 115, 101]
def isId (s : Str) : Bool := isName s && decide (97 ≤ ((s.getD 0 0).toNat : Int)) && decide (((s.getD 0 0).toNat : Int) ≤ 122) && !decide (s = trueS) && !decide (s = falseS)
theorem ctr297 (s : Str) (hs : s.length ≤ 140737488355328): CT 154 [.s s] (.b (isId s)) := by
 refine sem_intro (rx := false) (th := fun _ => none) mixed Tryz.func154 rfl (by kernel_rfl) (by kernel_rfl) (ac := ?_) ?_ g0 ?_
 rotate_left
 · simp only [strip, splitQ, stripOps, stripOp, hoist, List.filter_cons, List.filter_nil, List.nil_append, List.cons_append, isFree, anyPre, Region.binds, Bool.not_true, Bool.not_false, Bool.false_eq_true, if_true, if_false, Option.isNone_none, Option.isNone_some, Bool.true_and, Bool.false_and, List.map_nil, List.map_cons, List.isEmpty_nil, List.isEmpty_cons, List.append_nil]
   rfl
 · simp -implicitDefEqProofs (disch := omega) only [Tryz.f154, go_sem, List.replicate, simprocAttr]
   have c := ctr41 s hs
   cases h : isName s with
   | false =>
     rw [h] at c
     (repeat' (first | refine gT ?_ ?_ | refine gF ?_ ?_ | refine gC ?_ ?_ | ((refine c_ctrE (c) ?_ ?_; (focus (simp -implicitDefEqProofs (disch := omega) only [avs, avb, avi, avo, sigCells, opCells, pairCells, elT, avt, termCells_eq, go_sem, simprocAttr]; done))); simp -implicitDefEqProofs (disch := omega) only [go_sem, simprocAttr]) | refine And.intro (by omega) ?_ | (intro hr; have hc := hr; (try simp only [zda, zdb, zdc, zdd] at hc); simp -implicitDefEqProofs (disch := omega) only [hr, go_sem, simprocAttr]; (try clear hr))))
     all_goals exact fin_eq (by simp [isId, h]) rfl
   | true =>
     rw [h] at c
     have hpos := name_post h
     (repeat' (first | refine gT ?_ ?_ | refine gF ?_ ?_ | refine gC ?_ ?_ | ((refine c_ctrE (c) ?_ ?_; (focus (simp -implicitDefEqProofs (disch := omega) only [avs, avb, avi, avo, sigCells, opCells, pairCells, elT, avt, termCells_eq, go_sem, simprocAttr]; done))); simp -implicitDefEqProofs (disch := omega) only [go_sem, simprocAttr]) | refine And.intro (by omega) ?_ | (intro hr; have hc := hr; (try simp only [zda, zdb, zdc, zdd] at hc); simp -implicitDefEqProofs (disch := omega) only [hr, go_sem, simprocAttr]; (try clear hr))))
     all_goals refine fin_eq ?_ rfl
     all_goals (simp_all [isId, trueS, falseS, decide_not] <;> (first | omega | (intros; omega) | exact decide_eq_decide.2 Iff.rfl))
theorem ctr305 (s : Str) (hs : s.length ≤ 140737488355328): CT 159 [.s s] (.b (isId s)) := by
 refine sem_intro (rx := false) (th := fun _ => none) mixed Tryz.func159 rfl (by kernel_rfl) (by kernel_rfl) (ac := ?_) ?_ g0 ?_
 rotate_left
 · simp only [strip, splitQ, stripOps, stripOp, hoist, List.filter_cons, List.filter_nil, List.nil_append, List.cons_append, isFree, anyPre, Region.binds, Bool.not_true, Bool.not_false, Bool.false_eq_true, if_true, if_false, Option.isNone_none, Option.isNone_some, Bool.true_and, Bool.false_and, List.map_nil, List.map_cons, List.isEmpty_nil, List.isEmpty_cons, List.append_nil]
   rfl
 · simp -implicitDefEqProofs (disch := omega) only [Tryz.f159, go_sem, List.replicate, simprocAttr]
   have c := ctr42 s hs
   cases h : isName s with
   | false =>
     rw [h] at c
     (repeat' (first | refine gT ?_ ?_ | refine gF ?_ ?_ | refine gC ?_ ?_ | ((refine c_ctrE (c) ?_ ?_; (focus (simp -implicitDefEqProofs (disch := omega) only [avs, avb, avi, avo, sigCells, opCells, pairCells, elT, avt, termCells_eq, go_sem, simprocAttr]; done))); simp -implicitDefEqProofs (disch := omega) only [go_sem, simprocAttr]) | refine And.intro (by omega) ?_ | (intro hr; have hc := hr; (try simp only [zda, zdb, zdc, zdd] at hc); simp -implicitDefEqProofs (disch := omega) only [hr, go_sem, simprocAttr]; (try clear hr))))
     all_goals exact fin_eq (by simp [isId, h]) rfl
   | true =>
     rw [h] at c
     have hpos := name_post h
     (repeat' (first | refine gT ?_ ?_ | refine gF ?_ ?_ | refine gC ?_ ?_ | ((refine c_ctrE (c) ?_ ?_; (focus (simp -implicitDefEqProofs (disch := omega) only [avs, avb, avi, avo, sigCells, opCells, pairCells, elT, avt, termCells_eq, go_sem, simprocAttr]; done))); simp -implicitDefEqProofs (disch := omega) only [go_sem, simprocAttr]) | refine And.intro (by omega) ?_ | (intro hr; have hc := hr; (try simp only [zda, zdb, zdc, zdd] at hc); simp -implicitDefEqProofs (disch := omega) only [hr, go_sem, simprocAttr]; (try clear hr))))
     all_goals refine fin_eq ?_ rfl
     all_goals (simp_all [isId, trueS, falseS, decide_not] <;> (first | omega | (intros; omega) | exact decide_eq_decide.2 Iff.rfl))

theorem castz {n : Nat} : ((n : Int) = 0) ↔ n = 0 := by omega
theorem cast1 {n : Nat} : ((n : Int) = 1) ↔ n = 1 := by omega
theorem castLt8 {n : Nat} : ((n : Int) ≤ 8) ↔ n ≤ 8 := by omega
def textOk (c : UInt8) : Bool := decide (32 ≤ (c.toNat : Int)) && decide ((c.toNat : Int) ≤ 126) && decide ((c.toNat : Int) ≠ 34) && decide ((c.toNat : Int) ≠ 92)
def isText (s : Str) : Bool := s.all textOk && decide (s.length ≤ 200)
theorem getD_get {α : Type} {l : List α} {k : Nat} {d : α} (h : k < l.length) : l[k]? = some (l.getD k d) := by simp [List.getD, h]
theorem getD_of {α : Type} {l : List α} {k : Nat} {d x : α} (h : l[k]? = some x) : l.getD k d = x := by simp [List.getD, h]
theorem text_no {s : Str} {k : Nat} {c : UInt8} (h : s[k]? = some c) (hc : textOk c = false) : isText s = false := by
 have : s.all textOk = false := by
   rw [List.all_eq_false]
   exact ⟨c, List.mem_of_getElem? h, by simp [hc]⟩
 simp [isText, this]
theorem text_all {s : Str} (h : ∀ j, j < s.length → textOk (s.getD j 0) = true) : isText s = decide (s.length ≤ 200) := by
 have : s.all textOk = true := all_getD (d := 0) h
 simp [isText, this]
theorem ctr304 (s : Str) (hs : s.length ≤ 140737488355328): CT 158 [.s s] (.b (isText s)) := by
 refine sem_intro (rx := false) (th := fun _ => none) mixed Tryz.func158 rfl (by kernel_rfl) (by kernel_rfl) (ac := ?_) ?_ g0 ?_
 rotate_left
 · simp only [strip, splitQ, stripOps, stripOp, hoist, List.filter_cons, List.filter_nil, List.nil_append, List.cons_append, isFree, anyPre, Region.binds, Bool.not_true, Bool.not_false, Bool.false_eq_true, if_true, if_false, Option.isNone_none, Option.isNone_some, Bool.true_and, Bool.false_and, List.map_nil, List.map_cons, List.isEmpty_nil, List.isEmpty_cons, List.append_nil]
   rfl
 · simp -implicitDefEqProofs (disch := omega) only [Tryz.f158, go_sem, List.replicate, simprocAttr]
   refine x_loopJ (fun (k : Nat) => [.k, .k, .j, .j, .k, .k, .v (.i .i64 k), .j, .j, .j, .j, .j, .j, .j, .j, .j, .j, .j, .j, .j, .j, .j, .j, .j, .j, .j, .j, .j, .j, .j, .j, .j, .k, .k, .k]) (fun k => []) (fun k => k ≤ s.length ∧ ∀ j, j < k → textOk (s.getD j 0) = true) (fun k => s.length - k) (0) ⟨Nat.zero_le _, fun j h => by omega⟩ rfl (by simp [Fits]) ?_
   rintro k j ⟨hk, ha⟩
   simp -implicitDefEqProofs (disch := omega) only [go_sem, simprocAttr]
   (repeat' (first | refine gT ?_ ?_ | refine gF ?_ ?_ | refine gC ?_ ?_ | refine And.intro (by omega) ?_ | (intro hr; have hc := hr; (try simp only [zda, zdb, zdc, zdd] at hc); simp -implicitDefEqProofs (disch := omega) only [hr, go_sem, simprocAttr]; (try clear hr))))
   all_goals first
     | (refine fin_eq ?_ rfl; rw [text_no (k := k) (getD_get (d := 0) (by omega)) (by simp only [textOk, Bool.and_eq_false_iff, decide_eq_false_iff_not, ne_eq]; omega)]; done)
     | exact ⟨k + 1, ⟨by omega, below_succ ha (by simp only [textOk, Bool.and_eq_true, decide_eq_true_eq, ne_eq]; omega)⟩, by omega, by simp⟩
     | (refine fin_eq ?_ rfl; rw [text_all (fun j hj => ha j (by omega))]; exact congrArg AV.b (decide_eq_decide.2 (by omega)))
theorem ctr265 (s : Str) (hs : s.length ≤ 140737488355328): CT 153 [.s s] (.b (isText s)) := by
 refine sem_intro (rx := false) (th := fun _ => none) mixed Tryz.func153 rfl (by kernel_rfl) (by kernel_rfl) (ac := ?_) ?_ g0 ?_
 rotate_left
 · simp only [strip, splitQ, stripOps, stripOp, hoist, List.filter_cons, List.filter_nil, List.nil_append, List.cons_append, isFree, anyPre, Region.binds, Bool.not_true, Bool.not_false, Bool.false_eq_true, if_true, if_false, Option.isNone_none, Option.isNone_some, Bool.true_and, Bool.false_and, List.map_nil, List.map_cons, List.isEmpty_nil, List.isEmpty_cons, List.append_nil]
   rfl
 · simp -implicitDefEqProofs (disch := omega) only [Tryz.f153, go_sem, List.replicate, simprocAttr]
   refine x_loopJ (fun (k : Nat) => [.k, .k, .j, .k, .j, .k, .k, .j, .j, .j, .j, .j, .j, .j, .j, .j, .j, .j, .j, .j, .j, .j, .j, .j, .k, .k, .k]) (fun k => [.sit s k]) (fun k => k ≤ s.length ∧ ∀ j, j < k → textOk (s.getD j 0) = true) (fun k => s.length - k) (0) ⟨Nat.zero_le _, fun j h => by omega⟩ rfl (by simp [Fits]) ?_
   rintro k j ⟨hk, ha⟩
   simp -implicitDefEqProofs (disch := omega) only [go_sem, simprocAttr]
   refine nextS_intro rfl ?_ ?_ ?_
   · intro hle
     simp -implicitDefEqProofs (disch := omega) only [go_sem, simprocAttr]
     refine fin_eq ?_ rfl
     rw [text_all (fun j hj => ha j (by omega))]
     exact congrArg AV.b (decide_eq_decide.2 (by omega))
   · intro c hc hlt
     have hcg := getD_of (d := 0) hc
     have hk2 := lt_of_some hc
     have hc0 := hc
     simp -implicitDefEqProofs (disch := omega) only [go_sem, simprocAttr]
     (repeat' (first | refine gT ?_ ?_ | refine gF ?_ ?_ | refine gC ?_ ?_ | refine And.intro (by omega) ?_ | (intro hr; have hc := hr; (try simp only [zda, zdb, zdc, zdd] at hc); simp -implicitDefEqProofs (disch := omega) only [hr, go_sem, simprocAttr]; (try clear hr))))
     all_goals first
       | (refine fin_eq ?_ rfl; rw [text_no hc0 (by simp only [textOk, Bool.and_eq_false_iff, decide_eq_false_iff_not, ne_eq]; omega)]; done)
       | exact ⟨k + 1, ⟨by omega, below_succ ha (by rw [hcg]; simp only [textOk, Bool.and_eq_true, decide_eq_true_eq, ne_eq]; omega)⟩, by omega, by simp⟩
   · intro c rn m hc h1 h2 h3 h4
     have hc0 := hc
     simp -implicitDefEqProofs (disch := omega) only [go_sem, simprocAttr]
     (repeat' (first | refine gT ?_ ?_ | refine gF ?_ ?_ | refine gC ?_ ?_ | refine And.intro (by omega) ?_ | (intro hr; have hc := hr; (try simp only [zda, zdb, zdc, zdd] at hc); simp -implicitDefEqProofs (disch := omega) only [hr, go_sem, simprocAttr]; (try clear hr))))
     all_goals first
       | (exfalso; omega)
       | (refine fin_eq ?_ rfl; rw [text_no hc0 (by simp only [textOk, Bool.and_eq_false_iff, decide_eq_false_iff_not, ne_eq]; omega)]; done)
def zeroB (t : LTerm) (n te so ki re : Bool) : Bool := (n || decide (t.n = 0)) && (te || decide (t.text = [])) && (so || decide (t.sort = [])) && (ki || decide (t.kids = [])) && (re || decide (t.rest = []))
theorem ctr303a (t : LTerm): CT 157 [elT t, .b true, .b false, .b false, .b false, .b false] (.b (zeroB t true false false false false)) := by
 refine sem_intro (rx := false) (th := fun _ => none) mixed Tryz.func157 rfl (by kernel_rfl) (by kernel_rfl) (ac := ?_) ?_ g0 ?_
 rotate_left
 · simp only [strip, splitQ, stripOps, stripOp, hoist, List.filter_cons, List.filter_nil, List.nil_append, List.cons_append, isFree, anyPre, Region.binds, Bool.not_true, Bool.not_false, Bool.false_eq_true, if_true, if_false, Option.isNone_none, Option.isNone_some, Bool.true_and, Bool.false_and, List.map_nil, List.map_cons, List.isEmpty_nil, List.isEmpty_cons, List.append_nil]
   rfl
 · simp -implicitDefEqProofs (disch := omega) only [Tryz.f157, go_sem, List.replicate, simprocAttr]
   (repeat' (first | refine gT ?_ ?_ | refine gF ?_ ?_ | refine gC ?_ ?_ | refine And.intro (by omega) ?_ | (intro hr; have hc := hr; (try simp only [zda, zdb, zdc, zdd] at hc); simp -implicitDefEqProofs (disch := omega) only [hr, go_sem, simprocAttr]; (try clear hr))))
   all_goals (refine fin_eq ?_ rfl; simp_all [zeroB])
theorem ctr303b (t : LTerm): CT 157 [elT t, .b false, .b true, .b false, .b false, .b false] (.b (zeroB t false true false false false)) := by
 refine sem_intro (rx := false) (th := fun _ => none) mixed Tryz.func157 rfl (by kernel_rfl) (by kernel_rfl) (ac := ?_) ?_ g0 ?_
 rotate_left
 · simp only [strip, splitQ, stripOps, stripOp, hoist, List.filter_cons, List.filter_nil, List.nil_append, List.cons_append, isFree, anyPre, Region.binds, Bool.not_true, Bool.not_false, Bool.false_eq_true, if_true, if_false, Option.isNone_none, Option.isNone_some, Bool.true_and, Bool.false_and, List.map_nil, List.map_cons, List.isEmpty_nil, List.isEmpty_cons, List.append_nil]
   rfl
 · simp -implicitDefEqProofs (disch := omega) only [Tryz.f157, go_sem, List.replicate, simprocAttr]
   (repeat' (first | refine gT ?_ ?_ | refine gF ?_ ?_ | refine gC ?_ ?_ | refine And.intro (by omega) ?_ | (intro hr; have hc := hr; (try simp only [zda, zdb, zdc, zdd] at hc); simp -implicitDefEqProofs (disch := omega) only [hr, go_sem, simprocAttr]; (try clear hr))))
   all_goals (refine fin_eq ?_ rfl; simp_all [zeroB])
theorem ctr303c (t : LTerm): CT 157 [elT t, .b false, .b true, .b false, .b true, .b false] (.b (zeroB t false true false true false)) := by
 refine sem_intro (rx := false) (th := fun _ => none) mixed Tryz.func157 rfl (by kernel_rfl) (by kernel_rfl) (ac := ?_) ?_ g0 ?_
 rotate_left
 · simp only [strip, splitQ, stripOps, stripOp, hoist, List.filter_cons, List.filter_nil, List.nil_append, List.cons_append, isFree, anyPre, Region.binds, Bool.not_true, Bool.not_false, Bool.false_eq_true, if_true, if_false, Option.isNone_none, Option.isNone_some, Bool.true_and, Bool.false_and, List.map_nil, List.map_cons, List.isEmpty_nil, List.isEmpty_cons, List.append_nil]
   rfl
 · simp -implicitDefEqProofs (disch := omega) only [Tryz.f157, go_sem, List.replicate, simprocAttr]
   (repeat' (first | refine gT ?_ ?_ | refine gF ?_ ?_ | refine gC ?_ ?_ | refine And.intro (by omega) ?_ | (intro hr; have hc := hr; (try simp only [zda, zdb, zdc, zdd] at hc); simp -implicitDefEqProofs (disch := omega) only [hr, go_sem, simprocAttr]; (try clear hr))))
   all_goals (refine fin_eq ?_ rfl; simp_all [zeroB])
theorem ctr303d (t : LTerm): CT 157 [elT t, .b false, .b true, .b true, .b false, .b false] (.b (zeroB t false true true false false)) := by
 refine sem_intro (rx := false) (th := fun _ => none) mixed Tryz.func157 rfl (by kernel_rfl) (by kernel_rfl) (ac := ?_) ?_ g0 ?_
 rotate_left
 · simp only [strip, splitQ, stripOps, stripOp, hoist, List.filter_cons, List.filter_nil, List.nil_append, List.cons_append, isFree, anyPre, Region.binds, Bool.not_true, Bool.not_false, Bool.false_eq_true, if_true, if_false, Option.isNone_none, Option.isNone_some, Bool.true_and, Bool.false_and, List.map_nil, List.map_cons, List.isEmpty_nil, List.isEmpty_cons, List.append_nil]
   rfl
 · simp -implicitDefEqProofs (disch := omega) only [Tryz.f157, go_sem, List.replicate, simprocAttr]
   (repeat' (first | refine gT ?_ ?_ | refine gF ?_ ?_ | refine gC ?_ ?_ | refine And.intro (by omega) ?_ | (intro hr; have hc := hr; (try simp only [zda, zdb, zdc, zdd] at hc); simp -implicitDefEqProofs (disch := omega) only [hr, go_sem, simprocAttr]; (try clear hr))))
   all_goals (refine fin_eq ?_ rfl; simp_all [zeroB])
theorem ctr303e (t : LTerm): CT 157 [elT t, .b false, .b false, .b false, .b true, .b true] (.b (zeroB t false false false true true)) := by
 refine sem_intro (rx := false) (th := fun _ => none) mixed Tryz.func157 rfl (by kernel_rfl) (by kernel_rfl) (ac := ?_) ?_ g0 ?_
 rotate_left
 · simp only [strip, splitQ, stripOps, stripOp, hoist, List.filter_cons, List.filter_nil, List.nil_append, List.cons_append, isFree, anyPre, Region.binds, Bool.not_true, Bool.not_false, Bool.false_eq_true, if_true, if_false, Option.isNone_none, Option.isNone_some, Bool.true_and, Bool.false_and, List.map_nil, List.map_cons, List.isEmpty_nil, List.isEmpty_cons, List.append_nil]
   rfl
 · simp -implicitDefEqProofs (disch := omega) only [Tryz.f157, go_sem, List.replicate, simprocAttr]
   (repeat' (first | refine gT ?_ ?_ | refine gF ?_ ?_ | refine gC ?_ ?_ | refine And.intro (by omega) ?_ | (intro hr; have hc := hr; (try simp only [zda, zdb, zdc, zdd] at hc); simp -implicitDefEqProofs (disch := omega) only [hr, go_sem, simprocAttr]; (try clear hr))))
   all_goals (refine fin_eq ?_ rfl; simp_all [zeroB])
def restB (t : LTerm) (so : Str) : Bool := decide (t.rest.length = 0) || (decide (t.rest.length = 1) && decide ((t.rest.getD 0 default).kind = 6) && isName (t.rest.getD 0 default).text && decide ((t.rest.getD 0 default).sort = so) && zeroB (t.rest.getD 0 default) false true true false false)
theorem ctr306 (t : LTerm) (so : Str) (ht : OkT t): CT 161 [elT t, .s so] (.b (restB t so)) := by
 refine sem_intro (rx := false) (th := fun _ => none) mixed Tryz.func161 rfl (by kernel_rfl) (by kernel_rfl) (ac := ?_) ?_ g0 ?_
 rotate_left
 · simp only [strip, splitQ, stripOps, stripOp, hoist, List.filter_cons, List.filter_nil, List.nil_append, List.cons_append, isFree, anyPre, Region.binds, Bool.not_true, Bool.not_false, Bool.false_eq_true, if_true, if_false, Option.isNone_none, Option.isNone_some, Bool.true_and, Bool.false_and, List.map_nil, List.map_cons, List.isEmpty_nil, List.isEmpty_cons, List.append_nil]
   rfl
 · simp -implicitDefEqProofs (disch := omega) only [Tryz.f161, go_sem, List.replicate, simprocAttr]
   have h1 : 0 < t.rest.length → OkT (t.rest.getD 0 default) := fun h => ht.rst _ (mem_getD h)
   (repeat' (first | refine gT ?_ ?_ | refine gF ?_ ?_ | refine gC ?_ ?_ | ((first | (refine c_ctrE (ctr42 (t.rest.getD 0 default).text (h1 (by omega)).text) ?_ ?_; (focus (simp -implicitDefEqProofs (disch := omega) only [avs, avb, avi, avo, sigCells, opCells, pairCells, elT, avt, termCells_eq, go_sem, simprocAttr]; done))) | (refine c_ctrE (ctr303d (t.rest.getD 0 default)) ?_ ?_; (focus (simp -implicitDefEqProofs (disch := omega) only [avs, avb, avi, avo, sigCells, opCells, pairCells, elT, avt, termCells_eq, go_sem, simprocAttr]; done)))); simp -implicitDefEqProofs (disch := omega) only [go_sem, simprocAttr]) | refine And.intro (by omega) ?_ | (intro hr; have hc := hr; (try simp only [zda, zdb, zdc, zdd] at hc); simp -implicitDefEqProofs (disch := omega) only [hr, go_sem, simprocAttr]; (try clear hr))))
   all_goals simp only [castz, cast1] at *
   all_goals (refine fin_eq ?_ rfl; simp_all only [restB, decide_true, decide_false, Bool.true_or, Bool.false_or, Bool.true_and, Bool.false_and, Bool.and_false, Bool.and_true, Nat.one_ne_zero])

def opName (s : Str) : Bool := isName (base s)
theorem ctr298 (s : Str) (hs : s.length ≤ 140737488355328): CT 155 [.s s] (.b (opName s)) := by
 refine sem_intro (rx := false) (th := fun _ => none) mixed Tryz.func155 rfl (by kernel_rfl) (by kernel_rfl) (ac := ?_) ?_ g0 ?_
 rotate_left
 · simp only [strip, splitQ, stripOps, stripOp, hoist, List.filter_cons, List.filter_nil, List.nil_append, List.cons_append, isFree, anyPre, Region.binds, Bool.not_true, Bool.not_false, Bool.false_eq_true, if_true, if_false, Option.isNone_none, Option.isNone_some, Bool.true_and, Bool.false_and, List.map_nil, List.map_cons, List.isEmpty_nil, List.isEmpty_cons, List.append_nil]
   rfl
 · simp -implicitDefEqProofs (disch := omega) only [Tryz.f155, go_sem, List.replicate, ↓reduceIte, reduceAdd, reduceSub, reduceMul, reduceLeDiff, reduceLT, reduceEqDiff, reduceNeg, Nat.reduceBEq]
   (repeat' (first | refine gT ?_ ?_ | refine gF ?_ ?_ | refine gC ?_ ?_ | ((refine c_ctrE (ctr109 s hs) ?_ ?_; (focus (simp -implicitDefEqProofs (disch := omega) only [avs, avb, avi, avo, sigCells, opCells, pairCells, elT, avt, termCells_eq, go_sem, ↓reduceIte, reduceAdd, reduceSub, reduceMul, reduceLeDiff, reduceLT, reduceEqDiff, reduceNeg, Nat.reduceBEq]; done))); simp -implicitDefEqProofs (disch := omega) only [go_sem, ↓reduceIte, reduceAdd, reduceSub, reduceMul, reduceLeDiff, reduceLT, reduceEqDiff, reduceNeg, Nat.reduceBEq]) | (refine c_ctr (ctr41 _ (Nat.le_trans (base_len s) hs)) ?_; simp -implicitDefEqProofs (disch := omega) only [go_sem, ↓reduceIte, reduceAdd, reduceSub, reduceMul, reduceLeDiff, reduceLT, reduceEqDiff, reduceNeg, Nat.reduceBEq]) | refine And.intro (by omega) ?_ | (intro hr; have hc := hr; (try simp only [zda, zdb, zdc, zdd] at hc); simp -implicitDefEqProofs (disch := omega) only [hr, go_sem, ↓reduceIte, reduceAdd, reduceSub, reduceMul, reduceLeDiff, reduceLT, reduceEqDiff, reduceNeg, Nat.reduceBEq]; (try clear hr))))
   refine fin_eq ?_ (by rfl); rfl
theorem castRem {n : Nat} : ((n : Int).tmod 2 = 0) ↔ n % 2 = 0 := by
 rw [Int.tmod_eq_emod_of_nonneg (Int.natCast_nonneg n)]; omega
def openS (s : Str) : Bool := decide (s = [95]) || decide (s = [36])
abbrev listS : Str := [76, 105, 115, 116]
abbrev mapS : Str := [77, 97, 112]
abbrev anyN : Str := [65, 110, 121]
def nodeB (t : LTerm) : Bool :=
 if t.kind = 1 then isInt t.n && zeroB t true false false false false
 else if t.kind = 2 then (decide (t.n = 0) || decide (t.n = 1)) && zeroB t true false false false false
 else if t.kind = 3 then isText t.text && zeroB t false true false false false
 else if t.kind = 4 then isId t.text && zeroB t false true false false false
 else if t.kind = 5 then opName t.text && decide (t.kids.length ≤ 8) && zeroB t false true false true false
 else if t.kind = 6 then (if openS t.text = true then decide (t.sort = anyN) && zeroB t false true true false false else isName t.text && isName t.sort && zeroB t false true true false false)
 else if t.kind = 7 then restB t listS && zeroB t false false false true true
 else if t.kind = 8 then restB t mapS && decide (t.kids.length % 2 = 0) && zeroB t false false false true true
 else false
theorem nodeB_rest (t : LTerm) (h : nodeB t = true) : t.rest.length ≤ 1 := by
 have z : ∀ {a b c d}, zeroB t a b c d false = true → t.rest.length ≤ 1 := by
   intro a b c d h
   simp only [zeroB, Bool.and_eq_true, Bool.or_eq_true, decide_eq_true_eq, Bool.false_eq_true, false_or] at h
   rw [h.2]; simp
 have r : ∀ {s}, restB t s = true → t.rest.length ≤ 1 := by
   intro s h
   simp only [restB, Bool.and_eq_true, Bool.or_eq_true, decide_eq_true_eq] at h
   omega
 unfold nodeB at h
 repeat' split at h
 all_goals try simp only [Bool.and_eq_true] at h
 all_goals first | exact z h.2 | exact r h.1 | exact r h.1.1 | cases h
theorem ctr289 (t : LTerm) (ht : OkT t): CT 90 [elT t] (.b (nodeB t)) := by
 refine sem_intro (rx := false) (th := fun _ => none) mixed Tryz.func90 rfl (by kernel_rfl) (by kernel_rfl) (ac := ?_) ?_ g0 ?_
 rotate_left
 · simp only [strip, splitQ, stripOps, stripOp, hoist, List.filter_cons, List.filter_nil, List.nil_append, List.cons_append, isFree, anyPre, Region.binds, Bool.not_true, Bool.not_false, Bool.false_eq_true, if_true, if_false, Option.isNone_none, Option.isNone_some, Bool.true_and, Bool.false_and, List.map_nil, List.map_cons, List.isEmpty_nil, List.isEmpty_cons, List.append_nil]
   rfl
 · simp -implicitDefEqProofs (disch := omega) only [Tryz.f90, go_sem, List.replicate, ↓reduceIte, reduceAdd, reduceSub, reduceMul, reduceLeDiff, reduceLT, reduceEqDiff, reduceNeg, Nat.reduceBEq]
   (repeat' (first | refine gT ?_ ?_ | refine gF ?_ ?_ | refine gC ?_ ?_ | ((first | (refine c_ctrE (ctr304 t.text ht.text) ?_ ?_; (focus (simp -implicitDefEqProofs (disch := omega) only [avs, avb, avi, avo, sigCells, opCells, pairCells, elT, avt, termCells_eq, go_sem, ↓reduceIte, reduceAdd, reduceSub, reduceMul, reduceLeDiff, reduceLT, reduceEqDiff, reduceNeg, Nat.reduceBEq]; done))) | (refine c_ctrE (ctr305 t.text ht.text) ?_ ?_; (focus (simp -implicitDefEqProofs (disch := omega) only [avs, avb, avi, avo, sigCells, opCells, pairCells, elT, avt, termCells_eq, go_sem, ↓reduceIte, reduceAdd, reduceSub, reduceMul, reduceLeDiff, reduceLT, reduceEqDiff, reduceNeg, Nat.reduceBEq]; done))) | (refine c_ctrE (ctr115 t.text ht.text) ?_ ?_; (focus (simp -implicitDefEqProofs (disch := omega) only [avs, avb, avi, avo, sigCells, opCells, pairCells, elT, avt, termCells_eq, go_sem, ↓reduceIte, reduceAdd, reduceSub, reduceMul, reduceLeDiff, reduceLT, reduceEqDiff, reduceNeg, Nat.reduceBEq]; done))) | (refine c_ctrE (ctr42 t.text ht.text) ?_ ?_; (focus (simp -implicitDefEqProofs (disch := omega) only [avs, avb, avi, avo, sigCells, opCells, pairCells, elT, avt, termCells_eq, go_sem, ↓reduceIte, reduceAdd, reduceSub, reduceMul, reduceLeDiff, reduceLT, reduceEqDiff, reduceNeg, Nat.reduceBEq]; done))) | (refine c_ctrE (ctr42 t.sort ht.sort) ?_ ?_; (focus (simp -implicitDefEqProofs (disch := omega) only [avs, avb, avi, avo, sigCells, opCells, pairCells, elT, avt, termCells_eq, go_sem, ↓reduceIte, reduceAdd, reduceSub, reduceMul, reduceLeDiff, reduceLT, reduceEqDiff, reduceNeg, Nat.reduceBEq]; done))) | (refine c_ctrE (ctr306 t listS ht) ?_ ?_; (focus (simp -implicitDefEqProofs (disch := omega) only [avs, avb, avi, avo, sigCells, opCells, pairCells, elT, avt, termCells_eq, go_sem, ↓reduceIte, reduceAdd, reduceSub, reduceMul, reduceLeDiff, reduceLT, reduceEqDiff, reduceNeg, Nat.reduceBEq]; done))) | (refine c_ctrE (ctr306 t mapS ht) ?_ ?_; (focus (simp -implicitDefEqProofs (disch := omega) only [avs, avb, avi, avo, sigCells, opCells, pairCells, elT, avt, termCells_eq, go_sem, ↓reduceIte, reduceAdd, reduceSub, reduceMul, reduceLeDiff, reduceLT, reduceEqDiff, reduceNeg, Nat.reduceBEq]; done))) | (refine c_ctrE (ctr303a t) ?_ ?_; (focus (simp -implicitDefEqProofs (disch := omega) only [avs, avb, avi, avo, sigCells, opCells, pairCells, elT, avt, termCells_eq, go_sem, ↓reduceIte, reduceAdd, reduceSub, reduceMul, reduceLeDiff, reduceLT, reduceEqDiff, reduceNeg, Nat.reduceBEq]; done))) | (refine c_ctrE (ctr303b t) ?_ ?_; (focus (simp -implicitDefEqProofs (disch := omega) only [avs, avb, avi, avo, sigCells, opCells, pairCells, elT, avt, termCells_eq, go_sem, ↓reduceIte, reduceAdd, reduceSub, reduceMul, reduceLeDiff, reduceLT, reduceEqDiff, reduceNeg, Nat.reduceBEq]; done))) | (refine c_ctrE (ctr303c t) ?_ ?_; (focus (simp -implicitDefEqProofs (disch := omega) only [avs, avb, avi, avo, sigCells, opCells, pairCells, elT, avt, termCells_eq, go_sem, ↓reduceIte, reduceAdd, reduceSub, reduceMul, reduceLeDiff, reduceLT, reduceEqDiff, reduceNeg, Nat.reduceBEq]; done))) | (refine c_ctrE (ctr303d t) ?_ ?_; (focus (simp -implicitDefEqProofs (disch := omega) only [avs, avb, avi, avo, sigCells, opCells, pairCells, elT, avt, termCells_eq, go_sem, ↓reduceIte, reduceAdd, reduceSub, reduceMul, reduceLeDiff, reduceLT, reduceEqDiff, reduceNeg, Nat.reduceBEq]; done))) | (refine c_ctrE (ctr303e t) ?_ ?_; (focus (simp -implicitDefEqProofs (disch := omega) only [avs, avb, avi, avo, sigCells, opCells, pairCells, elT, avt, termCells_eq, go_sem, ↓reduceIte, reduceAdd, reduceSub, reduceMul, reduceLeDiff, reduceLT, reduceEqDiff, reduceNeg, Nat.reduceBEq]; done)))); simp -implicitDefEqProofs (disch := omega) only [go_sem, ↓reduceIte, reduceAdd, reduceSub, reduceMul, reduceLeDiff, reduceLT, reduceEqDiff, reduceNeg, Nat.reduceBEq]) | refine And.intro (by omega) ?_ | (intro hr; have hc := hr; (try simp only [zda, zdb, zdc, zdd] at hc); simp -implicitDefEqProofs (disch := omega) only [hr, go_sem, ↓reduceIte, reduceAdd, reduceSub, reduceMul, reduceLeDiff, reduceLT, reduceEqDiff, reduceNeg, Nat.reduceBEq]; (try clear hr))))
   all_goals try simp only [castz, cast1, castLt8, castRem] at *
   all_goals refine fin_eq ?_ rfl
   all_goals (simp_all [nodeB, isInt, openS, opName] <;> (intros; omega))
end Go.Proofs.YtnjnjdebgkjfhaaGreatDoor

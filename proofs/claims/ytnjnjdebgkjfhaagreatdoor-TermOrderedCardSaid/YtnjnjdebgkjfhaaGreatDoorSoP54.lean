/-
  Contracts of the library, as the abstract layer speaks of them: a byte in a string, fields, the sort of strings; no condition beyond their own.
-/
import Derived.Test.YtnjnjdebgkjfhaaGreatDoorSoP52
import Derived.Test.YtnjnjdebgkjfhaaGreatDoorSoP53
import Derived.Sort.Walk0
set_option maxRecDepth 100000
set_option linter.unusedSimpArgs false
set_option linter.unusedVariables false
set_option maxHeartbeats 4000000
namespace Go.Proofs.YtnjnjdebgkjfhaaGreatDoor
open Go Go.Vo
open Nat (reduceAdd reduceSub reduceMul reduceLeDiff reduceLT reduceEqDiff)
open Int (reduceNeg)

theorem ctr50 (l : List LOp) (hl : l.length ≤ 1172812402961): CT 97 [avo l] (.own 1 ((l.map LOp.name).map .s) l.length) := by
 refine sem_intro (rx := false) (th := fun _ => none) mixed Tryz.func97 rfl (by kernel_rfl) (by kernel_rfl) (ac := ?_) ?_ g0 ?_
 rotate_left
 · simp only [strip, splitQ, stripOps, stripOp, hoist, List.filter_cons, List.filter_nil, List.nil_append, List.cons_append, isFree, anyPre, Region.binds, Bool.not_true, Bool.not_false, Bool.false_eq_true, if_true, if_false, Option.isNone_none, Option.isNone_some, Bool.true_and, Bool.false_and, List.map_nil, List.map_cons, List.isEmpty_nil, List.isEmpty_cons, List.append_nil]
   rfl
 · simp -implicitDefEqProofs (disch := omega) only [Tryz.f97, go_sem, List.replicate, simprocAttr]
   refine x_loopJ (fun (s : Nat × AV × List AObj) => [.k, .k, .k, .v (s.2.1), .k, .j, .k, .k, .v (.i .i64 (s.1 : Nat)), .j, .j, .j, .j, .j, .j, .j, .j, .j, .k]) (fun s => s.2.2) (fun s => s.1 ≤ l.length ∧ OutIs 1 0 s.2.2 s.2.1 (((l.take s.1).map LOp.name).map .s) s.1) (fun s => l.length - s.1) ((0, .e0, [])) ⟨Nat.zero_le _, outIs_e0⟩ rfl (by simp [Fits]) ?_
   rintro ⟨k, out, g⟩ j ⟨hk, ho⟩
   dsimp only at hk ho
   simp -implicitDefEqProofs (disch := omega) only [go_sem, simprocAttr]
   (repeat' (first | refine gT ?_ ?_ | refine gF ?_ ?_ | refine gC ?_ ?_ | refine And.intro (by omega) ?_ | (intro hr; have hc := hr; (try simp only [zda, zdb, zdc, zdd] at hc); simp -implicitDefEqProofs (disch := omega) only [hr, go_sem, simprocAttr]; (try clear hr))))
   · refine app_intro' (pre := []) (news := [.s (l.getD k default).name]) (m := 1) ho rfl rfl el22 zo9 sz9 by9 rfl (by decide) (by simp -implicitDefEqProofs (disch := omega) only [go_sem, simprocAttr]) (by simp -implicitDefEqProofs (disch := omega) only [go_sem, simprocAttr]) ⟨by omega, by omega⟩ ?_
     intro out' g' ho' _
     simp -implicitDefEqProofs (disch := omega) only [go_sem, simprocAttr]
     refine ⟨(k + 1, out', g'), ⟨by omega, ?_⟩, by simp; omega, rfl, by simp⟩
     rw [take_getD (d := default) (by omega), List.map_append, List.map_append]
     exact ho'
   · have h1 : k = l.length := by omega
     subst h1
     exact fin_out (pre := []) (by simpa using ho) persL_s

def stepUp (x : Str) (L : List Str) (b : Str × Str) : List Str := if b.1 = x ∧ L.contains b.2 = false then L ++ [b.2] else L
def stepsUp (l : List (Str × Str)) (x : Str) (L : List Str) : List Str := l.foldl (stepUp x) L
def climbG (l : List (Str × Str)) : Nat → Nat → List Str → List Str
 | 0, _, L => L
 | f + 1, i, L => if i < L.length then climbG l f (i + 1) (stepsUp l (L.getD i []) L) else L
def climb (l : List (Str × Str)) (a : Str) : List Str := climbG l (l.length + 1) 0 [a]

theorem stepUp_cases (x : Str) (L : List Str) (b : Str × Str) : (stepUp x L b = L) ∨ (b.1 = x ∧ L.contains b.2 = false ∧ stepUp x L b = L ++ [b.2]) := by
 unfold stepUp
 split
 · rename_i h; exact .inr ⟨h.1, h.2, rfl⟩
 · exact .inl rfl
structure Climbs (l : List (Str × Str)) (a : Str) (L : List Str) : Prop where
 nd : L.Nodup
 sub : ∀ x ∈ L, x = a ∨ ∃ b ∈ l, b.2 = x
 me : a ∈ L
theorem Climbs.step {l : List (Str × Str)} {a x : Str} {L : List Str} {b : Str × Str} (h : Climbs l a L) (hb : b ∈ l) : Climbs l a (stepUp x L b) := by
 rcases stepUp_cases x L b with e | ⟨_, h2, e⟩
 · rw [e]; exact h
 · rw [e]
   refine ⟨?_, ?_, by simp [h.me]⟩
   · rw [List.nodup_append]
     refine ⟨h.nd, by simp, ?_⟩
     intro y hy z hz hyz
     simp only [List.mem_singleton] at hz
     have : b.2 ∉ L := by simpa using h2
     exact this (hz ▸ hyz ▸ hy)
   · intro y hy
     rcases List.mem_append.1 hy with hy | hy
     · exact h.sub y hy
     · simp only [List.mem_singleton] at hy; exact .inr ⟨b, hb, hy.symm⟩
theorem nodup_sub_len {α : Type} [DecidableEq α] : ∀ {L M : List α}, L.Nodup → (∀ x ∈ L, x ∈ M) → L.length ≤ M.length
 | [], M, _, _ => Nat.zero_le _
 | x :: L, M, hn, hs => by
   rw [List.nodup_cons] at hn
   have hx := hs x (by simp)
   have := nodup_sub_len (L := L) (M := M.erase x) hn.2 (fun y hy => by
     have hne : y ≠ x := fun e => hn.1 (e ▸ hy)
     exact (List.mem_erase_of_ne hne).2 (hs y (by simp [hy])))
   rw [List.length_erase_of_mem hx] at this
   have hpos : 0 < M.length := List.length_pos_of_mem hx
   simp only [List.length_cons]; omega
theorem Climbs.len {l : List (Str × Str)} {a : Str} {L : List Str} (h : Climbs l a L) : L.length ≤ l.length + 1 := by
 have := nodup_sub_len (M := a :: l.map (·.2)) h.nd (fun x hx => by
   rcases h.sub x hx with h1 | ⟨b, h1, h2⟩
   · simp [h1]
   · simp only [List.mem_cons, List.mem_map]; exact .inr ⟨b, h1, h2⟩)
 simpa using this
theorem stepUp_prefix {x : Str} {L : List Str} {b : Str × Str} {i : Nat} (hi : i < L.length) : (stepUp x L b).getD i [] = L.getD i [] ∧ i < (stepUp x L b).length := by
 rcases stepUp_cases x L b with e | ⟨_, _, e⟩
 · rw [e]; exact ⟨rfl, hi⟩
 · rw [e]; simp [List.getD, List.getElem?_append_left hi]; omega
theorem climbG_done {l : List (Str × Str)} {i : Nat} {L : List Str} (h : L.length ≤ i) : ∀ f, climbG l f i L = L
 | 0 => rfl
 | f + 1 => by simp only [climbG]; rw [if_neg (by omega)]

theorem stepsUp_succ {l : List (Str × Str)} {x : Str} {L : List Str} {k : Nat} (h : k < l.length) : stepsUp (l.take (k + 1)) x L = stepUp x (stepsUp (l.take k) x L) (l.getD k ([], [])) := by
 rw [take_getD (d := ([], [])) h]; simp [stepsUp, List.foldl_append]

structure ClimbI (l : List (Str × Str)) (a : Str) (i : Nat) (L : List Str) : Prop where
 le : i ≤ L.length
 c : Climbs l a L
 eq : climbG l (l.length + 1 - i) i L = climb l a
theorem ClimbI.start (l : List (Str × Str)) (a : Str) : ClimbI l a 0 [a] := ⟨by simp, ⟨by simp, by simp, by simp⟩, rfl⟩
theorem ClimbI.next {l : List (Str × Str)} {a : Str} {i : Nat} {L : List Str} (h : ClimbI l a i L) (hi : i < L.length) (hc : Climbs l a (stepsUp l (L.getD i []) L)) (hl : i < (stepsUp l (L.getD i []) L).length) : ClimbI l a (i + 1) (stepsUp l (L.getD i []) L) := by
 refine ⟨hl, hc, ?_⟩
 have := h.c.len
 have e : l.length + 1 - i = (l.length + 1 - (i + 1)) + 1 := by omega
 rw [← h.eq, e, climbG, if_pos hi]

theorem ctr104 (s : LSig) (a : Str) (hb : s.below.length ≤ 1000000): CT 107 [.agg (sigCells s), .s a] (.own 1 ((climb s.below a).map .s) (climb s.below a).length) := by
 refine sem_intro (rx := false) (th := fun _ => none) mixed Tryz.func107 rfl (by kernel_rfl) (by kernel_rfl) (ac := ?_) ?_ g0 ?_
 rotate_left
 · simp only [strip, splitQ, stripOps, stripOp, hoist, List.filter_cons, List.filter_nil, List.nil_append, List.cons_append, isFree, anyPre, Region.binds, Bool.not_true, Bool.not_false, Bool.false_eq_true, if_true, if_false, Option.isNone_none, Option.isNone_some, Bool.true_and, Bool.false_and, List.map_nil, List.map_cons, List.isEmpty_nil, List.isEmpty_cons, List.append_nil]
   rfl
 · simp -implicitDefEqProofs (disch := omega) only [Tryz.f107, go_sem, List.replicate, simprocAttr]
   refine x_loopJ (fun (t : Nat × List Str × AV × List AObj) => [.k, .k, .k, .k, .k, .v (t.2.2.1), .v (.i .i64 (t.1 : Nat)), .k, .j, .k, .k, .j, .j, .j, .j, .j, .j, .j, .j, .j, .j, .j, .j, .j, .j, .j, .j, .j, .j, .j, .j, .j, .j, .j, .j, .j, .j, .j, .j, .j, .j, .j, .j, .j, .k]) (fun t => .box false [.sl (s.sorts.map .s) s.sorts.length, .sl (s.below.flatMap pairCells) s.below.length, .sl (s.ops.flatMap opCells) s.ops.length, .sl (s.funs.flatMap opCells) s.funs.length, .sl (s.values.map .s) s.values.length] :: t.2.2.2) (fun t => ClimbI s.below a t.1 t.2.1 ∧ OutIs 1 1 t.2.2.2 t.2.2.1 (t.2.1.map .s) t.2.1.length) (fun t => s.below.length + 1 - t.1) ((0, [a], .hs 1 0 1 false, [.arr false 1 [.s a]])) ⟨ClimbI.start _ _, .inr ⟨0, rfl, rfl, rfl⟩⟩ rfl (by simp [Fits]) ?_
   rintro ⟨i, L, out, g⟩ j ⟨hI, ho⟩
   dsimp only at hI ho
   have hlen := hI.c.len
   have hle := hI.le
   rcases ho with ⟨_, hnil, _⟩ | ⟨i0, rfl, hg, _⟩
   · exfalso
     have h1 : L = [] := by simpa using hnil
     have := hI.c.me
     simp [h1] at this
   simp -implicitDefEqProofs (disch := omega) only [hg, go_sem, simprocAttr]
   (repeat' (first | refine gT ?_ ?_ | refine gF ?_ ?_ | refine gC ?_ ?_ | refine And.intro (by omega) ?_ | (intro hr; have hc := hr; (try simp only [zda, zdb, zdc, zdd] at hc); simp -implicitDefEqProofs (disch := omega) only [hr, hg, go_sem, simprocAttr]; (try clear hr))))
   · have hcl : i < L.length := by simpa using hc
     refine x_loopJ (fun (t : Nat × List Str × AV × List AObj) => [.k, .k, .k, .k, .k, .v (t.2.2.1), .k, .k, .j, .k, .k, .k, .k, .k, .k, .k, .k, .k, .k, .k, .v (.i .i64 (t.1 : Nat)), .j, .j, .j, .j, .j, .j, .j, .j, .j, .j, .j, .j, .j, .j, .j, .j, .j, .j, .j, .j, .j, .j, .j, .k]) (fun t => .box false [.sl (s.sorts.map .s) s.sorts.length, .sl (s.below.flatMap pairCells) s.below.length, .sl (s.ops.flatMap opCells) s.ops.length, .sl (s.funs.flatMap opCells) s.funs.length, .sl (s.values.map .s) s.values.length] :: t.2.2.2) (fun t => t.1 ≤ s.below.length ∧ t.2.1 = stepsUp (s.below.take t.1) (L.getD i []) L ∧ Climbs s.below a t.2.1 ∧ (t.2.1.getD i [] = L.getD i [] ∧ i < t.2.1.length) ∧ OutIs 1 1 t.2.2.2 t.2.2.1 (t.2.1.map .s) t.2.1.length) (fun t => s.below.length - t.1) ((0, L, .hs (i0 + 1) 0 L.length false, g)) ⟨Nat.zero_le _, rfl, hI.c, ⟨rfl, hcl⟩, .inr ⟨i0, rfl, hg, by simp⟩⟩ rfl (by simp [Fits]) ?_
     rintro ⟨k, M, out, g⟩ j ⟨hk, hM, hc2, ⟨hget, hlt⟩, ho⟩
     dsimp only at hk hM hc2 hget hlt ho
     have hlenM := hc2.len
     have ho1 := ho
     rcases ho with ⟨_, hnil, _⟩ | ⟨i1, rfl, hg1, _⟩
     · exfalso
       have h1 : M = [] := by simpa using hnil
       simp [h1] at hlt
     have hi1 := lt_of_some hg1
     have hg2 : ∀ m, (g ++ m)[i1]? = some (.arr false 1 (M.map .s)) := fun m => by rw [List.getElem?_append_left hi1]; exact hg1
     simp -implicitDefEqProofs (disch := omega) only [hg2, go_sem, simprocAttr]
     (repeat' (first | refine gT ?_ ?_ | refine gF ?_ ?_ | refine gC ?_ ?_ | ((refine c_ctrE (ctr47 M (s.below.getD k ([], [])).2 (by omega)) ?_ ?_; (focus (simp -implicitDefEqProofs (disch := omega) only [hg2, avs, avb, avi, avo, sigCells, opCells, pairCells, go_sem, simprocAttr]; done))); simp -implicitDefEqProofs (disch := omega) only [hg2, go_sem, simprocAttr]) | refine And.intro (by omega) ?_ | (intro hr; have hc := hr; (try simp only [zda, zdb, zdc, zdd] at hc); simp -implicitDefEqProofs (disch := omega) only [hr, hg2, go_sem, simprocAttr]; (try clear hr))))
     · have e : stepUp (L.getD i []) M (s.below.getD k ([], [])) = M ++ [(s.below.getD k ([], [])).2] := if_pos ⟨by rw [← hget]; assumption, hc⟩
       have hp := stepUp_prefix (x := L.getD i []) (b := s.below.getD k ([], [])) hlt
       have hst := hc2.step (x := L.getD i []) (mem_getD (d := ([], [])) (show k < s.below.length by omega))
       rw [e] at hp hst
       refine ⟨(k + 1, M ++ [(s.below.getD k ([], [])).2], .hs (g.length + 2 + 1) 0 (M.length + 1) false, _), ⟨by omega, ?_, hst, ⟨hp.1.trans hget, hp.2⟩, .inr ⟨g.length + 2, by simp, ?_, by simp⟩⟩, by simp; omega, rfl, by simp⟩
       · rw [stepsUp_succ (by omega), ← hM, e]
       · simp
     · have e : stepUp (L.getD i []) M (s.below.getD k ([], [])) = M := if_neg (by rw [hc]; simp)
       refine ⟨(k + 1, M, _, _), ⟨by omega, ?_, hc2, ⟨hget, hlt⟩, ho1.more _⟩, by simp; omega, rfl, by simp⟩
       rw [stepsUp_succ (by omega), ← hM, e]
     · have e : stepUp (L.getD i []) M (s.below.getD k ([], [])) = M := if_neg (by rw [hget] at hc; exact fun h => hc h.1)
       refine ⟨(k + 1, M, _, _), ⟨by omega, ?_, hc2, ⟨hget, hlt⟩, ho1.more _⟩, by simp; omega, rfl, by simp⟩
       rw [stepsUp_succ (by omega), ← hM, e]
     · have h1 : s.below.take k = s.below := List.take_of_length_le (by omega)
       rw [h1] at hM
       subst hM
       exact ⟨(i + 1, _, _, _), ⟨hI.next hcl hc2 hlt, ho1⟩, by simp; omega, rfl, by simp⟩
   · have hd := hI.eq
     rw [climbG_done (by omega)] at hd
     subst hd
     exact fin_out (pre := [_]) (.inr ⟨i0, rfl, hg, by simp⟩) persL_s

theorem ne22_3 : (22 : Nat) ≠ 3 := by decide
theorem cap22 {h : List AObj} : abuiltin Tryz.prog h .cap #[22] [.e0] = some (.i .i64 0, h) := cap_e0 un22
theorem appZ22 {dr : Option Nat} {d : Option Nat} {os : List AOper} {K : List AV → List AObj → Prop} {env : List AV} {h : List AObj} {s x : Operand} : runOp Tryz.prog G0 dr (.call ⟨.builtin .append, #[s, x], #[22, 3]⟩) d os K env h = zerosC Tryz.prog G0 dr (Tryz.prog.underlying 3) (azeros Tryz.prog h 22 (aev G0 env s) (aev G0 env x)) d os K env := r_appendZ ne22_3
theorem cast0 : ((0 : Nat) : Int) = 0 := rfl
theorem rep_flat {a : AV} : ∀ {n : Nat}, (List.replicate n [a]).flatten = List.replicate n a
 | 0 => rfl
 | n + 1 => by rw [List.replicate_succ, List.flatten_cons, rep_flat]; rfl
attribute [go_sem] cap22 cast0 Int.sub_zero rep_flat List.length_replicate false_and Nat.zero_le
attribute [go_sem ↓] appZ22
theorem ctr132 (n : Nat) (hn : n ≤ 1000000): CT 176 [.e0, .i .i64 n] (.own 1 [] 0) := by
 refine sem_intro (rx := false) (th := fun _ => none) mixed Tryz.func176 rfl (by kernel_rfl) (by kernel_rfl) (ac := ?_) ?_ g0 ?_
 rotate_left
 · simp only [strip, splitQ, stripOps, stripOp, hoist, List.filter_cons, List.filter_nil, List.nil_append, List.cons_append, isFree, anyPre, Region.binds, Bool.not_true, Bool.not_false, Bool.false_eq_true, if_true, if_false, Option.isNone_none, Option.isNone_some, Bool.true_and, Bool.false_and, List.map_nil, List.map_cons, List.isEmpty_nil, List.isEmpty_cons, List.append_nil]
   rfl
 · simp -implicitDefEqProofs (disch := omega) only [Tryz.f176, go_sem, List.replicate, simprocAttr]
   (repeat' (first | refine gT ?_ ?_ | refine gF ?_ ?_ | refine gC ?_ ?_ | refine And.intro (by omega) ?_ | (intro hr; have hc := hr; (try simp only [zda, zdb, zdc, zdd] at hc); simp -implicitDefEqProofs (disch := omega) only [hr, go_sem, simprocAttr]; (try clear hr))))
   · exfalso; omega
   · rw [if_pos (by omega), if_neg (by omega)]
     simp -implicitDefEqProofs (disch := omega) only [go_sem, simprocAttr]
     exact .inr ⟨⟨rfl, rfl, _, rfl, by simp, by simp, rfl⟩, by simp [finIds], by simp [finIds, finRch]⟩
   · exact .inr ⟨⟨rfl, rfl⟩, by simp [finIds], by simp [finIds]⟩
theorem map_avs_get {l : List (List Str)} {k : Nat} (h : k < l.length) : (l.map avs)[k]? = some (avs (l.getD k [])) := by simp [h]
theorem persL_avss {l : List (List Str)} : persL (l.map avs) = true := by
 induction l with
 | nil => rfl
 | cons x l ih => simp [persL, ih, persL_avs]
attribute [go_sem] map_avs_get persL_avss
def sumL (l : List (List Str)) : Nat := l.flatten.length
@[simp] theorem sumL_nil : sumL [] = 0 := rfl
theorem sumL_succ {l : List (List Str)} {k : Nat} (h : k < l.length) : sumL (l.take (k + 1)) = sumL (l.take k) + (l.getD k []).length := by
 rw [take_getD (d := []) h]; simp [sumL]
theorem sumL_le {l : List (List Str)} {k : Nat} : sumL (l.take k) ≤ sumL l := by
 have h : (l.take k ++ l.drop k).flatten.length = l.flatten.length := by rw [List.take_append_drop]
 unfold sumL
 rw [List.flatten_append, List.length_append] at h
 omega
theorem sumL_at {l : List (List Str)} {k : Nat} (h : k < l.length) : sumL (l.take k) + (l.getD k []).length ≤ sumL l := by
 rw [← sumL_succ h]; exact sumL_le
theorem ctr103 (l : List (List Str)) (hl : l.length ≤ 1000) (hs : sumL l ≤ 1000000): CT 106 [.sl (l.map avs) l.length] (.own 1 (l.flatten.map .s) l.flatten.length) := by
 refine sem_intro (rx := false) (th := fun _ => none) mixed Tryz.func106 rfl (by kernel_rfl) (by kernel_rfl) (ac := ?_) ?_ g0 ?_
 rotate_left
 · simp only [strip, splitQ, stripOps, stripOp, hoist, List.filter_cons, List.filter_nil, List.nil_append, List.cons_append, isFree, anyPre, Region.binds, Bool.not_true, Bool.not_false, Bool.false_eq_true, if_true, if_false, Option.isNone_none, Option.isNone_some, Bool.true_and, Bool.false_and, List.map_nil, List.map_cons, List.isEmpty_nil, List.isEmpty_cons, List.append_nil]
   rfl
 · simp -implicitDefEqProofs (disch := omega) only [Tryz.f106, go_sem, List.replicate, simprocAttr]
   refine x_loopJ (fun (k : Nat) => [.k, .k, .k, .v (.i .i64 (sumL (l.take k) : Nat)), .k, .j, .k, .k, .k, .k, .k, .v (.i .i64 k), .j, .j, .j, .j, .j, .j, .j, .j, .j, .j, .j, .k, .k, .k, .k, .k, .k, .k, .k, .k, .k, .k, .k, .k]) (fun k => []) (fun k => k ≤ l.length) (fun k => l.length - k) (0) (Nat.zero_le _) rfl (by simp [Fits]) ?_
   rintro k j hk
   have hat : k < l.length → sumL (l.take k) + (l.getD k []).length ≤ sumL l := sumL_at
   have hkk := sumL_le (l := l) (k := k)
   simp -implicitDefEqProofs (disch := omega) only [go_sem, simprocAttr]
   (repeat' (first | refine gT ?_ ?_ | refine gF ?_ ?_ | refine gC ?_ ?_ | refine And.intro (by omega) ?_ | (intro hr; have hc := hr; (try simp only [zda, zdb, zdc, zdd] at hc); simp -implicitDefEqProofs (disch := omega) only [hr, go_sem, simprocAttr]; (try clear hr))))
   · exfalso; omega
   · refine ⟨k + 1, by omega, by omega, ?_, by simp⟩
     rw [sumL_succ (by omega)]; simp
   · have h1 : k = l.length := by omega
     subst h1
     refine c_ctr0 (ctr132 (sumL l) (by omega)) (by simp -implicitDefEqProofs (disch := omega) only [snap0, go_sem, simprocAttr]) ?_
     simp -implicitDefEqProofs (disch := omega) only [go_sem, simprocAttr]
     refine x_loopJ (fun (t : Nat × AV × List AObj) => [.k, .k, .k, .k, .k, .k, .v (t.2.1), .k, .j, .k, .k, .k, .k, .k, .k, .k, .k, .k, .k, .k, .k, .k, .k, .k, .k, .k, .k, .v (.i .i64 (t.1 : Nat)), .j, .j, .j, .j, .j, .j, .j, .k]) (fun t => t.2.2) (fun t => t.1 ≤ l.length ∧ OutIs 1 0 t.2.2 t.2.1 ((l.take t.1).flatten.map .s) (sumL (l.take t.1))) (fun t => l.length - t.1) ((0, .hs 0 0 0 false, [.arr false 1 []])) ⟨Nat.zero_le _, .inr ⟨0, rfl, rfl, rfl⟩⟩ rfl (by simp [Fits]) ?_
     rintro ⟨k, out, g⟩ j ⟨hk, ho⟩
     dsimp only at hk ho
     have hat : k < l.length → sumL (l.take k) + (l.getD k []).length ≤ sumL l := sumL_at
     simp -implicitDefEqProofs (disch := omega) only [go_sem, simprocAttr]
     (repeat' (first | refine gT ?_ ?_ | refine gF ?_ ?_ | refine gC ?_ ?_ | refine And.intro (by omega) ?_ | (intro hr; have hc := hr; (try simp only [zda, zdb, zdc, zdd] at hc); simp -implicitDefEqProofs (disch := omega) only [hr, go_sem, simprocAttr]; (try clear hr))))
     · refine app_intro' (more := []) (pre := []) (news := (l.getD k []).map .s) (m := (l.getD k []).length) ho rfl (by simp) el22 zo9 sz9 by9 rfl (by decide) (by simp -implicitDefEqProofs (disch := omega) only [go_sem, simprocAttr]) (by simp -implicitDefEqProofs (disch := omega) only [go_sem, simprocAttr]) ⟨by omega, by omega⟩ ?_
       intro out' g' ho' _
       simp -implicitDefEqProofs (disch := omega) only [go_sem, simprocAttr]
       refine ⟨(k + 1, out', g'), ⟨by omega, ?_⟩, by simp; omega, rfl, by simp⟩
       dsimp only
       rw [sumL_succ (by omega), take_getD (d := []) (by omega), List.flatten_append, List.map_append]
       simpa using ho'
     · have h1 : k = l.length := by omega
       subst h1
       rw [List.take_length] at ho
       exact fin_out (pre := []) ho persL_s

structure Small (s : LSig) : Prop where
 sorts : s.sorts.length ≤ 100
 below : s.below.length ≤ 1000
 ops : s.ops.length ≤ 1000
 funs : s.funs.length ≤ 1000
 values : s.values.length ≤ 1000
def keysOf (s : LSig) : List Str := alwaysA ++ s.sorts
def ups (s : LSig) (a : Str) : AV := avs (climb s.below a)
def aboveMap (s : LSig) : AV := .mapv ((keysOf s).map .s) ((keysOf s).map (ups s))
def opMap (l : List LOp) : AV := .mapv ((l.map LOp.name).map .s) (l.map elO)
def bookCells (s : LSig) : List AV := sigCells s ++ [aboveMap s, opMap s.ops, opMap s.funs]
def bookAV (s : LSig) : AV := .box (bookCells s) 0
structure Distinct (s : LSig) : Prop where
 keys : (keysOf s).Nodup
 ops : (s.ops.map LOp.name).Nodup
 funs : (s.funs.map LOp.name).Nodup

theorem persL_ups {s : LSig} : ∀ {l : List Str}, persL (l.map (ups s)) = true
 | [] => rfl
 | x :: l => by simp only [List.map_cons, persL, ups, persL_avs, persL_ups, Bool.and_self]
theorem persL_elO : ∀ {l : List LOp}, persL (l.map elO) = true
 | [] => rfl
 | x :: l => by simp [elO, persL, pers, opCells, avs, avi, avb, persL_s, persL_i, persL_pair, persL_elO]
theorem persL_elB : ∀ {l : List (Str × Str)}, persL (l.map elB) = true
 | [] => rfl
 | x :: l => by simp [elB, persL, pers, pairCells, persL_elB]
attribute [go_sem] persL_ups persL_elO persL_elB
theorem ctr51 (s : LSig) (hs : Small s) (hd : Distinct s): CT 55 [.agg (sigCells s)] (bookAV s) := by
 refine sem_intro (rx := false) (th := fun _ => none) mixed Tryz.func55 rfl (by kernel_rfl) (by kernel_rfl) (ac := ?_) ?_ g0 ?_
 rotate_left
 · simp only [strip, splitQ, stripOps, stripOp, hoist, List.filter_cons, List.filter_nil, List.nil_append, List.cons_append, isFree, anyPre, Region.binds, Bool.not_true, Bool.not_false, Bool.false_eq_true, if_true, if_false, Option.isNone_none, Option.isNone_some, Bool.true_and, Bool.false_and, List.map_nil, List.map_cons, List.isEmpty_nil, List.isEmpty_cons, List.append_nil]
   rfl
 · simp -implicitDefEqProofs (disch := omega) only [Tryz.f55, go_sem, List.replicate, ↓reduceIte, reduceAdd, reduceSub, reduceMul, reduceLeDiff, reduceLT, reduceEqDiff, reduceNeg, Nat.reduceBEq]
   have h1 := hs.sorts
   have h2 := hs.below
   have h3 := hs.ops
   have h4 := hs.funs
   (repeat' (first | refine gT ?_ ?_ | refine gF ?_ ?_ | refine gC ?_ ?_ | ((refine c_ctrE (ctr48) ?_ ?_; (focus (simp -implicitDefEqProofs (disch := omega) only [avs, avb, avi, avo, sigCells, opCells, pairCells, go_sem, ↓reduceIte, reduceAdd, reduceSub, reduceMul, reduceLeDiff, reduceLT, reduceEqDiff, reduceNeg, Nat.reduceBEq]; done))); simp -implicitDefEqProofs (disch := omega) only [go_sem, ↓reduceIte, reduceAdd, reduceSub, reduceMul, reduceLeDiff, reduceLT, reduceEqDiff, reduceNeg, Nat.reduceBEq]) | refine And.intro (by omega) ?_ | (intro hr; have hc := hr; (try simp only [zda, zdb, zdc, zdd] at hc); simp -implicitDefEqProofs (disch := omega) only [hr, go_sem, ↓reduceIte, reduceAdd, reduceSub, reduceMul, reduceLeDiff, reduceLT, reduceEqDiff, reduceNeg, Nat.reduceBEq]; (try clear hr))))
   refine c_ctrE (ctr103 [alwaysA, s.sorts] (by simp) ?_) ?_ ?_
   · simp [sumL, alwaysA]; omega
   · simp -implicitDefEqProofs (disch := omega) only [alwaysA, go_sem, ↓reduceIte, reduceAdd, reduceSub, reduceMul, reduceLeDiff, reduceLT, reduceEqDiff, reduceNeg, Nat.reduceBEq]
   · simp -implicitDefEqProofs (disch := omega) only [go_sem, ↓reduceIte, reduceAdd, reduceSub, reduceMul, reduceLeDiff, reduceLT, reduceEqDiff, reduceNeg, Nat.reduceBEq]
     have hK : [alwaysA, s.sorts].flatten = keysOf s := by simp [keysOf]
     have hKl : (keysOf s).length ≤ 107 := by simp [keysOf, alwaysA]; omega
     rw [hK]
     refine x_loopG (fun (k : Nat) => [.k, .k, .k, .k, .k, .j, .k, .k, .k, .k, .k, .k, .k, .k, .k, .k, .k, .k, .k, .k, .k, .k, .v (.i .i64 k), .j, .j, .j, .j, .j, .j, .j, .j, .j, .j, .j, .j, .k, .k, .k, .k, .k, .k, .k, .k, .k, .k, .k, .k, .k, .k, .k, .k, .k, .k, .k, .k, .k, .k, .k, .k, .k, .k, .k, .k, .k, .k, .k]) (fun k => [.box false [.sl (s.sorts.map .s) s.sorts.length, .sl (s.below.flatMap pairCells) s.below.length, .sl (s.ops.flatMap opCells) s.ops.length, .sl (s.funs.flatMap opCells) s.funs.length, .sl (s.values.map .s) s.values.length], .map false (((keysOf s).take k).map .s) (((keysOf s).take k).map (ups s)), .map false [] [], .map false [] [], .box false [.sl (s.sorts.map .s) s.sorts.length, .sl (s.below.flatMap pairCells) s.below.length, .sl (s.ops.flatMap opCells) s.ops.length, .sl (s.funs.flatMap opCells) s.funs.length, .sl (s.values.map .s) s.values.length, .mp 1, .mp 2, .mp 3], .arr false 1 (alwaysA.map .s), .arr false 1 [.hs 5 0 alwaysA.length false, .sl (s.sorts.map .s) s.sorts.length], .arr false 1 ((keysOf s).map .s)]) (fun k => k ≤ (keysOf s).length) (fun k => (keysOf s).length - k) (0) _ (Nat.zero_le _) rfl (by simp [Fits]) ?_
     rintro k g j hk
     simp -implicitDefEqProofs (disch := omega) only [go_sem, ↓reduceIte, reduceAdd, reduceSub, reduceMul, reduceLeDiff, reduceLT, reduceEqDiff, reduceNeg, Nat.reduceBEq]
     (repeat' (first | refine gT ?_ ?_ | refine gF ?_ ?_ | refine gC ?_ ?_ | refine And.intro (by omega) ?_ | (intro hr; have hc := hr; (try simp only [zda, zdb, zdc, zdd] at hc); simp -implicitDefEqProofs (disch := omega) only [hr, go_sem, ↓reduceIte, reduceAdd, reduceSub, reduceMul, reduceLeDiff, reduceLT, reduceEqDiff, reduceNeg, Nat.reduceBEq]; (try clear hr))))
     · refine c_ctrE (ctr104 s ((keysOf s).getD k []) (by omega)) ?_ ?_
       · simp -implicitDefEqProofs (disch := omega) only [go_sem, ↓reduceIte, reduceAdd, reduceSub, reduceMul, reduceLeDiff, reduceLT, reduceEqDiff, reduceNeg, Nat.reduceBEq]
       · have hno := findIdx_noG (nodup_noG (d := []) hd.keys (show k < (keysOf s).length by omega))
         simp -implicitDefEqProofs (disch := omega) only [keyOK, key9, hno, go_sem, ↓reduceIte, reduceAdd, reduceSub, reduceMul, reduceLeDiff, reduceLT, reduceEqDiff, reduceNeg, Nat.reduceBEq]
         refine ⟨k + 1, _, by omega, by omega, congr (congrArg List.cons rfl) (congr (congrArg List.cons ?_) rfl), by simp⟩
         rw [take_getD (d := []) (by omega), List.map_append, List.map_append]; rfl
     · have hk2 : k = (keysOf s).length := by omega
       subst hk2
       refine x_loopG (fun (k : Nat) => [.k, .k, .k, .k, .k, .k, .k, .j, .k, .k, .k, .k, .k, .k, .k, .k, .k, .k, .k, .k, .k, .k, .k, .k, .k, .k, .k, .k, .k, .k, .k, .k, .k, .k, .k, .k, .k, .k, .v (.i .i64 k), .j, .j, .j, .j, .j, .j, .j, .j, .j, .j, .j, .k, .k, .k, .k, .k, .k, .k, .k, .k, .k, .k, .k, .k, .k, .k, .k]) (fun k => [.box false [.sl (s.sorts.map .s) s.sorts.length, .sl (s.below.flatMap pairCells) s.below.length, .sl (s.ops.flatMap opCells) s.ops.length, .sl (s.funs.flatMap opCells) s.funs.length, .sl (s.values.map .s) s.values.length], .map false ((keysOf s).map .s) ((keysOf s).map (ups s)), .map false (((s.ops.take k).map LOp.name).map .s) ((s.ops.take k).map elO), .map false [] [], .box false [.sl (s.sorts.map .s) s.sorts.length, .sl (s.below.flatMap pairCells) s.below.length, .sl (s.ops.flatMap opCells) s.ops.length, .sl (s.funs.flatMap opCells) s.funs.length, .sl (s.values.map .s) s.values.length, .mp 1, .mp 2, .mp 3], .arr false 1 (alwaysA.map .s), .arr false 1 [.hs 5 0 alwaysA.length false, .sl (s.sorts.map .s) s.sorts.length], .arr false 1 ((keysOf s).map .s)]) (fun k => k ≤ s.ops.length) (fun k => s.ops.length - k) (0) _ (Nat.zero_le _) rfl (by simp [Fits]) ?_
       rintro k g j hk
       simp -implicitDefEqProofs (disch := omega) only [go_sem, ↓reduceIte, reduceAdd, reduceSub, reduceMul, reduceLeDiff, reduceLT, reduceEqDiff, reduceNeg, Nat.reduceBEq]
       (repeat' (first | refine gT ?_ ?_ | refine gF ?_ ?_ | refine gC ?_ ?_ | refine And.intro (by omega) ?_ | (intro hr; have hc := hr; (try simp only [zda, zdb, zdc, zdd] at hc); simp -implicitDefEqProofs (disch := omega) only [hr, go_sem, ↓reduceIte, reduceAdd, reduceSub, reduceMul, reduceLeDiff, reduceLT, reduceEqDiff, reduceNeg, Nat.reduceBEq]; (try clear hr))))
       · have hkn : (s.ops.getD k default).name = (s.ops.map LOp.name).getD k [] := by simp [List.getD, show k < s.ops.length by omega]
         have hno := findIdx_noG (nodup_noG (d := []) hd.ops (show k < (s.ops.map LOp.name).length by simp; omega))
         rw [← hkn, ← List.map_take] at hno
         simp -implicitDefEqProofs (disch := omega) only [keyOK, key9, hno, go_sem, ↓reduceIte, reduceAdd, reduceSub, reduceMul, reduceLeDiff, reduceLT, reduceEqDiff, reduceNeg, Nat.reduceBEq]
         refine ⟨k + 1, _, by omega, by omega, congr (congrArg List.cons rfl) (congr (congrArg List.cons rfl) (congr (congrArg List.cons ?_) rfl)), by simp⟩
         rw [take_getD (d := default) (by omega), List.map_append, List.map_append, List.map_append]; rfl
       · have hk2 : k = s.ops.length := by omega
         subst hk2
         refine x_loopG (fun (k : Nat) => [.k, .k, .k, .k, .k, .k, .k, .k, .k, .j, .k, .k, .k, .k, .k, .k, .k, .k, .k, .k, .k, .k, .k, .k, .k, .k, .k, .k, .k, .k, .k, .k, .k, .k, .k, .k, .k, .k, .k, .k, .k, .k, .k, .k, .k, .k, .k, .k, .k, .k, .k, .k, .k, .v (.i .i64 k), .j, .j, .j, .j, .j, .j, .j, .j, .j, .j, .j, .k]) (fun k => [.box false [.sl (s.sorts.map .s) s.sorts.length, .sl (s.below.flatMap pairCells) s.below.length, .sl (s.ops.flatMap opCells) s.ops.length, .sl (s.funs.flatMap opCells) s.funs.length, .sl (s.values.map .s) s.values.length], .map false ((keysOf s).map .s) ((keysOf s).map (ups s)), .map false ((s.ops.map LOp.name).map .s) (s.ops.map elO), .map false (((s.funs.take k).map LOp.name).map .s) ((s.funs.take k).map elO), .box false [.sl (s.sorts.map .s) s.sorts.length, .sl (s.below.flatMap pairCells) s.below.length, .sl (s.ops.flatMap opCells) s.ops.length, .sl (s.funs.flatMap opCells) s.funs.length, .sl (s.values.map .s) s.values.length, .mp 1, .mp 2, .mp 3], .arr false 1 (alwaysA.map .s), .arr false 1 [.hs 5 0 alwaysA.length false, .sl (s.sorts.map .s) s.sorts.length], .arr false 1 ((keysOf s).map .s)]) (fun k => k ≤ s.funs.length) (fun k => s.funs.length - k) (0) _ (Nat.zero_le _) rfl (by simp [Fits]) ?_
         rintro k g j hk
         simp -implicitDefEqProofs (disch := omega) only [go_sem, ↓reduceIte, reduceAdd, reduceSub, reduceMul, reduceLeDiff, reduceLT, reduceEqDiff, reduceNeg, Nat.reduceBEq]
         (repeat' (first | refine gT ?_ ?_ | refine gF ?_ ?_ | refine gC ?_ ?_ | refine And.intro (by omega) ?_ | (intro hr; have hc := hr; (try simp only [zda, zdb, zdc, zdd] at hc); simp -implicitDefEqProofs (disch := omega) only [hr, go_sem, ↓reduceIte, reduceAdd, reduceSub, reduceMul, reduceLeDiff, reduceLT, reduceEqDiff, reduceNeg, Nat.reduceBEq]; (try clear hr))))
         · have hkn : (s.funs.getD k default).name = (s.funs.map LOp.name).getD k [] := by simp [List.getD, show k < s.funs.length by omega]
           have hno := findIdx_noG (nodup_noG (d := []) hd.funs (show k < (s.funs.map LOp.name).length by simp; omega))
           rw [← hkn, ← List.map_take] at hno
           simp -implicitDefEqProofs (disch := omega) only [keyOK, key9, hno, go_sem, ↓reduceIte, reduceAdd, reduceSub, reduceMul, reduceLeDiff, reduceLT, reduceEqDiff, reduceNeg, Nat.reduceBEq]
           refine ⟨k + 1, _, by omega, by omega, congr (congrArg List.cons rfl) (congr (congrArg List.cons rfl) (congr (congrArg List.cons rfl) (congr (congrArg List.cons ?_) rfl))), by simp⟩
           rw [take_getD (d := default) (by omega), List.map_append, List.map_append, List.map_append]; rfl
         · refine .inr ⟨?_, by simp [finIds, bookAV], by simp [finIds, bookAV]⟩
           simp only [bookAV, finOK]
           simp -implicitDefEqProofs (disch := omega) only [bookCells, aboveMap, opMap, go_sem, ↓reduceIte, reduceAdd, reduceSub, reduceMul, reduceLeDiff, reduceLT, reduceEqDiff, reduceNeg, Nat.reduceBEq]

theorem stepsUp_climbs {l : List (Str × Str)} {a x : Str} : ∀ (m : List (Str × Str)) (L : List Str), (∀ b ∈ m, b ∈ l) → Climbs l a L → Climbs l a (stepsUp m x L)
 | [], L, _, h => h
 | b :: m, L, hm, h => stepsUp_climbs m _ (fun c hc => hm c (by simp [hc])) (h.step (hm b (by simp)))
theorem climbG_climbs {l : List (Str × Str)} {a : Str} : ∀ (f i : Nat) (L : List Str), Climbs l a L → Climbs l a (climbG l f i L)
 | 0, i, L, h => h
 | f + 1, i, L, h => by
   simp only [climbG]
   split
   · exact climbG_climbs f _ _ (stepsUp_climbs l L (fun _ h => h) h)
   · exact h
theorem climb_climbs (l : List (Str × Str)) (a : Str) : Climbs l a (climb l a) := climbG_climbs _ _ _ ⟨by simp, by simp, by simp⟩
theorem climb_len (l : List (Str × Str)) (a : Str) : (climb l a).length ≤ l.length + 1 := (climb_climbs l a).len

theorem look_yes {l : List Str} {x : Str} (h : l.contains x = true) : ∃ i, (l.findIdx? fun y => decide (x = y)) = some i ∧ ∀ {β : Type} (f : Str → β), (l.map f)[i]? = some (f x) := by
 cases hf : l.findIdx? fun y => decide (x = y) with
 | none =>
   rw [List.findIdx?_eq_none_iff] at hf
   have hm : x ∈ l := by simpa using h
   have := hf x hm
   simp at this
 | some i =>
   rw [List.findIdx?_eq_some_iff_getElem] at hf
   obtain ⟨hi, hx, _⟩ := hf
   have hx : x = l[i] := by simpa using hx
   exact ⟨i, rfl, fun f => by simp [hi, ← hx]⟩
attribute [go_sem] keyOK key9
theorem book_get0 {s : LSig} : (bookCells s)[0]? = some (avs s.sorts) := rfl
theorem book_get4 {s : LSig} : (bookCells s)[4]? = some (avs s.values) := rfl
theorem book_get5 {s : LSig} : (bookCells s)[5]? = some (.mapv ((keysOf s).map .s) ((keysOf s).map (ups s))) := rfl
theorem book_get6 {s : LSig} : (bookCells s)[6]? = some (.mapv ((s.ops.map LOp.name).map .s) (s.ops.map elO)) := rfl
theorem book_get7 {s : LSig} : (bookCells s)[7]? = some (.mapv ((s.funs.map LOp.name).map .s) (s.funs.map elO)) := rfl
attribute [go_sem] bookAV book_get0 book_get4 book_get5 book_get6 book_get7
def existsA (s : LSig) (a : Str) : Bool := (keysOf s).contains a
theorem pers_book {s : LSig} : pers (bookAV s) = true := by
 simp only [bookAV, bookCells, pers, persL, sigCells, avs, avb, avo, List.cons_append, List.nil_append, persL_s, persL_pair, persL_op, aboveMap, opMap, persL_ups, persL_elO, Bool.and_self]
theorem persL_book {s : LSig} : persL (bookCells s) = true := by
 have := pers_book (s := s)
 simpa [bookAV, pers] using this
attribute [go_sem] persL_book
theorem ctr54 (s : LSig) (x : Str): CT 100 [bookAV s, .s x] (.b (existsA s x)) := by
 refine sem_intro (rx := false) (th := fun _ => none) mixed Tryz.func100 rfl (by kernel_rfl) (by kernel_rfl) (ac := ?_) ?_ g0 ?_
 rotate_left
 · simp only [strip, splitQ, stripOps, stripOp, hoist, List.filter_cons, List.filter_nil, List.nil_append, List.cons_append, isFree, anyPre, Region.binds, Bool.not_true, Bool.not_false, Bool.false_eq_true, if_true, if_false, Option.isNone_none, Option.isNone_some, Bool.true_and, Bool.false_and, List.map_nil, List.map_cons, List.isEmpty_nil, List.isEmpty_cons, List.append_nil]
   rfl
 · simp -implicitDefEqProofs (disch := omega) only [Tryz.f100, go_sem, List.replicate, simprocAttr]
   by_cases hx : (keysOf s).contains x = true
   · obtain ⟨i, hf, hv⟩ := look_yes hx
     simp -implicitDefEqProofs (disch := omega) only [hf, hv, go_sem, simprocAttr]
     exact fin_eq (by rw [existsA, hx]) rfl
   · have hx := Bool.eq_false_iff.2 hx
     simp -implicitDefEqProofs (disch := omega) only [findIdx_no hx, go_sem, simprocAttr]
     exact fin_eq (by rw [existsA, hx]) rfl
def anyS : Str := [65, 110, 121]
def above (s : LSig) (x : Str) : List Str := if existsA s x then climb s.below x else []
def atMost (s : LSig) (x y : Str) : Bool := decide (y = anyS) || (above s x).contains y
theorem ctr71 (s : LSig) (x y : Str) (hs : Small s): CT 121 [bookAV s, .s x, .s y] (.b (atMost s x y)) := by
 refine sem_intro (rx := false) (th := fun _ => none) mixed Tryz.func121 rfl (by kernel_rfl) (by kernel_rfl) (ac := ?_) ?_ g0 ?_
 rotate_left
 · simp only [strip, splitQ, stripOps, stripOp, hoist, List.filter_cons, List.filter_nil, List.nil_append, List.cons_append, isFree, anyPre, Region.binds, Bool.not_true, Bool.not_false, Bool.false_eq_true, if_true, if_false, Option.isNone_none, Option.isNone_some, Bool.true_and, Bool.false_and, List.map_nil, List.map_cons, List.isEmpty_nil, List.isEmpty_cons, List.append_nil]
   rfl
 · simp -implicitDefEqProofs (disch := omega) only [Tryz.f121, go_sem, List.replicate, simprocAttr]
   have hl := climb_len s.below x
   have h2 := hs.below
   by_cases hx : (keysOf s).contains x = true
   · obtain ⟨i, hf, hv⟩ := look_yes hx
     (repeat' (first | refine gT ?_ ?_ | refine gF ?_ ?_ | refine gC ?_ ?_ | ((refine c_ctrE (ctr47 (climb s.below x) y (by omega)) ?_ ?_; (focus (simp -implicitDefEqProofs (disch := omega) only [hf, hv, ups, avs, avb, avi, avo, sigCells, opCells, pairCells, go_sem, simprocAttr]; done))); simp -implicitDefEqProofs (disch := omega) only [hf, hv, ups, go_sem, simprocAttr]) | refine And.intro (by omega) ?_ | (intro hr; have hc := hr; (try simp only [zda, zdb, zdc, zdd] at hc); simp -implicitDefEqProofs (disch := omega) only [hr, hf, hv, ups, go_sem, simprocAttr]; (try clear hr))))
     all_goals (refine fin_eq ?_ (by rfl))
     all_goals simp_all [atMost, above, existsA, anyS]
   · have hx := Bool.eq_false_iff.2 hx
     (repeat' (first | refine gT ?_ ?_ | refine gF ?_ ?_ | refine gC ?_ ?_ | ((refine c_ctrE (ctr47 [] y (by simp)) ?_ ?_; (focus (simp -implicitDefEqProofs (disch := omega) only [findIdx_no hx, avs, avb, avi, avo, sigCells, opCells, pairCells, go_sem, simprocAttr]; done))); simp -implicitDefEqProofs (disch := omega) only [findIdx_no hx, go_sem, simprocAttr]) | refine And.intro (by omega) ?_ | (intro hr; have hc := hr; (try simp only [zda, zdb, zdc, zdd] at hc); simp -implicitDefEqProofs (disch := omega) only [hr, findIdx_no hx, go_sem, simprocAttr]; (try clear hr))))
     all_goals (refine fin_eq ?_ (by rfl))
     all_goals simp_all [atMost, above, existsA, anyS]
def meets (s : LSig) (x y : Str) : Bool := atMost s x y || atMost s y x
theorem ctr85 (s : LSig) (x y : Str) (hs : Small s): CT 105 [bookAV s, .s x, .s y] (.b (meets s x y)) := by
 refine sem_intro (rx := false) (th := fun _ => none) mixed Tryz.func105 rfl (by kernel_rfl) (by kernel_rfl) (ac := ?_) ?_ g0 ?_
 rotate_left
 · simp only [strip, splitQ, stripOps, stripOp, hoist, List.filter_cons, List.filter_nil, List.nil_append, List.cons_append, isFree, anyPre, Region.binds, Bool.not_true, Bool.not_false, Bool.false_eq_true, if_true, if_false, Option.isNone_none, Option.isNone_some, Bool.true_and, Bool.false_and, List.map_nil, List.map_cons, List.isEmpty_nil, List.isEmpty_cons, List.append_nil]
   rfl
 · simp -implicitDefEqProofs (disch := omega) only [Tryz.f105, go_sem, List.replicate, simprocAttr]
   (repeat' (first | refine gT ?_ ?_ | refine gF ?_ ?_ | refine gC ?_ ?_ | ((first | (refine c_ctrE (ctr71 s x y hs) ?_ ?_; (focus (simp -implicitDefEqProofs (disch := omega) only [avs, avb, avi, avo, sigCells, opCells, pairCells, go_sem, simprocAttr]; done))) | (refine c_ctrE (ctr71 s y x hs) ?_ ?_; (focus (simp -implicitDefEqProofs (disch := omega) only [avs, avb, avi, avo, sigCells, opCells, pairCells, go_sem, simprocAttr]; done)))); simp -implicitDefEqProofs (disch := omega) only [go_sem, simprocAttr]) | refine And.intro (by omega) ?_ | (intro hr; have hc := hr; (try simp only [zda, zdb, zdc, zdd] at hc); simp -implicitDefEqProofs (disch := omega) only [hr, go_sem, simprocAttr]; (try clear hr))))
   all_goals (refine fin_eq ?_ (by rfl))
   all_goals simp_all [meets]

def idxByte (s : Str) (c : Int) : Int := Lib.indexByte s c.toNat.toUInt8
def builtStr : Str := [97, 100, 100, 32, 115, 117, 98, 32, 109, 117, 108, 32, 100, 105, 118, 32, 109, 111, 100, 32, 110, 101, 103, 32, 108, 116, 32, 108, 101, 32, 103, 116, 32, 103, 101, 32, 101, 113, 32, 110, 101, 32, 97, 110, 100, 32, 111, 114, 32, 110, 111, 116, 32, 112, 105, 99, 107, 32, 99, 97, 116, 32, 108, 101, 110, 103, 116, 104, 32, 116, 101, 120, 116, 32, 106, 111, 105, 110, 32, 103, 101, 116, 32, 112, 117, 116, 32, 104, 97, 115, 32, 100, 101, 108, 32, 107, 101, 121, 115, 32, 115, 105, 122, 101, 32, 105, 115, 32, 105, 115, 118, 97, 108, 117, 101]
def builtA : List Str := Lib.fields builtStr

theorem rv_s {X : Ctx} {w : World} {h : List AObj} {l : Str} {v : Value} (r : RV X w h (.s l) v) : v = .string ⟨l.toArray⟩ := by
 cases r with
 | s => rfl
 | dead hr _ _ => simp [AV.refs] at hr
theorem two_of {vs : Array Value} (h : 2 = vs.size) : ∃ a b, vs = #[a, b] := by
 match vs, h with
 | ⟨[a, b]⟩, _ => exact ⟨a, b, rfl⟩
theorem one_of {vs : Array Value} (h : 1 = vs.size) : ∃ a, vs = #[a] := by
 match vs, h with
 | ⟨[a]⟩, _ => exact ⟨a, rfl⟩

theorem ctr147 (s : Str) (c : Int) : CT 231 [.s s, .i .u8 c] (.i .i64 (idxByte s c)) := by
 refine ⟨by kernel_rfl, g0, ?_⟩
 intro F w vs hF hgl hl hr
 obtain ⟨v0, v1, rfl⟩ := two_of hl
 have h0 := rv_s (hr 0 _ v0 rfl rfl)
 have h1 := int_ok (hr 1 _ v1 rfl rfl)
 subst h0 h1
 refine (Tryz.strings_IndexByte ⟨s.toArray⟩ c w).mono ?_
 rintro e w' ⟨rfl, rfl⟩
 exact ⟨_, F, [], rfl, .refl _, fun _ h => h, fun _ h => .inl h, hF, RR.val (.i _ _), List.nodup_nil, by simp⟩

theorem box_cell {F : Nat → Prop} {w : World} {g : Nat} {cells : List AV} (r : RV (.none F) w [] (.box cells 0) (.pointer (some ⟨g, 0, Option.none⟩))) {j : Nat} {k : IntKind} {n : Int} (h : cells[j]? = some (.i k n)) : w.cell? ⟨g, j, none⟩ = some (.int k n) := by
 generalize hv : Value.pointer (some ⟨g, 0, Option.none⟩) = v at r
 cases r with
 | @box _ _ b o cs T fr hF hb hl h1 hr =>
   simp only [Value.pointer.injEq, Option.some.injEq, Addr.mk.injEq, and_true] at hv
   obtain ⟨rfl, h0⟩ := hv
   have ho : o = 0 := by omega
   subst ho
   have hj := lt_of_some h
   have hc : cs[0 + j]? = some cs[0 + j] := Array.getElem?_eq_getElem (by omega)
   have := int_ok (hr j _ _ h hc)
   simp only [Nat.zero_add] at this hc
   simp [World.cell?, hb, hc, this]
 | dead hr hd _ => simp [AV.refs] at hr
theorem ascii_cell {F : Nat → Prop} {w : World} (hgl : ∀ k a, G0 k = some a → GRel (.none F) w [] k a) (c : Nat) (hc : c < 256) : w.cell? ⟨0, c, none⟩ = some (.int .u8 (if Lib.isSp (UInt8.ofNat c) then 1 else 0)) := by
 have r := (hgl 0 (.box asciiCells 0) rfl).1
 refine box_cell r ?_
 have h := Lib.asciiSpaceTab_at c hc
 have hl := Lib.asciiSpaceTab_length
 rw [← h]
 exact map_i_get (by omega)
theorem ctr94 (s : Str) (hs : s.length ≤ 4000000000) (ha : s.all (fun b => decide (b.toNat < 128)) = true) : CT 204 [.s s] (.own 1 ((Lib.fields s).map .s) (Lib.fields s).length) := by
 refine ⟨by kernel_rfl, g0, ?_⟩
 intro F w vs hF hgl hl hr
 obtain ⟨v0, rfl⟩ := one_of hl
 have h0 := rv_s (hr 0 _ v0 rfl rfl)
 subst h0
 refine (Any.strings_Fields_core Tryz.lays157 (by kernel_rfl) ⟨s.toArray⟩ w (by simp [ByteArray.size]; omega) (fun j b hj => ?_) (fun c hc => ascii_cell hgl c hc)).mono ?_
 · have hm := List.mem_of_getElem? hj
   have := List.all_eq_true.1 ha b hm
   simpa using this
 · rintro e w' ⟨rfl, rfl⟩
   refine ⟨_, F, [w.heap.size], rfl, (Pushed.alloc _ _).grew, fun _ h => h, fun _ h => .inl h, fun b hb => Nat.lt_of_lt_of_le (hF b hb) (Pushed.alloc w _).grew.size, ?_, by simp, ?_⟩
   · refine .inl ⟨w.heap.size, 0, _, _, (Lib.fields s).length, rfl, rfl, (Pushed.alloc _ _).at, by simp, Nat.le_refl _, by simp, ?_, ?_⟩
     · intro j v hj hv
       simp at hv
       obtain ⟨x, _, rfl⟩ := hv
       rfl
     · intro j a v ha hv
       simp at ha hv
       obtain ⟨x, h1, rfl⟩ := ha
       obtain ⟨y, h2, rfl⟩ := hv
       rw [h1] at h2; cases h2
       exact .s _
   · intro b hb
     simp only [List.mem_singleton] at hb
     subst hb
     refine ⟨fun f => ?_, Nat.le_refl _⟩
     have := hF _ f; omega

def sortS (l : List Str) : List Str := l.mergeSort fun x y => decide (x ≤ y)

theorem builtA_len : builtA.length = 28 := by decide +kernel
theorem built_eq (s : Str) : builtA.contains s = builtIns.contains s := by
 have h1 : builtA.all (fun x => builtIns.contains x) = true := by decide +kernel
 have h2 : builtIns.all (fun x => builtA.contains x) = true := by decide +kernel
 rw [Bool.eq_iff_iff]
 simp only [List.all_eq_true] at h1 h2
 exact ⟨fun h => h1 s (by simpa using h), fun h => h2 s (by simpa using h)⟩
theorem ctr94b : CT 204 [.s [97, 100, 100, 32, 115, 117, 98, 32, 109, 117, 108, 32, 100, 105, 118, 32, 109, 111, 100, 32, 110, 101, 103, 32, 108, 116, 32, 108, 101, 32, 103, 116, 32, 103, 101, 32, 101, 113, 32, 110, 101, 32, 97, 110, 100, 32, 111, 114, 32, 110, 111, 116, 32, 112, 105, 99, 107, 32, 99, 97, 116, 32, 108, 101, 110, 103, 116, 104, 32, 116, 101, 120, 116, 32, 106, 111, 105, 110, 32, 103, 101, 116, 32, 112, 117, 116, 32, 104, 97, 115, 32, 100, 101, 108, 32, 107, 101, 121, 115, 32, 115, 105, 122, 101, 32, 105, 115, 32, 105, 115, 118, 97, 108, 117, 101]] (.own 1 (builtA.map .s) builtA.length) := ctr94 builtStr (by decide) (by decide +kernel)
theorem ctr39 (s : Str): CT 168 [.s s] (.b (builtIns.contains s)) := by
 refine sem_intro (rx := false) (th := fun _ => none) mixed Tryz.func168 rfl (by kernel_rfl) (by kernel_rfl) (ac := ?_) ?_ g0 ?_
 rotate_left
 · simp only [strip, splitQ, stripOps, stripOp, hoist, List.filter_cons, List.filter_nil, List.nil_append, List.cons_append, isFree, anyPre, Region.binds, Bool.not_true, Bool.not_false, Bool.false_eq_true, if_true, if_false, Option.isNone_none, Option.isNone_some, Bool.true_and, Bool.false_and, List.map_nil, List.map_cons, List.isEmpty_nil, List.isEmpty_cons, List.append_nil]
   rfl
 · simp -implicitDefEqProofs (disch := omega) only [Tryz.f168, go_sem, List.replicate, simprocAttr]
   refine c_ctrE ctr94b (by rfl) ?_
   simp -implicitDefEqProofs (disch := omega) only [go_sem, simprocAttr]
   (repeat' (first | refine gT ?_ ?_ | refine gF ?_ ?_ | refine gC ?_ ?_ | ((refine c_ctrE (ctr47 builtA s (by rw [builtA_len]; omega)) ?_ ?_; (focus (simp -implicitDefEqProofs (disch := omega) only [avs, avb, avi, avo, sigCells, opCells, pairCells, go_sem, simprocAttr]; done))); simp -implicitDefEqProofs (disch := omega) only [go_sem, simprocAttr]) | refine And.intro (by omega) ?_ | (intro hr; have hc := hr; (try simp only [zda, zdb, zdc, zdd] at hc); simp -implicitDefEqProofs (disch := omega) only [hr, go_sem, simprocAttr]; (try clear hr))))
   refine fin_eq ?_ (by rfl)
   rw [built_eq]

theorem ctr122 (s : LSig) (a v : Str) (hs : Small s): CT 120 [.s v, .box [bookAV s] 0, .box [.s a] 0] (.b (atMost s a v)) := by
 refine sem_intro (rx := false) (th := fun _ => none) mixed Tryz.func120 rfl (by kernel_rfl) (by kernel_rfl) (ac := ?_) ?_ g0 ?_
 rotate_left
 · simp only [strip, splitQ, stripOps, stripOp, hoist, List.filter_cons, List.filter_nil, List.nil_append, List.cons_append, isFree, anyPre, Region.binds, Bool.not_true, Bool.not_false, Bool.false_eq_true, if_true, if_false, Option.isNone_none, Option.isNone_some, Bool.true_and, Bool.false_and, List.map_nil, List.map_cons, List.isEmpty_nil, List.isEmpty_cons, List.append_nil]
   rfl
 · simp -implicitDefEqProofs (disch := omega) only [Tryz.f120, go_sem, List.replicate, simprocAttr]
   (repeat' (first | refine gT ?_ ?_ | refine gF ?_ ?_ | refine gC ?_ ?_ | ((refine c_ctrE (ctr71 s a v hs) ?_ ?_; (focus (simp -implicitDefEqProofs (disch := omega) only [avs, avb, avi, avo, sigCells, opCells, pairCells, go_sem, simprocAttr]; done))); simp -implicitDefEqProofs (disch := omega) only [go_sem, simprocAttr]) | refine And.intro (by omega) ?_ | (intro hr; have hc := hr; (try simp only [zda, zdb, zdc, zdd] at hc); simp -implicitDefEqProofs (disch := omega) only [hr, go_sem, simprocAttr]; (try clear hr))))
   exact fin_eq rfl rfl
def isValue (s : LSig) (a : Str) : Bool := s.values.any fun v => atMost s a v
theorem persL_cap {s : LSig} {a : Str} : persL [.box [bookAV s] 0, .box [.s a] 0] = true := by
 show (persL [bookAV s] && (persL [.s a] && true)) = true
 have hb : persL [bookAV s] = true := by
   show (pers (bookAV s) && true) = true
   rw [pers_book]; rfl
 rw [hb]; rfl
theorem ctr77 (s : LSig) (a : Str) (hs : Small s): CT 62 [bookAV s, .s a] (.b (isValue s a)) := by
 refine sem_intro (rx := false) (th := fun _ => none) mixed Tryz.func62 rfl (by kernel_rfl) (by kernel_rfl) (ac := ?_) ?_ g0 ?_
 rotate_left
 · simp only [strip, splitQ, stripOps, stripOp, hoist, List.filter_cons, List.filter_nil, List.nil_append, List.cons_append, isFree, anyPre, Region.binds, Bool.not_true, Bool.not_false, Bool.false_eq_true, if_true, if_false, Option.isNone_none, Option.isNone_some, Bool.true_and, Bool.false_and, List.map_nil, List.map_cons, List.isEmpty_nil, List.isEmpty_cons, List.append_nil]
   rfl
 · simp -implicitDefEqProofs (disch := omega) only [Tryz.f62, go_sem, List.replicate, simprocAttr]
   have h1 := hs.values
   refine c_ctrE (ctr101 s.values 120 [] [.box [bookAV s] 0, .box [.s a] 0] (fun v => atMost s a v) (by omega) rfl persL_cap (fun k hk => ctr122 s a _ hs)) ?_ ?_
   · simp -implicitDefEqProofs (disch := omega) only [go_sem, simprocAttr]
   · simp -implicitDefEqProofs (disch := omega) only [go_sem, simprocAttr]
     exact fin_eq rfl rfl
def isBelow (s : LSig) (x : Str × Str) : Bool := decide (x.1 ≠ anyS) && existsA s x.1 && s.sorts.contains x.2 && !(above s x.2).contains x.1
theorem ctr53 (s : LSig) (x : Str × Str) (hs : Small s): CT 99 [bookAV s, elB x] (.b (isBelow s x)) := by
 refine sem_intro (rx := false) (th := fun _ => none) mixed Tryz.func99 rfl (by kernel_rfl) (by kernel_rfl) (ac := ?_) ?_ g0 ?_
 rotate_left
 · simp only [strip, splitQ, stripOps, stripOp, hoist, List.filter_cons, List.filter_nil, List.nil_append, List.cons_append, isFree, anyPre, Region.binds, Bool.not_true, Bool.not_false, Bool.false_eq_true, if_true, if_false, Option.isNone_none, Option.isNone_some, Bool.true_and, Bool.false_and, List.map_nil, List.map_cons, List.isEmpty_nil, List.isEmpty_cons, List.append_nil]
   rfl
 · simp -implicitDefEqProofs (disch := omega) only [Tryz.f99, go_sem, List.replicate, simprocAttr]
   have hl := climb_len s.below x.2
   have h2 := hs.below
   have h1 := hs.sorts
   by_cases hx : (keysOf s).contains x.2 = true
   · obtain ⟨i, hf, hv⟩ := look_yes hx
     (repeat' (first | refine gT ?_ ?_ | refine gF ?_ ?_ | refine gC ?_ ?_ | ((first | (refine c_ctrE (ctr54 s x.1) ?_ ?_; (focus (simp -implicitDefEqProofs (disch := omega) only [hf, hv, ups, avs, avb, avi, avo, sigCells, opCells, pairCells, go_sem, simprocAttr]; done))) | (refine c_ctrE (ctr47 s.sorts x.2 (by omega)) ?_ ?_; (focus (simp -implicitDefEqProofs (disch := omega) only [hf, hv, ups, avs, avb, avi, avo, sigCells, opCells, pairCells, go_sem, simprocAttr]; done))) | (refine c_ctrE (ctr47 (climb s.below x.2) x.1 (by omega)) ?_ ?_; (focus (simp -implicitDefEqProofs (disch := omega) only [hf, hv, ups, avs, avb, avi, avo, sigCells, opCells, pairCells, go_sem, simprocAttr]; done)))); simp -implicitDefEqProofs (disch := omega) only [hf, hv, ups, go_sem, simprocAttr]) | refine And.intro (by omega) ?_ | (intro hr; have hc := hr; (try simp only [zda, zdb, zdc, zdd] at hc); simp -implicitDefEqProofs (disch := omega) only [hr, hf, hv, ups, go_sem, simprocAttr]; (try clear hr))))
     all_goals (refine fin_eq ?_ (by rfl))
     all_goals (simp_all [isBelow, above, existsA, anyS])
   · have hx := Bool.eq_false_iff.2 hx
     (repeat' (first | refine gT ?_ ?_ | refine gF ?_ ?_ | refine gC ?_ ?_ | ((first | (refine c_ctrE (ctr54 s x.1) ?_ ?_; (focus (simp -implicitDefEqProofs (disch := omega) only [findIdx_no hx, avs, avb, avi, avo, sigCells, opCells, pairCells, go_sem, simprocAttr]; done))) | (refine c_ctrE (ctr47 s.sorts x.2 (by omega)) ?_ ?_; (focus (simp -implicitDefEqProofs (disch := omega) only [findIdx_no hx, avs, avb, avi, avo, sigCells, opCells, pairCells, go_sem, simprocAttr]; done))) | (refine c_ctrE (ctr47 [] x.1 (by simp)) ?_ ?_; (focus (simp -implicitDefEqProofs (disch := omega) only [findIdx_no hx, avs, avb, avi, avo, sigCells, opCells, pairCells, go_sem, simprocAttr]; done)))); simp -implicitDefEqProofs (disch := omega) only [findIdx_no hx, go_sem, simprocAttr]) | refine And.intro (by omega) ?_ | (intro hr; have hc := hr; (try simp only [zda, zdb, zdc, zdd] at hc); simp -implicitDefEqProofs (disch := omega) only [hr, findIdx_no hx, go_sem, simprocAttr]; (try clear hr))))
     all_goals (refine fin_eq ?_ (by rfl))
     all_goals (simp_all [isBelow, above, existsA, anyS])

def signChar (n : Int) : Bool := !(decide (n < 33) || decide (126 < n) || part n || (decide (n = 34) || decide (n = 39) || decide (n = 92)))
def isSign (s : Str) : Bool := decide (1 ≤ s.length) && decide (s.length ≤ 20) && s.all fun c => signChar c.toNat
theorem at_range (s : Str) (k : Nat) : 0 ≤ at_ s k ∧ at_ s k < 256 := by
 unfold at_
 have := (s.getD k 0).toNat_lt
 omega
theorem idx3 (s : Str) (k : Nat) : decide (0 ≤ idxByte [34, 39, 92] (at_ s k)) = (decide (at_ s k = 34) || decide (at_ s k = 39) || decide (at_ s k = 92)) := by
 have h : ∀ n : Nat, n < 256 → decide (0 ≤ idxByte [34, 39, 92] (n : Int)) = (decide ((n : Int) = 34) || decide ((n : Int) = 39) || decide ((n : Int) = 92)) := by decide +kernel
 exact h _ (s.getD k 0).toNat_lt
theorem ctr137 (s : Str) (hs : s.length ≤ 140737488355328): CT 207 [.s s] (.b (isSign s)) := by
 refine sem_intro (rx := false) (th := fun _ => none) mixed Tryz.func207 rfl (by kernel_rfl) (by kernel_rfl) (ac := ?_) ?_ g0 ?_
 rotate_left
 · simp only [strip, splitQ, stripOps, stripOp, hoist, List.filter_cons, List.filter_nil, List.nil_append, List.cons_append, isFree, anyPre, Region.binds, Bool.not_true, Bool.not_false, Bool.false_eq_true, if_true, if_false, Option.isNone_none, Option.isNone_some, Bool.true_and, Bool.false_and, List.map_nil, List.map_cons, List.isEmpty_nil, List.isEmpty_cons, List.append_nil]
   rfl
 · simp -implicitDefEqProofs (disch := omega) only [Tryz.f207, go_sem, List.replicate, simprocAttr]
   (repeat' (first | refine gT ?_ ?_ | refine gF ?_ ?_ | refine gC ?_ ?_ | refine And.intro (by omega) ?_ | (intro hr; have hc := hr; (try simp only [zda, zdb, zdc, zdd] at hc); simp -implicitDefEqProofs (disch := omega) only [hr, go_sem, simprocAttr]; (try clear hr))))
   any_goals (refine fin_eq ?_ (by rfl); simp_all [isSign] <;> omega)
   refine x_loopJ (fun (k : Nat) => [.k, .k, .j, .j, .j, .k, .k, .k, .k, .k, .k, .k, .k, .k, .v (.i .i64 k), .j, .j, .j, .j, .j, .j, .j, .j, .j, .j, .j, .j, .j, .j, .j, .j, .j, .j, .j, .j, .j]) (fun k => []) (fun k => k ≤ s.length ∧ ∀ j, j < k → signChar (at_ s j) = true) (fun k => s.length - k) (0) ⟨Nat.zero_le _, fun j h => by omega⟩ rfl (by simp [Fits]) ?_
   rintro k j ⟨hk, ha⟩
   have hr := at_range s k
   have h3 := idx3 s k
   simp only [at_] at h3 hr
   simp -implicitDefEqProofs (disch := omega) only [go_sem, simprocAttr]
   (repeat' (first | refine gT ?_ ?_ | refine gF ?_ ?_ | refine gC ?_ ?_ | (refine c_ctr (ctr97 _) ?_; simp -implicitDefEqProofs (disch := omega) only [h3, go_sem, simprocAttr]) | ((refine c_ctrE (ctr147 [34, 39, 92] ((s.getD k 0).toNat : Int)) ?_ ?_; (focus (simp -implicitDefEqProofs (disch := omega) only [h3, avs, avb, avi, avo, sigCells, opCells, pairCells, go_sem, simprocAttr]; done))); simp -implicitDefEqProofs (disch := omega) only [h3, go_sem, simprocAttr]) | refine And.intro (by omega) ?_ | (intro hr; have hc := hr; (try simp only [zda, zdb, zdc, zdd] at hc); simp -implicitDefEqProofs (disch := omega) only [hr, h3, go_sem, simprocAttr]; (try clear hr))))
   · refine fin_eq ?_ (by rfl)
     have h4 := h3.symm.trans (zt hc)
     rw [isSign, not_all_at (j := k) (by omega) (by simp only [signChar, at_, h4, Bool.or_true, Bool.not_true]), Bool.and_false]
   · have h4 := h3.symm.trans (zf hc)
     exact ⟨k + 1, ⟨by omega, below_succ ha (by simp only [signChar, at_, h4, Bool.or_false]; simp_all)⟩, by omega, by simp⟩
   · refine fin_eq ?_ (by rfl)
     rw [isSign, not_all_at (j := k) (by omega) (by simp only [signChar, at_, hc, Bool.or_true, Bool.true_or, Bool.not_true]), Bool.and_false]
   · refine fin_eq ?_ (by rfl)
     rw [isSign, not_all_at (j := k) (by omega) (by simp only [signChar, at_, hc, decide_true, Bool.or_true, Bool.true_or, Bool.not_true]), Bool.and_false]
   · refine fin_eq ?_ (by rfl)
     rw [isSign, not_all_at (j := k) (by omega) (by simp only [signChar, at_, hc, decide_true, Bool.or_true, Bool.true_or, Bool.not_true]), Bool.and_false]
   · refine fin_eq ?_ (by rfl)
     have h1 : k = s.length := by omega
     rw [isSign, all_at (h1 ▸ ha)]
     simp; omega

def pieceText (t : Str) : Bool := isSign t || isName t && decide (t.length ≤ 20)
def pieceA (p : Str × Str) : Bool := decide (decide (p.2 = []) = pieceText p.1) && !(!decide (p.2 = []) && !decide (p.1 = []))
def argsOf (l : List (Str × Str)) : List Str := (l.filter fun p => !decide (p.2 = [])).map (·.2)
def syntaxA (o : LOp) : Bool := o.pieces.isEmpty || (o.pieces.all pieceA && decide (o.pieces.length ≤ 20) && decide (argsOf o.pieces = o.args))
theorem argsOf_succ {l : List (Str × Str)} {k : Nat} (h : k < l.length) : argsOf (l.take (k + 1)) = argsOf (l.take k) ++ (if (l.getD k ([], [])).2 = [] then [] else [(l.getD k ([], [])).2]) := by
 rw [take_getD (d := ([], [])) h]
 simp only [argsOf, List.filter_append, List.map_append]
 congr 1
 by_cases h2 : (l.getD k ([], [])).2 = []
 · rw [if_pos h2, List.filter_cons_of_neg (by simp only [h2]; decide)]; rfl
 · rw [if_neg h2, List.filter_cons_of_pos (by simp only [h2]; decide)]; rfl
theorem argsOf_len {l : List (Str × Str)} : (argsOf l).length ≤ l.length := by
 unfold argsOf; rw [List.length_map]; exact List.length_filter_le _ _
theorem castLe20 {n : Nat} : ((n : Int) ≤ 20) ↔ n ≤ 20 := by omega
theorem syntaxA_no {o : LOp} {k : Nat} (hk : k < o.pieces.length) (h : pieceA (o.pieces.getD k ([], [])) = false) : syntaxA o = false := by
 have h1 : o.pieces.all pieceA = false := not_all_getD hk h
 have h2 : o.pieces ≠ [] := fun e => by simp [e] at hk
 simp [syntaxA, h1, h2]
theorem ctr113 (o : LOp) (ho : OkO o): CT 172 [elO o] (.b (syntaxA o)) := by
 refine sem_intro (rx := false) (th := fun _ => none) mixed Tryz.func172 rfl (by kernel_rfl) (by kernel_rfl) (ac := ?_) ?_ g0 ?_
 rotate_left
 · simp only [strip, splitQ, stripOps, stripOp, hoist, List.filter_cons, List.filter_nil, List.nil_append, List.cons_append, isFree, anyPre, Region.binds, Bool.not_true, Bool.not_false, Bool.false_eq_true, if_true, if_false, Option.isNone_none, Option.isNone_some, Bool.true_and, Bool.false_and, List.map_nil, List.map_cons, List.isEmpty_nil, List.isEmpty_cons, List.append_nil]
   rfl
 · simp -implicitDefEqProofs (disch := omega) only [Tryz.f172, go_sem, List.replicate, simprocAttr]
   have hp := ho.piecesT
   have hx := ho.args
   (repeat' (first | refine gT ?_ ?_ | refine gF ?_ ?_ | refine gC ?_ ?_ | refine And.intro (by omega) ?_ | (intro hr; have hc := hr; (try simp only [zda, zdb, zdc, zdd] at hc); simp -implicitDefEqProofs (disch := omega) only [hr, go_sem, simprocAttr]; (try clear hr))))
   · refine fin_eq ?_ (by rfl)
     have : o.pieces = [] := List.eq_nil_of_length_eq_zero (by omega)
     simp [syntaxA, this]
   · refine x_loopJ (fun (s : Nat × AV × List AObj) => [.k, .k, .j, .v (s.2.1), .k, .j, .j, .k, .k, .k, .k, .k, .k, .k, .v (.i .i64 (s.1 : Nat)), .j, .j, .j, .j, .j, .j, .j, .j, .j, .j, .j, .j, .j, .j, .j, .j, .j, .j, .j, .j, .j, .j, .j, .j, .j, .j, .j, .j, .j, .j, .j, .j, .j, .j, .j, .j, .j, .j, .j, .j, .j, .k, .k, .k, .k, .k, .k, .k, .k, .k, .k]) (fun s => .box false (opCells o) :: s.2.2) (fun s => s.1 ≤ o.pieces.length ∧ (∀ j, j < s.1 → pieceA (o.pieces.getD j ([], [])) = true) ∧ OutIs 1 1 s.2.2 s.2.1 ((argsOf (o.pieces.take s.1)).map .s) (argsOf (o.pieces.take s.1)).length) (fun s => o.pieces.length - s.1) ((0, .e0, [])) ⟨Nat.zero_le _, fun j h => by simp at h, outIs_e0⟩ rfl (by simp [Fits]) ?_
     rintro ⟨k, out, g⟩ j ⟨hk, ha, ho2⟩
     dsimp only at hk ha ho2
     have hpl : k < o.pieces.length → (o.pieces.getD k ([], [])).1.length ≤ 140737488355328 := fun h => (ho.piecesS _ (mem_getD h)).1
     have hal := argsOf_len (l := o.pieces.take k)
     rw [List.length_take] at hal
     simp -implicitDefEqProofs (disch := omega) only [go_sem, simprocAttr]
     (repeat' (first | refine gT ?_ ?_ | refine gF ?_ ?_ | refine gC ?_ ?_ | ((first | (refine c_ctrE (ctr137 (o.pieces.getD k ([], [])).1 (hpl (by omega))) ?_ ?_; (focus (simp -implicitDefEqProofs (disch := omega) only [avs, avb, avi, avo, sigCells, opCells, pairCells, go_sem, simprocAttr]; done))) | (refine c_ctrE (ctr41 (o.pieces.getD k ([], [])).1 (hpl (by omega))) ?_ ?_; (focus (simp -implicitDefEqProofs (disch := omega) only [avs, avb, avi, avo, sigCells, opCells, pairCells, go_sem, simprocAttr]; done)))); simp -implicitDefEqProofs (disch := omega) only [go_sem, simprocAttr]) | refine And.intro (by omega) ?_ | (intro hr; have hc := hr; (try simp only [zda, zdb, zdc, zdd] at hc); simp -implicitDefEqProofs (disch := omega) only [hr, go_sem, simprocAttr]; (try clear hr))))
     all_goals first | (exfalso; omega) | skip
     all_goals first | (refine fin_eq ?_ (by rfl); rw [syntaxA_no (k := k) (by omega) (by simp_all [pieceA, pieceText, List.length_eq_zero_iff, castLe20])]; done) | skip
     all_goals first | (refine ⟨(k + 1, out, _), ⟨by omega, below_succ ha (by simp_all [pieceA, pieceText, List.length_eq_zero_iff, castLe20]), ?_⟩, by simp; omega, rfl, rfl, by simp⟩; dsimp only; rw [argsOf_succ (by omega), if_pos (List.eq_nil_of_length_eq_zero (by assumption)), List.append_nil]; exact ho2.more _) | skip
     · refine app_intro' (pre := [_]) (news := [.s (o.pieces.getD k ([], [])).2]) (m := 1) ho2 rfl rfl el22 zo9 sz9 by9 rfl (by decide) (by simp -implicitDefEqProofs (disch := omega) only [go_sem, simprocAttr]) (by simp -implicitDefEqProofs (disch := omega) only [go_sem, simprocAttr]) ⟨by omega, by omega⟩ ?_
       intro out' g' ho' _
       simp -implicitDefEqProofs (disch := omega) only [go_sem, simprocAttr]
       refine ⟨(k + 1, out', g'), ⟨by omega, below_succ ha (by simp_all [pieceA, pieceText, List.length_eq_zero_iff, castLe20]), ?_⟩, by simp; omega, rfl, by simp⟩
       dsimp only
       rw [argsOf_succ (by omega), if_neg (by rw [← List.length_eq_zero_iff]; assumption), List.map_append, List.length_append]
       exact ho'
     · refine app_intro' (pre := [_]) (news := [.s (o.pieces.getD k ([], [])).2]) (m := 1) ho2 rfl rfl el22 zo9 sz9 by9 rfl (by decide) (by simp -implicitDefEqProofs (disch := omega) only [go_sem, simprocAttr]) (by simp -implicitDefEqProofs (disch := omega) only [go_sem, simprocAttr]) ⟨by omega, by omega⟩ ?_
       intro out' g' ho' _
       simp -implicitDefEqProofs (disch := omega) only [go_sem, simprocAttr]
       refine ⟨(k + 1, out', g'), ⟨by omega, below_succ ha (by simp_all [pieceA, pieceText, List.length_eq_zero_iff, castLe20]), ?_⟩, by simp; omega, rfl, by simp⟩
       dsimp only
       rw [argsOf_succ (by omega), if_neg (by rw [← List.length_eq_zero_iff]; assumption), List.map_append, List.length_append]
       exact ho'
     · have hk2 : k = o.pieces.length := by omega
       have hne : o.pieces ≠ [] := fun e => by simp_all
       have hemp : o.pieces.isEmpty = false := by simpa using hne
       have hall : o.pieces.all pieceA = true := all_getD (d := ([], [])) (fun j hj => ha j (by omega))
       rw [List.take_of_length_le (by omega)] at ho2
       have hal := argsOf_len (l := o.pieces)
       rcases ho2 with ⟨rfl, hnil, _⟩ | ⟨i0, rfl, hg, _⟩
       · have hnil : argsOf o.pieces = [] := by simpa using hnil
         (repeat' (first | refine gT ?_ ?_ | refine gF ?_ ?_ | refine gC ?_ ?_ | ((refine c_ctrE (ctr90 [] o.args (by simp) hx) ?_ ?_; (focus (simp -implicitDefEqProofs (disch := omega) only [avs, avb, avi, avo, sigCells, opCells, pairCells, go_sem, simprocAttr]; done))); simp -implicitDefEqProofs (disch := omega) only [go_sem, simprocAttr]) | refine And.intro (by omega) ?_ | (intro hr; have hc := hr; (try simp only [zda, zdb, zdc, zdd] at hc); simp -implicitDefEqProofs (disch := omega) only [hr, go_sem, simprocAttr]; (try clear hr))))
         refine fin_eq ?_ (by rfl)
         rw [syntaxA, hemp, hall, hnil, zt (castLe20.1 hc)]; simp
       · (repeat' (first | refine gT ?_ ?_ | refine gF ?_ ?_ | refine gC ?_ ?_ | ((refine c_ctrE (ctr90 (argsOf o.pieces) o.args (by omega) hx) ?_ ?_; (focus (simp -implicitDefEqProofs (disch := omega) only [hg, avs, avb, avi, avo, sigCells, opCells, pairCells, go_sem, simprocAttr]; done))); simp -implicitDefEqProofs (disch := omega) only [hg, go_sem, simprocAttr]) | refine And.intro (by omega) ?_ | (intro hr; have hc := hr; (try simp only [zda, zdb, zdc, zdd] at hc); simp -implicitDefEqProofs (disch := omega) only [hr, hg, go_sem, simprocAttr]; (try clear hr))))
         refine fin_eq ?_ (by rfl)
         rw [syntaxA, hemp, hall, zt (castLe20.1 hc)]; simp
     · refine fin_eq ?_ (by rfl)
       have hne : o.pieces ≠ [] := fun e => by simp_all
       simp_all [syntaxA, castLe20]
       omega

theorem persL_bk {s : LSig} : persL [bookAV s] = true := by
 show (pers (bookAV s) && true) = true
 rw [pers_book]; rfl
def numOK (o : LOp) (i : Int) : Bool := decide (1 ≤ i) && decide (i ≤ o.args.length)
theorem persL_ops (o : LOp) : persL (opCells o) = true := by simp only [opCells, persL, pers, persL_avs, persL_avi, avb, persL_pair, Bool.and_self]
theorem ctr110 (i : Int) (o : LOp): CT 169 [.i .i64 i, .box (opCells o) 0] (.b (numOK o i)) := by
 refine sem_intro (rx := false) (th := fun _ => none) mixed Tryz.func169 rfl (by kernel_rfl) (by kernel_rfl) (ac := ?_) ?_ g0 ?_
 rotate_left
 · simp only [strip, splitQ, stripOps, stripOp, hoist, List.filter_cons, List.filter_nil, List.nil_append, List.cons_append, isFree, anyPre, Region.binds, Bool.not_true, Bool.not_false, Bool.false_eq_true, if_true, if_false, Option.isNone_none, Option.isNone_some, Bool.true_and, Bool.false_and, List.map_nil, List.map_cons, List.isEmpty_nil, List.isEmpty_cons, List.append_nil]
   rfl
 · simp -implicitDefEqProofs (disch := omega) only [Tryz.f169, go_sem, List.replicate, simprocAttr]
   (repeat' (first | refine gT ?_ ?_ | refine gF ?_ ?_ | refine gC ?_ ?_ | refine And.intro (by omega) ?_ | (intro hr; have hc := hr; (try simp only [zda, zdb, zdc, zdd] at hc); simp -implicitDefEqProofs (disch := omega) only [hr, go_sem, simprocAttr]; (try clear hr))))
   all_goals (refine fin_eq ?_ (by rfl))
   all_goals first | (simp_all [numOK]; done) | (simp_all [numOK]; omega)
def precOK (o : LOp) : Bool := decide (0 ≤ o.prec) && decide (o.prec ≤ 20) && (decide (0 < o.pieces.length) || decide (o.prec = 0))
def assocOK (o : LOp) : Bool := decide (0 ≤ o.assoc) && decide (o.assoc ≤ 2) && (decide (0 < o.prec) || decide (o.assoc = 0))
def opHead (s : LSig) (o : LOp) : Bool := isName (base o.name) && !builtIns.contains o.name && decide (o.args.length ≤ 8) && o.args.all (existsA s) && s.sorts.contains o.sort
def isOp (s : LSig) (o : LOp) : Bool := opHead s o && precOK o && assocOK o && o.strict.all (numOK o) && decide o.strict.Nodup && syntaxA o
def isFun (s : LSig) (o : LOp) : Bool := isName o.name && !builtIns.contains o.name && decide (o.args.length ≤ 8) && o.args.all (existsA s) && existsA s o.sort && (decide (o.pieces.length = 0) && decide (o.prec = 0) && decide (o.assoc = 0) && decide (o.strict.length = 0))
theorem castLe8 {n : Nat} : (8 < (n : Int)) ↔ ¬ n ≤ 8 := by omega
theorem castLe8' {n : Nat} : ((n : Int) ≤ 8) ↔ n ≤ 8 := by omega
theorem castPos {n : Nat} : (0 < (n : Int)) ↔ 0 < n := by omega
theorem castZ {n : Nat} : ((n : Int) = 0) ↔ n = 0 := by omega
theorem ctr57 (s : LSig) (o : LOp) (hs : Small s) (ho : OkO o): CT 103 [bookAV s, elO o] (.b (isFun s o)) := by
 refine sem_intro (rx := false) (th := fun _ => none) mixed Tryz.func103 rfl (by kernel_rfl) (by kernel_rfl) (ac := ?_) ?_ g0 ?_
 rotate_left
 · simp only [strip, splitQ, stripOps, stripOp, hoist, List.filter_cons, List.filter_nil, List.nil_append, List.cons_append, isFree, anyPre, Region.binds, Bool.not_true, Bool.not_false, Bool.false_eq_true, if_true, if_false, Option.isNone_none, Option.isNone_some, Bool.true_and, Bool.false_and, List.map_nil, List.map_cons, List.isEmpty_nil, List.isEmpty_cons, List.append_nil]
   rfl
 · simp -implicitDefEqProofs (disch := omega) only [Tryz.f103, go_sem, List.replicate, simprocAttr]
   (repeat' (first | refine gT ?_ ?_ | refine gF ?_ ?_ | refine gC ?_ ?_ | ((first | (refine c_ctrE (ctr41 o.name ho.name) ?_ ?_; (focus (simp -implicitDefEqProofs (disch := omega) only [avs, avb, avi, avo, sigCells, opCells, pairCells, go_sem, simprocAttr]; done))) | (refine c_ctrE (ctr39 o.name) ?_ ?_; (focus (simp -implicitDefEqProofs (disch := omega) only [avs, avb, avi, avo, sigCells, opCells, pairCells, go_sem, simprocAttr]; done))) | (refine c_ctrE (ctr49 o.args 100 [bookAV s] [] (existsA s) ho.args persL_bk rfl (fun k hk => ctr54 s (o.args.getD k []))) ?_ ?_; (focus (simp -implicitDefEqProofs (disch := omega) only [avs, avb, avi, avo, sigCells, opCells, pairCells, go_sem, simprocAttr]; done))) | (refine c_ctrE (ctr54 s o.sort) ?_ ?_; (focus (simp -implicitDefEqProofs (disch := omega) only [avs, avb, avi, avo, sigCells, opCells, pairCells, go_sem, simprocAttr]; done)))); simp -implicitDefEqProofs (disch := omega) only [go_sem, simprocAttr]) | refine And.intro (by omega) ?_ | (intro hr; have hc := hr; (try simp only [zda, zdb, zdc, zdd] at hc); simp -implicitDefEqProofs (disch := omega) only [hr, go_sem, simprocAttr]; (try clear hr))))
   all_goals (refine fin_eq ?_ (by rfl))
   all_goals simp only [castLe8', castZ] at *
   all_goals simp only [isFun, *, decide_true, decide_false, Bool.and_true, Bool.true_and, Bool.and_false, Bool.false_and, Bool.not_true, Bool.not_false, Bool.or_true, Bool.true_or, Bool.or_false, Bool.false_or]

theorem ctr56 (s : LSig) (o : LOp) (hs : Small s) (ho : OkO o): CT 102 [bookAV s, elO o] (.b (isOp s o)) := by
 refine sem_intro (rx := false) (th := fun _ => none) mixed Tryz.func102 rfl (by kernel_rfl) (by kernel_rfl) (ac := ?_) ?_ g0 ?_
 rotate_left
 · simp only [strip, splitQ, stripOps, stripOp, hoist, List.filter_cons, List.filter_nil, List.nil_append, List.cons_append, isFree, anyPre, Region.binds, Bool.not_true, Bool.not_false, Bool.false_eq_true, if_true, if_false, Option.isNone_none, Option.isNone_some, Bool.true_and, Bool.false_and, List.map_nil, List.map_cons, List.isEmpty_nil, List.isEmpty_cons, List.append_nil]
   rfl
 · simp -implicitDefEqProofs (disch := omega) only [Tryz.f102, go_sem, List.replicate, simprocAttr]
   have hb := Nat.le_trans (base_len o.name) ho.name
   have h1 := hs.sorts
   (repeat' (first | refine gT ?_ ?_ | refine gF ?_ ?_ | refine gC ?_ ?_ | ((first | (refine c_ctrE (ctr109 o.name ho.name) ?_ ?_; (focus (simp -implicitDefEqProofs (disch := omega) only [avs, avb, avi, avo, sigCells, opCells, pairCells, go_sem, simprocAttr]; done))) | (refine c_ctrE (ctr41 (base o.name) hb) ?_ ?_; (focus (simp -implicitDefEqProofs (disch := omega) only [avs, avb, avi, avo, sigCells, opCells, pairCells, go_sem, simprocAttr]; done))) | (refine c_ctrE (ctr39 o.name) ?_ ?_; (focus (simp -implicitDefEqProofs (disch := omega) only [avs, avb, avi, avo, sigCells, opCells, pairCells, go_sem, simprocAttr]; done))) | (refine c_ctrE (ctr49 o.args 100 [bookAV s] [] (existsA s) ho.args persL_bk rfl (fun k hk => ctr54 s (o.args.getD k []))) ?_ ?_; (focus (simp -implicitDefEqProofs (disch := omega) only [avs, avb, avi, avo, sigCells, opCells, pairCells, go_sem, simprocAttr]; done))) | (refine c_ctrE (ctr47 s.sorts o.sort (by omega)) ?_ ?_; (focus (simp -implicitDefEqProofs (disch := omega) only [avs, avb, avi, avo, sigCells, opCells, pairCells, go_sem, simprocAttr]; done))) | (refine c_ctrE (ctr111 o.strict 169 [] [.box (opCells o) 0] (numOK o) ho.strict rfl (by simp only [persL, pers, persL_ops, Bool.and_self]) (fun k hk => ctr110 (o.strict.getD k 0) o)) ?_ ?_; (focus (simp -implicitDefEqProofs (disch := omega) only [avs, avb, avi, avo, sigCells, opCells, pairCells, go_sem, simprocAttr]; done))) | (refine c_ctrE (ctr112 o.strict ho.strict) ?_ ?_; (focus (simp -implicitDefEqProofs (disch := omega) only [avs, avb, avi, avo, sigCells, opCells, pairCells, go_sem, simprocAttr]; done))) | (refine c_ctrE (ctr113 o ho) ?_ ?_; (focus (simp -implicitDefEqProofs (disch := omega) only [avs, avb, avi, avo, sigCells, opCells, pairCells, go_sem, simprocAttr]; done)))); simp -implicitDefEqProofs (disch := omega) only [go_sem, simprocAttr]) | refine And.intro (by omega) ?_ | (intro hr; have hc := hr; (try simp only [zda, zdb, zdc, zdd] at hc); simp -implicitDefEqProofs (disch := omega) only [hr, go_sem, simprocAttr]; (try clear hr))))
   all_goals (refine fin_eq ?_ (by rfl))
   all_goals try simp only [castLe8, castPos, Decidable.not_not] at *
   all_goals first | (exfalso; omega) | skip
   all_goals simp only [isOp, opHead, precOK, assocOK, *, decide_true, decide_false, Bool.and_true, Bool.true_and, Bool.and_false, Bool.false_and, Bool.not_true, Bool.not_false, Bool.or_true, Bool.true_or, Bool.or_false, Bool.false_or]
   all_goals first | (simp; done) | (simp_all; done) | (simp_all; omega)

attribute [go_sem] List.replicate_zero List.flatten_nil

def freshA (x : Str) : Bool := isName x && !alwaysA.contains x
def opNames (s : LSig) : List Str := s.ops.map LOp.name ++ s.funs.map LOp.name
def validHead (s : LSig) : Bool := decide (s.sorts.length ≤ 40) && decide (s.below.length ≤ 200) && decide (s.ops.length + s.funs.length ≤ 200) && decide s.below.Nodup && decide s.values.Nodup
def validMid (s : LSig) : Bool := decide s.sorts.Nodup && s.sorts.all freshA && decide (opNames s).Nodup
def validTail (s : LSig) : Bool := s.below.all (isBelow s) && s.values.all (existsA s) && s.ops.all (isOp s) && s.funs.all (isFun s)
def validB (s : LSig) : Bool := validHead s && validMid s && validTail s
theorem distinct_of {s : LSig} (h1 : s.sorts.Nodup) (h2 : s.sorts.all freshA = true) (h3 : (opNames s).Nodup) : Distinct s := by
 refine ⟨?_, ?_, ?_⟩
 · unfold keysOf
   rw [List.nodup_append]
   refine ⟨by decide, h1, ?_⟩
   intro a ha b hb hab
   subst hab
   have := List.all_eq_true.1 h2 a hb
   simp only [freshA, Bool.and_eq_true, Bool.not_eq_true'] at this
   have h4 : alwaysA.contains a = true := by simpa using ha
   rw [h4] at this
   cases this.2
 · unfold opNames at h3
   exact (List.nodup_append.1 h3).1
 · unfold opNames at h3
   exact (List.nodup_append.1 h3).2.1
theorem valid_distinct {s : LSig} (h : validB s = true) : Distinct s := by
 simp only [validB, validMid, Bool.and_eq_true, decide_eq_true_eq] at h
 exact distinct_of h.1.2.1.1 h.1.2.1.2 h.1.2.2

theorem fresh_ctr (s : LSig) (ho : OkS s) : ∀ k, k < s.sorts.length → CT 93 ([] ++ [.s (s.sorts.getD k [])] ++ []) (.b (freshA (s.sorts.getD k []))) := fun k hk => ctr46 _ (ho.sortsS _ (mem_getD hk))
theorem flatL_app {a b : List AV} : flatL (a ++ b) = (flatL a && flatL b) := by
 induction a with
 | nil => rfl
 | cons x l ih => simp [flatL, ih, Bool.and_assoc]
theorem persL_app {a b : List AV} : persL (a ++ b) = (persL a && persL b) := by
 induction a with
 | nil => simp [persL]
 | cons x l ih => simp [persL, ih, Bool.and_assoc]
theorem ctr45x (s : LSig) (h : (opNames s).length ≤ 140737488355328) : CT 92 [.sl ((s.ops.map LOp.name).map .s ++ (s.funs.map LOp.name).map .s) (s.ops.length + s.funs.length)] (.b (decide (opNames s).Nodup)) := by
 have := ctr45 (opNames s) h
 simpa only [avs, opNames, List.map_append, List.length_append, List.length_map] using this
theorem take_mm {α β γ : Type} {f : β → γ} {g : α → β} {a b : List α} : ((a.map g).map f ++ (b.map g).map f).take (a.length + b.length) = (a.map g).map f ++ (b.map g).map f := List.take_of_length_le (by simp)
attribute [go_sem] flatL_app persL_app take_mm
theorem ctr12 (s : LSig) (hs : Small s) (ho : OkS s): CT 53 [.agg (sigCells s)] (.b (validB s)) := by
 refine sem_intro (rx := false) (th := fun _ => none) mixed Tryz.func53 rfl (by kernel_rfl) (by kernel_rfl) (ac := ?_) ?_ g0 ?_
 rotate_left
 · simp only [strip, splitQ, stripOps, stripOp, hoist, List.filter_cons, List.filter_nil, List.nil_append, List.cons_append, isFree, anyPre, Region.binds, Bool.not_true, Bool.not_false, Bool.false_eq_true, if_true, if_false, Option.isNone_none, Option.isNone_some, Bool.true_and, Bool.false_and, List.map_nil, List.map_cons, List.isEmpty_nil, List.isEmpty_cons, List.append_nil]
   rfl
 · simp -implicitDefEqProofs (disch := omega) only [Tryz.f53, go_sem, List.replicate, simprocAttr]
   have h1 := hs.sorts
   have h2 := hs.below
   have h3 := hs.ops
   have h4 := hs.funs
   have h5 := hs.values
   (repeat' (first | refine gT ?_ ?_ | refine gF ?_ ?_ | refine gC ?_ ?_ | ((first | (refine c_ctrE (ctr44 s.below ho.below) ?_ ?_; (focus (simp -implicitDefEqProofs (disch := omega) only [avs, avb, avi, avo, sigCells, opCells, pairCells, go_sem, simprocAttr]; done))) | (refine c_ctrE (ctr45 s.values ho.values) ?_ ?_; (focus (simp -implicitDefEqProofs (disch := omega) only [avs, avb, avi, avo, sigCells, opCells, pairCells, go_sem, simprocAttr]; done)))); simp -implicitDefEqProofs (disch := omega) only [go_sem, simprocAttr]) | refine And.intro (by omega) ?_ | (intro hr; have hc := hr; (try simp only [zda, zdb, zdc, zdd] at hc); simp -implicitDefEqProofs (disch := omega) only [hr, go_sem, simprocAttr]; (try clear hr))))
   all_goals first | (refine fin_eq ?_ (by rfl); simp only [validB, validHead]; simp_all; done) | (refine fin_eq ?_ (by rfl); simp only [validB, validHead]; simp_all; omega) | skip
   (repeat' (first | refine gT ?_ ?_ | refine gF ?_ ?_ | refine gC ?_ ?_ | ((first | (refine c_ctrE (ctr45 s.sorts ho.sorts) ?_ ?_; (focus (simp -implicitDefEqProofs (disch := omega) only [avs, avb, avi, avo, sigCells, opCells, pairCells, go_sem, simprocAttr]; done))) | (refine c_ctrE (ctr49 s.sorts 93 [] [] freshA ho.sorts rfl rfl (fresh_ctr s ho)) ?_ ?_; (focus (simp -implicitDefEqProofs (disch := omega) only [avs, avb, avi, avo, sigCells, opCells, pairCells, go_sem, simprocAttr]; done))) | (refine c_ctrE (ctr50 s.ops ho.opsT) ?_ ?_; (focus (simp -implicitDefEqProofs (disch := omega) only [avs, avb, avi, avo, sigCells, opCells, pairCells, go_sem, simprocAttr]; done))) | (refine c_ctrE (ctr50 s.funs ho.funsT) ?_ ?_; (focus (simp -implicitDefEqProofs (disch := omega) only [avs, avb, avi, avo, sigCells, opCells, pairCells, go_sem, simprocAttr]; done))) | (refine c_ctrE (ctr45x s (by simp only [opNames, List.length_append, List.length_map]; omega)) ?_ ?_; (focus (simp -implicitDefEqProofs (disch := omega) only [avs, avb, avi, avo, sigCells, opCells, pairCells, go_sem, simprocAttr]; done)))); simp -implicitDefEqProofs (disch := omega) only [go_sem, simprocAttr]) | refine And.intro (by omega) ?_ | (intro hr; have hc := hr; (try simp only [zda, zdb, zdc, zdd] at hc); simp -implicitDefEqProofs (disch := omega) only [hr, go_sem, simprocAttr]; (try clear hr))))
   all_goals first | (refine fin_eq ?_ (by rfl); simp only [validB, validMid, *, decide_true, decide_false, Bool.and_false, Bool.false_and]; done) | skip
   (repeat' (first | refine gT ?_ ?_ | refine gF ?_ ?_ | refine gC ?_ ?_ | ((first | (refine c_ctrE (ctr51 s hs (distinct_of (by assumption) (by assumption) (by assumption))) ?_ ?_; (focus (simp -implicitDefEqProofs (disch := omega) only [avs, avb, avi, avo, sigCells, opCells, pairCells, go_sem, simprocAttr]; done))) | (refine c_ctrE (ctr52 s.below 99 [bookAV s] [] (isBelow s) ho.below persL_bk rfl (fun k hk => ctr53 s (s.below.getD k ([], [])) hs)) ?_ ?_; (focus (simp -implicitDefEqProofs (disch := omega) only [avs, avb, avi, avo, sigCells, opCells, pairCells, go_sem, simprocAttr]; done))) | (refine c_ctrE (ctr49 s.values 100 [bookAV s] [] (existsA s) ho.values persL_bk rfl (fun k hk => ctr54 s (s.values.getD k []))) ?_ ?_; (focus (simp -implicitDefEqProofs (disch := omega) only [avs, avb, avi, avo, sigCells, opCells, pairCells, go_sem, simprocAttr]; done))) | (refine c_ctrE (ctr55 s.ops 102 [bookAV s] [] (isOp s) ho.ops persL_bk rfl (fun k hk => ctr56 s (s.ops.getD k default) hs (ho.opsO (s.ops.getD k default) (mem_getD hk)))) ?_ ?_; (focus (simp -implicitDefEqProofs (disch := omega) only [avs, avb, avi, avo, sigCells, opCells, pairCells, go_sem, simprocAttr]; done))) | (refine c_ctrE (ctr55 s.funs 103 [bookAV s] [] (isFun s) ho.funs persL_bk rfl (fun k hk => ctr57 s (s.funs.getD k default) hs (ho.funsO (s.funs.getD k default) (mem_getD hk)))) ?_ ?_; (focus (simp -implicitDefEqProofs (disch := omega) only [avs, avb, avi, avo, sigCells, opCells, pairCells, go_sem, simprocAttr]; done)))); simp -implicitDefEqProofs (disch := omega) only [go_sem, simprocAttr]) | refine And.intro (by omega) ?_ | (intro hr; have hc := hr; (try simp only [zda, zdb, zdc, zdd] at hc); simp -implicitDefEqProofs (disch := omega) only [hr, go_sem, simprocAttr]; (try clear hr))))
   all_goals first | (refine fin_eq ?_ (by rfl); simp only [validB, validMid, validTail, *, decide_true, decide_false, Bool.and_false, Bool.false_and]; done) | skip
   all_goals refine fin_eq ?_ (by rfl)
   all_goals simp only [validB, validHead, validMid, validTail, *, decide_true, Bool.and_true, Bool.true_and]
   all_goals (simp; omega)

def swap (s a b : Str) : Str := if s = a then b else if s = b then a else s
def swapOp (s a b : Str) : Str := swap (base s) a b ++ frame s
def sortSw (s : LSig) (a b x : Str) : Str := if s.sorts.contains x then swap x a b else x

def bulk (o : LOp) : Nat := o.args.length + o.pieces.length + o.strict.length
def bulks (l : List LOp) : Nat := (l.map bulk).sum
def few (s : LSig) : Bool := decide (s.sorts.length ≤ 60) && decide (s.below.length ≤ 250) && decide (s.ops.length + s.funs.length ≤ 250) && decide (s.values.length ≤ 100) && decide (bulks (s.ops ++ s.funs) ≤ 3000)
@[simp] theorem bulks_nil : bulks [] = 0 := rfl


theorem int2_0 : ((2 : Int) = 0) = False := by decide
theorem int13_0 : ((13 : Int) = 0) = False := by decide
theorem int4_0 : ((4 : Int) = 0) = False := by decide
theorem int14_0 : ((14 : Int) = 0) = False := by decide
attribute [go_sem] ite_self int2_0 int13_0 int4_0 int14_0 List.isEmpty_nil decide_true decide_false not_true_eq_false not_false_eq_true Bool.not_true Bool.not_false
def optR (r : Option LOp) : AV := match r with
 | some o => .tup [elO o, .b true]
 | none => .tup [elO default, .b false]
def opAt (s : LSig) (x : Str) : Option LOp := s.ops.find? fun o => decide (o.name = x)
def funAt (s : LSig) (x : Str) : Option LOp := s.funs.find? fun o => decide (o.name = x)
theorem findIdx_map {l : List LOp} {x : Str} : ((l.map LOp.name).findIdx? fun y => decide (x = y)) = l.findIdx? fun o => decide (o.name = x) := by
 rw [List.findIdx?_map]; congr 1; funext o; simp [eq_comm]
theorem find_idx {l : List LOp} {x : Str} : (∃ i o, (l.findIdx? fun o => decide (o.name = x)) = some i ∧ l.find? (fun o => decide (o.name = x)) = some o ∧ (l.map elO)[i]? = some (elO o)) ∨ ((l.findIdx? fun o => decide (o.name = x)) = none ∧ l.find? (fun o => decide (o.name = x)) = none) := by
 induction l with
 | nil => right; simp
 | cons a l ih =>
   by_cases h : a.name = x
   · left; exact ⟨0, a, by simp [List.findIdx?_cons, h], by simp [h], by simp⟩
   · rcases ih with ⟨i, o, h1, h2, h3⟩ | ⟨h1, h2⟩
     · left; exact ⟨i + 1, o, by simp [List.findIdx?_cons, h, h1], by simp [h, h2], by simpa using h3⟩
     · right; exact ⟨by simp [List.findIdx?_cons, h, h1], by simp [h, h2]⟩
theorem ctr64 (s : LSig) (x : Str): CT 173 [bookAV s, .s x] (optR (opAt s x)) := by
 refine sem_intro (rx := false) (th := fun _ => none) mixed Tryz.func173 rfl (by kernel_rfl) (by kernel_rfl) (ac := ?_) ?_ g0 ?_
 rotate_left
 · simp only [strip, splitQ, stripOps, stripOp, hoist, List.filter_cons, List.filter_nil, List.nil_append, List.cons_append, isFree, anyPre, Region.binds, Bool.not_true, Bool.not_false, Bool.false_eq_true, if_true, if_false, Option.isNone_none, Option.isNone_some, Bool.true_and, Bool.false_and, List.map_nil, List.map_cons, List.isEmpty_nil, List.isEmpty_cons, List.append_nil]
   rfl
 · simp -implicitDefEqProofs (disch := omega) only [Tryz.f173, go_sem, List.replicate, simprocAttr]
   rcases find_idx (l := s.ops) (x := x) with ⟨i, o, h1, h2, h3⟩ | ⟨h1, h2⟩
   · simp -implicitDefEqProofs (disch := omega) only [findIdx_map, h1, h3, go_sem, simprocAttr]
     exact fin_eq (by simp only [optR, opAt, h2]; rfl) (by simp only [pers, persL, persL_s, persL_pair, persL_i, Bool.and_self])
   · simp -implicitDefEqProofs (disch := omega) only [findIdx_map, h1, go_sem, simprocAttr]
     have : optR (opAt s x) = .tup [elO default, .b false] := by simp only [optR, opAt, h2]
     rw [this]
     exact .inr ⟨⟨⟨rfl, rfl, rfl, rfl, rfl, rfl, rfl, trivial⟩, rfl, trivial⟩, by decide, fun i hi => by cases hi⟩
theorem ctr68 (s : LSig) (x : Str): CT 174 [bookAV s, .s x] (optR (funAt s x)) := by
 refine sem_intro (rx := false) (th := fun _ => none) mixed Tryz.func174 rfl (by kernel_rfl) (by kernel_rfl) (ac := ?_) ?_ g0 ?_
 rotate_left
 · simp only [strip, splitQ, stripOps, stripOp, hoist, List.filter_cons, List.filter_nil, List.nil_append, List.cons_append, isFree, anyPre, Region.binds, Bool.not_true, Bool.not_false, Bool.false_eq_true, if_true, if_false, Option.isNone_none, Option.isNone_some, Bool.true_and, Bool.false_and, List.map_nil, List.map_cons, List.isEmpty_nil, List.isEmpty_cons, List.append_nil]
   rfl
 · simp -implicitDefEqProofs (disch := omega) only [Tryz.f174, go_sem, List.replicate, simprocAttr]
   rcases find_idx (l := s.funs) (x := x) with ⟨i, o, h1, h2, h3⟩ | ⟨h1, h2⟩
   · simp -implicitDefEqProofs (disch := omega) only [findIdx_map, h1, h3, go_sem, simprocAttr]
     exact fin_eq (by simp only [optR, funAt, h2]; rfl) (by simp only [pers, persL, persL_s, persL_pair, persL_i, Bool.and_self])
   · simp -implicitDefEqProofs (disch := omega) only [findIdx_map, h1, go_sem, simprocAttr]
     have : optR (funAt s x) = .tup [elO default, .b false] := by simp only [optR, funAt, h2]
     rw [this]
     exact .inr ⟨⟨⟨rfl, rfl, rfl, rfl, rfl, rfl, rfl, trivial⟩, rfl, trivial⟩, by decide, fun i hi => by cases hi⟩
def cloneAV (o : LOp) : AV := .agg [.s o.name, .own 1 (o.args.map .s) o.args.length, .s o.sort, .own 2 (o.pieces.flatMap pairCells) o.pieces.length, .i .i64 o.prec, .i .i64 o.assoc, .own 1 (o.strict.map (.i .i64)) o.strict.length]
theorem win_map {α : Type} (f : α → AV) (l : List α) : l.map f = ((l.map f).drop 0).take (l.length * 1) := by rw [List.drop_zero, List.take_of_length_le (by simp)]
theorem win_pair (l : List (Str × Str)) : l.flatMap pairCells = ((l.flatMap pairCells).drop 0).take (l.length * 2) := by rw [List.drop_zero, List.take_of_length_le (by rw [pair_flat_len]; omega)]
def heldAV (o : LOp) (i j k : Nat) : AV := .agg [.s o.name, .hs i 0 o.args.length false, .s o.sort, .hs j 0 o.pieces.length false, .i .i64 o.prec, .i .i64 o.assoc, .hs k 0 o.strict.length false]
structure Held (h : List AObj) (o : LOp) (i j k : Nat) : Prop where
 ij : i ≠ j
 ik : i ≠ k
 jk : j ≠ k
 a : h[i]? = some (.arr false 1 (o.args.map .s))
 p : h[j]? = some (.arr false 2 (o.pieces.flatMap pairCells))
 s : h[k]? = some (.arr false 1 (o.strict.map (.i .i64)))
theorem Held.fin {h : List AObj} {o : LOp} {i j k : Nat} (w : Held h o i j k) : Fin h (heldAV o i j k) (cloneAV o) := by
 refine .inr ⟨⟨rfl, ⟨rfl, rfl, _, w.a, by simp, win_map _ _, persL_s⟩, rfl, ⟨rfl, rfl, _, w.p, by rw [pair_flat_len]; omega, win_pair _, persL_pair⟩, rfl, rfl, ⟨rfl, rfl, _, w.s, by simp, win_map _ _, persL_i⟩, trivial⟩, ?_, ?_⟩
 · simp [cloneAV, heldAV, finIds, finIdsL, w.ij, w.ik, w.jk]
 · simp [cloneAV, heldAV, finIds, finIdsL, finRch, finRchL, reach_dep, reachK, reach_8, pers]
def findR (s : LSig) (r : Option LOp) : AV := if validB s then (match r with | some o => .tup [cloneAV o, .i .i64 0] | none => .tup [elO default, .i .i64 4]) else .tup [elO default, .i .i64 2]
def askR (s : LSig) (xs : List Str) (b : Bool) : AV := if validB s then (if xs.all (existsA s) then .tup [.b b, .i .i64 0] else .tup [.b false, .i .i64 13]) else .tup [.b false, .i .i64 2]

def listR (s : LSig) (p : Str → Bool) : List Str := sortS ((keysOf s).filter p)
theorem erase_map {α : Type} {f : α → AV} : ∀ {l : List α} {j : Nat}, (l.map f).eraseIdx j = (l.eraseIdx j).map f
 | [], _ => rfl
 | _ :: _, 0 => rfl
 | a :: l, j + 1 => by simp [erase_map (l := l)]
attribute [go_sem] erase_map entryC
theorem sort_perm {L L' : List Str} (h : L.Perm L') : sortS L = sortS L' := by
 unfold sortS
 refine List.Perm.eq_of_pairwise (le := fun x y : Str => x ≤ y) ?_ ?_ ?_ ?_
 · intro a b _ _ h1 h2; exact List.le_antisymm h1 h2
 · have := List.pairwise_mergeSort (le := fun x y : Str => decide (x ≤ y)) (fun a b c h1 h2 => by simp only [decide_eq_true_eq] at *; exact List.le_trans h1 h2) (fun a b => by simp only [Bool.or_eq_true, decide_eq_true_eq]; exact List.le_total a b) L
   simpa using this
 · have := List.pairwise_mergeSort (le := fun x y : Str => decide (x ≤ y)) (fun a b c h1 h2 => by simp only [decide_eq_true_eq] at *; exact List.le_trans h1 h2) (fun a b => by simp only [Bool.or_eq_true, decide_eq_true_eq]; exact List.le_total a b) L'
   simpa using this
 · exact ((List.mergeSort_perm L _).trans h).trans (List.mergeSort_perm L' _).symm

def listAV (s : LSig) (x : Str) (l : List Str) : AV := if validB s then (if existsA s x then .tup [.own 1 (l.map .s) l.length, .i .i64 0] else .tup [.sl [] 0, .i .i64 13]) else .tup [.sl [] 0, .i .i64 2]



def changeP (ps : Str → Str) (p : Str × Str) : Str × Str := (p.1, if p.2 = [] then [] else ps p.2)
def changeO (po ps : Str → Str) (o : LOp) : LOp := ⟨po o.name, o.args.map ps, ps o.sort, o.pieces.map (changeP ps), o.prec, o.assoc, o.strict⟩

def changeB (ps : Str → Str) (b : Str × Str) : Str × Str := (ps b.1, ps b.2)
def changeS (po ps : Str → Str) (s : LSig) : LSig := ⟨s.sorts.map ps, s.below.map (changeB ps), s.ops.map (changeO po ps), s.funs.map (changeO po ps), s.values.map ps⟩

def renamed (s : LSig) (a b : Str) : LSig := changeS (fun x => swapOp x a b) (sortSw s a b) s
def sigZ : LSig := ⟨[], [], [], [], []⟩
def renameR (s : LSig) (a b : Str) : AV := if validB s && isName a && isName b then (if validB (renamed s a b) then .tup [.agg (sigCells (renamed s a b)), .i .i64 0] else .tup [.agg (sigCells sigZ), .i .i64 14]) else .tup [.agg (sigCells sigZ), .i .i64 2]
theorem renameR_y {s : LSig} {a b : Str} (h : (validB s && isName a && isName b) = true) (h2 : validB (renamed s a b) = true) : renameR s a b = .tup [.agg (sigCells (renamed s a b)), .i .i64 0] := by simp [renameR, h, h2]

def cExp : Str := [69, 120, 112]
def cPgm : Str := [80, 103, 109]
def cInt : Str := [73, 110, 116]
def cFoo : Str := [70, 111, 111]
def cPlus : Str := [112, 108, 117, 115]
def cNope : Str := [78, 111, 112, 101]
def plusO : LOp := ⟨cPlus, [cExp, cExp], cExp, [([], cExp), ([43], []), ([], cExp)], 5, 1, [1, 2]⟩
def sumsS : LSig := ⟨[cExp, cPgm], [(cInt, cExp), (cExp, cPgm)], [plusO], [], [cInt]⟩
def plusF : LOp := ⟨cPlus, [cFoo, cFoo], cFoo, [([], cFoo), ([43], []), ([], cFoo)], 5, 1, [1, 2]⟩
def fooS : LSig := ⟨[cFoo, cPgm], [(cInt, cFoo), (cFoo, cPgm)], [plusF], [], [cInt]⟩
theorem v_sums : validB sumsS = true := by decide +kernel
theorem ask_y {s : LSig} {xs : List Str} {b c : Bool} (h : validB s = true) (h2 : xs.all (existsA s) = true) (hb : b = c) : askR s xs b = .tup [.b c, .i .i64 0] := by subst hb; simp [askR, h, h2]
theorem ask_n {s : LSig} {xs : List Str} {b : Bool} (h : validB s = true) (h2 : xs.all (existsA s) = false) : askR s xs b = .tup [.b false, .i .i64 13] := by simp [askR, h, h2]
theorem a1 : askR sumsS [cInt, cExp] (atMost sumsS cInt cExp) = .tup [.b true, .i .i64 0] := ask_y v_sums (by decide +kernel) (by decide +kernel)
theorem a2 : askR sumsS [cExp, cInt] (atMost sumsS cExp cInt) = .tup [.b false, .i .i64 0] := ask_y v_sums (by decide +kernel) (by decide +kernel)
theorem a3 : askR sumsS [cExp] (isValue sumsS cExp) = .tup [.b false, .i .i64 0] := ask_y v_sums (by decide +kernel) (by decide +kernel)
theorem a4 : askR sumsS [cPgm, cInt] (meets sumsS cPgm cInt) = .tup [.b true, .i .i64 0] := ask_y v_sums (by decide +kernel) (by decide +kernel)
theorem a5 : askR sumsS [cInt, cNope] (atMost sumsS cInt cNope) = .tup [.b false, .i .i64 13] := ask_n v_sums (by decide +kernel)
theorem sort_is {L M : List Str} (h : L.Perm M) (hM : M.Pairwise fun x y => x ≤ y) : sortS L = M := by
 rw [sort_perm h]
 unfold sortS
 refine List.mergeSort_of_pairwise ?_
 simpa using hM
theorem l1 : listR sumsS (atMost sumsS cInt) = [anyS, cExp, cInt, cPgm] := by
 unfold listR
 have : (keysOf sumsS).filter (atMost sumsS cInt) = [anyS, cInt, cExp, cPgm] := by decide +kernel
 rw [this]
 exact sort_is (by decide +kernel) (by decide +kernel)
theorem l2 : listR sumsS (fun y => atMost sumsS y cExp) = [cExp, cInt] := by
 unfold listR
 have : (keysOf sumsS).filter (fun y => atMost sumsS y cExp) = [cInt, cExp] := by decide +kernel
 rw [this]
 exact sort_is (by decide +kernel) (by decide +kernel)
theorem list_y {s : LSig} {x : Str} {l m : List Str} (h : validB s = true) (h2 : existsA s x = true) (hm : l = m) : listAV s x l = .tup [.own 1 (m.map .s) m.length, .i .i64 0] := by subst hm; simp [listAV, h, h2]
theorem b1 : listAV sumsS cInt (listR sumsS (atMost sumsS cInt)) = .tup [.own 1 [.s anyS, .s cExp, .s cInt, .s cPgm] 4, .i .i64 0] := list_y v_sums (by decide +kernel) l1
theorem b2 : listAV sumsS cExp (listR sumsS (fun y => atMost sumsS y cExp)) = .tup [.own 1 [.s cExp, .s cInt] 2, .i .i64 0] := list_y v_sums (by decide +kernel) l2
theorem f1 : findR sumsS (opAt sumsS cPlus) = .tup [cloneAV plusO, .i .i64 0] := by
 have : opAt sumsS cPlus = some plusO := by decide +kernel
 rw [this]; simp only [findR, if_pos v_sums]
theorem f2 : findR sumsS (funAt sumsS cPlus) = .tup [elO default, .i .i64 4] := by
 have : funAt sumsS cPlus = none := by decide +kernel
 rw [this]; simp only [findR, if_pos v_sums]
theorem r1 : renameR sumsS cExp cFoo = .tup [.agg (sigCells fooS), .i .i64 0] := by
 have h : renamed sumsS cExp cFoo = fooS := by decide +kernel
 have h2 : validB fooS = true := by decide +kernel
 have h3 : (validB sumsS && isName cExp && isName cFoo) = true := by decide +kernel
 rw [← h, renameR_y h3 (h ▸ h2)]








theorem fin_zeroB {h : List AObj} {b : Bool} : Fin h (.tup [.agg [.s [], .e0, .s [], .e0, .i .i64 0, .i .i64 0, .e0], .b b]) (.tup [elO default, .b b]) :=
 .inr ⟨⟨⟨rfl, rfl, rfl, rfl, rfl, rfl, rfl, trivial⟩, rfl, trivial⟩, by simp [elO, opCells, finIds, finIdsL, avs, avb, avi], by simp [elO, opCells, finIds, finIdsL, avs, avb, avi]⟩
end Go.Proofs.YtnjnjdebgkjfhaaGreatDoor

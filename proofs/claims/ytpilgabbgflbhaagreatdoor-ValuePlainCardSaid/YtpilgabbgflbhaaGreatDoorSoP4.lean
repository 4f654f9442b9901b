/-
  What functions of the chapter return, as plain functions of what they are given; no condition beyond those that each theorem names.
-/
import Derived.Test.YtpilgabbgflbhaaGreatDoorSoP3
import Derived.Sort.Walk0
set_option maxRecDepth 100000
set_option linter.unusedSimpArgs false
set_option linter.unusedVariables false
set_option maxHeartbeats 4000000
namespace Go.Proofs.YtpilgabbgflbhaaGreatDoor
open Go Go.Vo
open Nat (reduceAdd reduceSub reduceMul reduceLeDiff reduceLT reduceEqDiff)
open Int (reduceNeg)

def validR (s : LSig) : Bool := decide (s.sorts.length ≤ 40) && decide (s.below.length ≤ 200) && decide (s.ops.length + s.funs.length ≤ 200) && sortsR s && belowR s && opsR s && s.values.all (existsB s) && decide s.values.Nodup
theorem exists_eq (s : LSig) (x : Str) : existsB s x = existsA s x := by
 have := always_eq x
 unfold existsB existsA keysOf
 rw [Bool.eq_iff_iff]
 have h2 := Bool.eq_iff_iff.1 this
 simp only [List.contains_iff_mem] at h2
 simp [h2]
theorem pieceText_eq {t : Str} : pieceText t = pieceR t := by
 unfold pieceText pieceR isSign
 have hc : (fun c : UInt8 => signChar c.toNat) = fun c => pieceChar c.toNat := by
   funext c
   simp only [signChar, pieceChar, part, Bool.or_assoc]
 rw [hc]
 have hn : isName t = true → 1 ≤ t.length := by
   intro h
   cases t with
   | nil => revert h; decide
   | cons a l => simp
 cases h : isName t
 · simp
 · have := hn h
   simp [this]
   by_cases h2 : t.length ≤ 20 <;> simp [h2]
theorem piece_eq (p : Str × Str) : pieceA p = okR p := by
 unfold pieceA okR
 rw [pieceText_eq]
 have h0 : pieceR [] = false := by decide
 by_cases h2 : p.2 = []
 · simp [h2]
 · by_cases h1 : p.1 = []
   · simp [h2, h1, h0]
   · simp [h2, h1]
theorem op_eq (s : LSig) (o : LOp) : isOp s o = opR s o := by
 have hp : (fun p => pieceA p) = okR := by funext p; exact piece_eq p
 have hx : s.sorts.contains o.sort = s.sorts.contains o.sort := rfl
 have he : o.args.all (existsA s) = o.args.all (existsB s) := by congr 1; funext x; exact (exists_eq s x).symm
 unfold isOp opR opHead argsR piecesR strictR precR precOK assocOK syntaxA
 rw [show pieceA = okR from hp, he]
 rw [Bool.eq_iff_iff]
 by_cases hz : o.pieces = []
 · simp only [hz, List.all_nil, List.length_nil, List.isEmpty_nil, if_true, Bool.and_eq_true, decide_eq_true_eq, Bool.or_eq_true, Bool.not_eq_true']
   constructor
   · rintro h; simp_all; omega
   · rintro h; simp_all
 · have : o.pieces.isEmpty = false := by simpa using hz
   have hl : 0 < o.pieces.length := List.length_pos_iff.2 hz
   simp only [hz, this, hl, if_false, Bool.and_eq_true, decide_eq_true_eq, Bool.or_eq_true, Bool.not_eq_true', Bool.false_eq_true, false_or, true_or, and_true]
   constructor
   · rintro h; simp_all
   · rintro h; simp_all
theorem fun_eq (s : LSig) (o : LOp) : isFun s o = funR s o := by
 have he : o.args.all (existsA s) = o.args.all (existsB s) := by congr 1; funext x; exact (exists_eq s x).symm
 unfold isFun funR argsR
 rw [he, exists_eq]
 rw [Bool.eq_iff_iff]
 simp only [Bool.and_eq_true, decide_eq_true_eq, Bool.not_eq_true']
 constructor
 · rintro h; simp_all
 · rintro h; simp_all
theorem sorts_eq (s : LSig) : sortsR s = (s.sorts.all freshA && decide (s.sorts.length ≤ 40) && decide s.sorts.Nodup) := by
 unfold sortsR
 have : freshB = freshA := by funext x; simp only [freshA, freshB, always_eq]
 rw [this]
theorem below_one (s : LSig) (b : Str × Str) : (belowOne s b && belowUp s b) = isBelow s b := by
 unfold belowOne belowUp isBelow above
 rw [exists_eq]
 by_cases h : s.sorts.contains b.2 = true
 · have h2 : existsA s b.2 = true := by
     rw [← exists_eq]; unfold existsB; rw [h, Bool.or_true]
   rw [h, h2, if_pos rfl]
   rw [Bool.eq_iff_iff]; simp only [Bool.and_eq_true, Bool.not_eq_true', decide_eq_true_eq, decide_eq_false_iff_not]; exact ⟨fun ⟨⟨⟨a, b⟩, c⟩, d⟩ => ⟨⟨⟨b, a⟩, c⟩, d⟩, fun ⟨⟨⟨a, b⟩, c⟩, d⟩ => ⟨⟨⟨b, a⟩, c⟩, d⟩⟩
 · have h := Bool.eq_false_iff.2 h
   rw [h]; simp
theorem all_and {α : Type} {p q : α → Bool} {l : List α} : (l.all p && l.all q) = l.all fun x => p x && q x := by
 induction l with
 | nil => rfl
 | cons x l ih =>
   simp only [List.all_cons, ← ih]
   cases p x <;> cases q x <;> cases l.all p <;> cases l.all q <;> rfl
theorem below_eq (s : LSig) : belowR s = (s.below.all (isBelow s) && decide s.below.Nodup && decide (s.below.length ≤ 200)) := by
 have h : s.below.all (isBelow s) = (s.below.all (belowOne s) && s.below.all (belowUp s)) := by
   rw [all_and]; congr 1; funext b; exact (below_one s b).symm
 rw [h, belowR]
 cases s.below.all (belowOne s) <;> cases s.below.all (belowUp s) <;> simp
theorem valid_eq (s : LSig) : validR s = validB s := by
 have h1 : s.ops.all (isOp s) = s.ops.all (opR s) := by congr 1; funext x; exact op_eq s x
 have h2 : s.funs.all (isFun s) = s.funs.all (funR s) := by congr 1; funext x; exact fun_eq s x
 have h3 : s.values.all (existsA s) = s.values.all (existsB s) := by congr 1; funext x; exact (exists_eq s x).symm
 have h4 : (namesOf s).length = s.ops.length + s.funs.length := by simp [namesOf]
 have h5 : opNames s = namesOf s := rfl
 unfold validR validB validHead validMid validTail
 rw [sorts_eq, below_eq, opsR, h1, h2, h3, h4, h5]
 rw [Bool.eq_iff_iff]
 simp only [Bool.and_eq_true]
 constructor
 · rintro ⟨⟨⟨⟨⟨⟨⟨a, b⟩, c⟩, ⟨d, e⟩, f⟩, ⟨g, h⟩, i⟩, ⟨⟨j, k⟩, l⟩, m⟩, n⟩, o⟩
   exact ⟨⟨⟨⟨⟨⟨a, b⟩, c⟩, h⟩, o⟩, ⟨f, d⟩, m⟩, ⟨⟨g, n⟩, j⟩, k⟩
 · rintro ⟨⟨⟨⟨⟨⟨a, b⟩, c⟩, h⟩, o⟩, ⟨f, d⟩, m⟩, ⟨⟨g, n⟩, j⟩, k⟩
   exact ⟨⟨⟨⟨⟨⟨⟨a, b⟩, c⟩, ⟨d, a⟩, f⟩, ⟨g, h⟩, b⟩, ⟨⟨j, k⟩, c⟩, m⟩, n⟩, o⟩
theorem gt40 {n : Nat} : (40 < (n : Int)) ↔ ¬ n ≤ 40 := by omega
theorem gt200 {n : Nat} : (200 < (n : Int)) ↔ ¬ n ≤ 200 := by omega
theorem gt200' {n m : Nat} : (200 < (n : Int) + m) ↔ ¬ n + m ≤ 200 := by omega
theorem ctr13 (s : LSig) (hm : Small s) (hs : OkS s): CT 40 [.agg (sigCells s)] (.b (validB s)) := by
 refine sem_introB mixed Tryz.func40 g0 ?_
 · skip
   have h1 := hm.sorts
   have h2 := hm.below
   have h3 := hm.ops
   have h4 := hm.funs
   have h5 := hm.values
   rw [← valid_eq]
   (repeat' (first | refine gT ?_ ?_ | refine gF ?_ ?_ | refine gC ?_ ?_ | ((first | (refine c_ctrE (ctr58 s hs) ?_ ?_; (focus (simp -implicitDefEqProofs (disch := omega) only [avs, avb, avi, avo, sigCells, opCells, pairCells, go_sem, ↓reduceIte, reduceAdd, reduceSub, reduceMul, reduceLeDiff, reduceLT, reduceEqDiff, reduceNeg, Nat.reduceBEq]; done))) | (refine c_ctrE (ctr59 s hs h2) ?_ ?_; (focus (simp -implicitDefEqProofs (disch := omega) only [avs, avb, avi, avo, sigCells, opCells, pairCells, go_sem, ↓reduceIte, reduceAdd, reduceSub, reduceMul, reduceLeDiff, reduceLT, reduceEqDiff, reduceNeg, Nat.reduceBEq]; done))) | (refine c_ctrE (ctr60 s hs (by omega)) ?_ ?_; (focus (simp -implicitDefEqProofs (disch := omega) only [avs, avb, avi, avo, sigCells, opCells, pairCells, go_sem, ↓reduceIte, reduceAdd, reduceSub, reduceMul, reduceLeDiff, reduceLT, reduceEqDiff, reduceNeg, Nat.reduceBEq]; done)))); simp -implicitDefEqProofs (disch := omega) only [go_sem, ↓reduceIte, reduceAdd, reduceSub, reduceMul, reduceLeDiff, reduceLT, reduceEqDiff, reduceNeg, Nat.reduceBEq]) | refine And.intro (by omega) ?_ | (intro hr; have hc := hr; (try simp only [zda, zdb, zdc, zdd] at hc); simp -implicitDefEqProofs (disch := omega) only [hr, go_sem, ↓reduceIte, reduceAdd, reduceSub, reduceMul, reduceLeDiff, reduceLT, reduceEqDiff, reduceNeg, Nat.reduceBEq]; (try clear hr))))
   all_goals try simp only [gt40, gt200, gt200', Decidable.not_not] at *
   all_goals first | (refine fin_eq ?_ (by rfl); simp only [validR, *, decide_true, decide_false, Bool.and_false, Bool.false_and, Bool.and_true, Bool.true_and, Bool.not_true, Bool.not_false]; done) | skip
   refine x_loopJ (fun (k : Nat) => [.k, .k, .j, .k, .j, .k, .k, .k, .k, .k, .k, .k, .k, .k, .k, .k, .k, .k, .k, .k, .k, .k, .k, .k, .k, .k, .k, .k, .k, .k, .k, .k, .k, .k, .k, .k, .k, .k, .k, .k, .k, .k, .k, .v (.i .i64 k), .j, .j, .j, .j, .j, .j, .j, .j, .k, .k, .k]) (fun k => [.box false [.sl (s.sorts.map .s) s.sorts.length, .sl (s.below.flatMap pairCells) s.below.length, .sl (s.ops.flatMap opCells) s.ops.length, .sl (s.funs.flatMap opCells) s.funs.length, .sl (s.values.map .s) s.values.length]]) (fun k => k ≤ s.values.length ∧ ∀ j, j < k → existsB s (s.values.getD j []) = true) (fun k => s.values.length - k) (0) ⟨Nat.zero_le _, fun j h => by omega⟩ rfl (by simp [Fits]) ?_
   rintro k j ⟨hk, ha⟩
   simp -implicitDefEqProofs (disch := omega) only [go_sem, ↓reduceIte, reduceAdd, reduceSub, reduceMul, reduceLeDiff, reduceLT, reduceEqDiff, reduceNeg, Nat.reduceBEq]
   (repeat' (first | refine gT ?_ ?_ | refine gF ?_ ?_ | refine gC ?_ ?_ | ((first | (refine c_ctrE (ctr61 s (s.values.getD k []) (by omega)) ?_ ?_; (focus (simp -implicitDefEqProofs (disch := omega) only [avs, avb, avi, avo, sigCells, opCells, pairCells, go_sem, ↓reduceIte, reduceAdd, reduceSub, reduceMul, reduceLeDiff, reduceLT, reduceEqDiff, reduceNeg, Nat.reduceBEq]; done))) | (refine c_ctrE (ctr62 s.values (by omega)) ?_ ?_; (focus (simp -implicitDefEqProofs (disch := omega) only [avs, avb, avi, avo, sigCells, opCells, pairCells, go_sem, ↓reduceIte, reduceAdd, reduceSub, reduceMul, reduceLeDiff, reduceLT, reduceEqDiff, reduceNeg, Nat.reduceBEq]; done)))); simp -implicitDefEqProofs (disch := omega) only [go_sem, ↓reduceIte, reduceAdd, reduceSub, reduceMul, reduceLeDiff, reduceLT, reduceEqDiff, reduceNeg, Nat.reduceBEq]) | refine And.intro (by omega) ?_ | (intro hr; have hc := hr; (try simp only [zda, zdb, zdc, zdd] at hc); simp -implicitDefEqProofs (disch := omega) only [hr, go_sem, ↓reduceIte, reduceAdd, reduceSub, reduceMul, reduceLeDiff, reduceLT, reduceEqDiff, reduceNeg, Nat.reduceBEq]; (try clear hr))))
   · refine fin_eq ?_ (by rfl)
     have hno : s.values.all (existsB s) = false := not_all_getD (d := []) (j := k) (by omega) hc
     rw [validR, hno]; simp
   · exact ⟨k + 1, ⟨by omega, below_succ ha hc⟩, by omega, by simp⟩
   · refine fin_eq ?_ (by rfl)
     have hall : s.values.all (existsB s) = true := all_getD (d := []) (fun j hj => ha j (by omega))
     simp only [validR, *, decide_true, decide_false, Bool.and_false, Bool.false_and, Bool.and_true, Bool.true_and, Bool.not_true, Bool.not_false]

theorem few_small {s : LSig} (h : few s = true) : Small s := by
 simp only [few, Bool.and_eq_true, decide_eq_true_eq] at h
 exact ⟨by omega, by omega, by omega, by omega, by omega⟩

def underR (s : LSig) (x y : Str) : Bool := decide (y = anyS) || (climb s.below x).contains y
theorem under_eq {s : LSig} {x y : Str} (h : existsA s x = true) : underR s x y = atMost s x y := by simp only [underR, atMost, above, h, if_true]
theorem ctr74 (s : LSig) (x y : Str) (hm : Small s): CT 50 [.agg (sigCells s), .s x, .s y] (.b (underR s x y)) := by
 refine sem_introB mixed Tryz.func50 g0 ?_
 · skip
   have hl := climb_len s.below x
   have h2 := hm.below
   (repeat' (first | refine gT ?_ ?_ | refine gF ?_ ?_ | refine gC ?_ ?_ | ((first | (refine c_ctrE (ctr114 s x (by omega)) ?_ ?_; (focus (simp -implicitDefEqProofs (disch := omega) only [avs, avb, avi, avo, sigCells, opCells, pairCells, go_sem, ↓reduceIte, reduceAdd, reduceSub, reduceMul, reduceLeDiff, reduceLT, reduceEqDiff, reduceNeg, Nat.reduceBEq]; done))) | (refine c_ctrE (ctr27 (climb s.below x) y (by omega)) ?_ ?_; (focus (simp -implicitDefEqProofs (disch := omega) only [avs, avb, avi, avo, sigCells, opCells, pairCells, go_sem, ↓reduceIte, reduceAdd, reduceSub, reduceMul, reduceLeDiff, reduceLT, reduceEqDiff, reduceNeg, Nat.reduceBEq]; done)))); simp -implicitDefEqProofs (disch := omega) only [go_sem, ↓reduceIte, reduceAdd, reduceSub, reduceMul, reduceLeDiff, reduceLT, reduceEqDiff, reduceNeg, Nat.reduceBEq]) | refine And.intro (by omega) ?_ | (intro hr; have hc := hr; (try simp only [zda, zdb, zdc, zdd] at hc); simp -implicitDefEqProofs (disch := omega) only [hr, go_sem, ↓reduceIte, reduceAdd, reduceSub, reduceMul, reduceLeDiff, reduceLT, reduceEqDiff, reduceNeg, Nat.reduceBEq]; (try clear hr))))
   all_goals (refine fin_eq ?_ (by rfl))
   all_goals simp_all [underR, anyS]

theorem find_at {α : Type} {l : List α} {p : α → Bool} {k : Nat} {d : α} (hk : k < l.length) (h : p (l.getD k d) = true) (hb : ∀ j, j < k → (!p (l.getD j d)) = true) : l.find? p = some (l.getD k d) := by
 rw [List.find?_eq_some_iff_getElem]
 refine ⟨h, k, hk, by simp [List.getD, hk], fun j hj => ?_⟩
 have := hb j hj
 simpa [List.getD, show j < l.length by omega] using this
theorem find_no {α : Type} {l : List α} {p : α → Bool} {d : α} (hb : ∀ j, j < l.length → (!p (l.getD j d)) = true) : l.find? p = none := by
 rw [List.find?_eq_none]
 intro x hx
 obtain ⟨j, hj, rfl⟩ := List.mem_iff_getElem.1 hx
 have := hb j hj
 simpa [List.getD, hj] using this
theorem fin_zeroB {h : List AObj} {b : Bool} : Fin h (.tup [.agg [.s [], .e0, .s [], .e0, .i .i64 0, .i .i64 0, .e0], .b b]) (.tup [elO default, .b b]) :=
 .inr ⟨⟨⟨rfl, rfl, rfl, rfl, rfl, rfl, rfl, trivial⟩, rfl, trivial⟩, by simp [elO, opCells, finIds, finIdsL, avs, avb, avi], by simp [elO, opCells, finIds, finIdsL, avs, avb, avi]⟩
def namedR (r : Option LOp) : AV := match r with
 | some o => .tup [elO o, .b true]
 | none => .tup [elO default, .b false]
theorem ctr120 (l : List LOp) (x : Str) (hl : l.length ≤ 140737488355328): CT 133 [avo l, .s x] (namedR (l.find? fun o => decide (o.name = x))) := by
 refine sem_introA mixed Tryz.func133 g0 ?_
 · simp -implicitDefEqProofs (disch := omega) only [Tryz.f133, go_sem, List.replicate, ↓reduceIte, reduceAdd, reduceSub, reduceMul, reduceLeDiff, reduceLT, reduceEqDiff, reduceNeg, Nat.reduceBEq, avo]
   refine x_loopG (fun (k : Nat) => [.k, .k, .k, .k, .k, .j, .k, .j, .k, .k, .v (.i .i64 k), .j, .j, .j, .j, .j, .j, .j, .j, .j, .k]) (fun k => [.box false [.s [], .e0, .s [], .e0, .i .i64 0, .i .i64 0, .e0]]) (fun k => k ≤ l.length ∧ ∀ j, j < k → (!decide ((l.getD j default).name = x)) = true) (fun k => l.length - k) (0) _ ⟨Nat.zero_le _, fun j h => by omega⟩ rfl (by simp [Fits]) ?_
   rintro k g j ⟨hk, ha⟩
   simp -implicitDefEqProofs (disch := omega) only [go_sem, ↓reduceIte, reduceAdd, reduceSub, reduceMul, reduceLeDiff, reduceLT, reduceEqDiff, reduceNeg, Nat.reduceBEq]
   (repeat' (first | refine gT ?_ ?_ | refine gF ?_ ?_ | refine gC ?_ ?_ | refine And.intro (by omega) ?_ | (intro hr; have hc := hr; (try simp only [zda, zdb, zdc, zdd] at hc); simp -implicitDefEqProofs (disch := omega) only [hr, go_sem, ↓reduceIte, reduceAdd, reduceSub, reduceMul, reduceLeDiff, reduceLT, reduceEqDiff, reduceNeg, Nat.reduceBEq]; (try clear hr))))
   · have e : (l.find? fun o => decide (o.name = x)) = some (l.getD k default) := find_at (by omega) (decide_eq_true hc) ha
     rw [e]
     exact fin_eq rfl (by simp only [namedR, elO, pers, persL, persL_ops, opCells, avs, avb, avi, persL_s, persL_i, persL_pair, Bool.and_self])
   · exact ⟨k + 1, _, ⟨by omega, below_succ ha (by rw [decide_eq_false hc]; rfl)⟩, by omega, rfl, by simp⟩
   · have e : (l.find? fun o => decide (o.name = x)) = none := find_no (d := default) (fun j hj => ha j (by omega))
     rw [e]
     exact fin_zeroB
end Go.Proofs.YtpilgabbgflbhaaGreatDoor

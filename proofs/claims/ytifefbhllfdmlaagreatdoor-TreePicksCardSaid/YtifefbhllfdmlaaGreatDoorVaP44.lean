/-
  What functions of the chapter return, as plain functions of what they are given; no condition beyond those that each theorem names.
-/
import Derived.Test.YtifefbhllfdmlaaGreatDoorVaP43
import Derived.Test.YtifefbhllfdmlaaGreatDoorVoP47
set_option maxRecDepth 100000
set_option linter.unusedSimpArgs false
set_option linter.unusedVariables false
set_option maxHeartbeats 4000000
namespace Go.Proofs.YtifefbhllfdmlaaGreatDoor
open Go Go.Vo
open Nat (reduceAdd reduceSub reduceMul reduceLeDiff reduceLT reduceEqDiff)
open Int (reduceNeg)

abbrev ints (p : List Int) : List AV := p.map (.i .i64)
theorem R8 {pre g : List AObj} {sz n : Nat} {out : AV} {cells : List AV} (ho : eZ sz pre.length g out cells n) (hp : persL cells = true) : Fin (pre ++ g) out (.sl cells n) := by
 rcases ho with ⟨rfl, rfl, rfl⟩ | ⟨i, rfl, hi, hl⟩
 · exact .inr ⟨rfl, by simp [bK], by simp [bK]⟩
 · refine .inr ⟨?_, by simp [bK], by simp [bK]⟩
   show AV.sl cells n = gJ dep (pre ++ g) (.hs (i + pre.length) 0 n false)
   have hg : (pre ++ g)[i + pre.length]? = some (.arr false sz cells) := by
     rw [aH (by omega)]; simpa using hi
   have hd : (cells.drop 0).take (n * sz) = cells := by rw [dJ, aS (by omega)]
   simp only [jC, pers, E7, hg, hd, hp, if_true, aP, if_false]
   rw [if_pos (by omega)]
theorem aMs (p : List Int) (hp : p.length ≤ 1000000): CT 119 [.sl (ints p) p.length] (.own 1 (ints p) p.length) := by
 refine aF mixed Tryz.func119 g0 ?_
 · skip
   refine aUt (fun h => ?_) ?_
   · refine zg ?_
     obtain rfl := List.length_eq_zero_iff.1 h
     exact uB (pre := []) (g := []) (.inl ⟨rfl, rfl, rfl⟩) fP
   · (repeat' (first | refine gT ?_ ?_ | refine gF ?_ ?_ | refine gC ?_ ?_ | refine aZ (by omega) ?_ | (intro hr; have hc := hr; (try simp only [zdz] at hc); simp -implicitDefEqProofs (disch := omega) only [hr, go_sem, ↓reduceIte, reduceAdd, reduceSub, reduceMul, reduceLeDiff, reduceLT, reduceEqDiff, reduceNeg, Nat.reduceBEq]; (try clear hr))))
     · cases hc
     · exact uB (pre := []) (g := [.arr false 1 (ints p)]) (.inr ⟨0, rfl, rfl, by simp [ints]⟩) fP
theorem aWc (p : List Int) (hp : p.length ≤ 1000000): CT 119 [.sl (ints p) p.length] (.sl (ints p) p.length) := by
 refine aF mixed Tryz.func119 g0 ?_
 · skip
   refine aUt (fun h => ?_) ?_
   · refine zg ?_
     obtain rfl := List.length_eq_zero_iff.1 h
     exact R8 (pre := []) (g := []) (sz := 1) (.inl ⟨rfl, rfl, rfl⟩) fP
   · (repeat' (first | refine gT ?_ ?_ | refine gF ?_ ?_ | refine gC ?_ ?_ | refine aZ (by omega) ?_ | (intro hr; have hc := hr; (try simp only [zdz] at hc); simp -implicitDefEqProofs (disch := omega) only [hr, go_sem, ↓reduceIte, reduceAdd, reduceSub, reduceMul, reduceLeDiff, reduceLT, reduceEqDiff, reduceNeg, Nat.reduceBEq]; (try clear hr))))
     · cases hc
     · exact R8 (pre := []) (g := [.arr false 1 (ints p)]) (.inr ⟨0, rfl, rfl, by simp [ints]⟩) fP
def kJ (g g' : List AObj) : Prop := ∀ (i : Nat) (o : AObj), g[i]? = some o → (∀ c : List AV, o ≠ .arr false 10 c) → g'[i]? = some o
theorem kJ.refl (g : List AObj) : kJ g g := fun _ _ h _ => h
theorem kJ.trans {a b c : List AObj} (h : kJ a b) (k : kJ b c) : kJ a c := fun i o x y => k i o (h i o x y) y
theorem kJ.app (g m : List AObj) : kJ g (g ++ m) := fun i o x _ => by rw [aC (aM x)]; exact x
abbrev aAz (l : List LAsk) (g : List AObj) : AV → List AObj → Prop := fun r h' => r = .tup [] ∧ ∃ out' g', h' = .box false [out'] :: g' ∧ eZ 10 1 g' out' (l.flatMap aR) l.length ∧ kJ g g'
theorem bBh (a : LAsk) : aR a = [.sl (ints a.path) a.path.length, .i .i64 a.test.op, .i .i64 a.test.term.kind, .i .i64 a.test.term.n, .s a.test.term.text, .s a.test.term.sort, .sl (a.test.term.kids.flatMap aD) a.test.term.kids.length, .sl (a.test.term.rest.flatMap aD) a.test.term.rest.length, .s a.test.text, .i .i64 a.test.n] := rfl
theorem bKh (te : LTest) (p : List Int) (g : List AObj) (A B : Nat) (hA : g[A]? = some (.box false [.ptr 0 0])) (hB : g[B]? = some (.box false [.sl (ints p) p.length])) (ht : OkT te.term) (hp : p.length ≤ 1000000): ACalls Tryz.prog G0 131 [.agg (dF te), .ptr (A + 1) 0, .ptr (B + 1) 0] (.box false [.e0] :: g) (aAz [⟨p, te⟩] g) := by
 refine dI (rx := true) (th := fun i => if i = 1 then some ⟨some (g.length + 2), [], false, true, false, [10], []⟩ else none) mixed Tryz.func131 ?_
 · simp -implicitDefEqProofs (disch := omega) only [Tryz.f131, go_sem, List.replicate, ↓reduceIte, reduceAdd, reduceSub, reduceMul, reduceLeDiff, reduceLT, reduceEqDiff, reduceNeg, Nat.reduceBEq, dF, avt]
   have hA1 := aM hA
   have hB1 := aM hB
   have hAm : ∀ m : List AObj, (g ++ m)[A]? = some (.box false [.ptr 0 0]) := fun m => by rw [aC hA1]; exact hA
   have hBm : ∀ m : List AObj, (g ++ m)[B]? = some (.box false [.sl (ints p) p.length]) := fun m => by rw [aC hB1]; exact hB
   have hA2 : (A + 1 < g.length + 2) = True := eq_true (by omega)
   have hB2 : (B + 1 < g.length + 2) = True := eq_true (by omega)
   refine zh (zA2 hA (zA2 hB (zA2 hAm (zA2 hBm (zA2 hA2 (zA2 hB2 (zA2 true_and and_true))))))) ?_
   (repeat' (first | refine gT ?_ ?_ | refine gF ?_ ?_ | refine gC ?_ ?_ | ((refine aX (aWc p hp) ?_ ?_; (focus (simp -implicitDefEqProofs (disch := omega) only [hA, hB, hAm, hBm, hA2, hB2, true_and, and_true, gP, zdB, go_sem, ↓reduceIte, reduceAdd, reduceSub, reduceMul, reduceLeDiff, reduceLT, reduceEqDiff, reduceNeg, Nat.reduceBEq]; done))); simp -implicitDefEqProofs (disch := omega) only [hA, hB, hAm, hBm, hA2, hB2, true_and, and_true, gP, go_sem, ↓reduceIte, reduceAdd, reduceSub, reduceMul, reduceLeDiff, reduceLT, reduceEqDiff, reduceNeg, Nat.reduceBEq]) | refine aZ (by omega) ?_ | (intro hr; have hc := hr; (try simp only [zdz] at hc); simp -implicitDefEqProofs (disch := omega) only [hr, hA, hB, hAm, hBm, hA2, hB2, true_and, and_true, gP, go_sem, ↓reduceIte, reduceAdd, reduceSub, reduceMul, reduceLeDiff, reduceLT, reduceEqDiff, reduceNeg, Nat.reduceBEq]; (try clear hr))))
   refine ⟨rfl, _, _, rfl, .inr ⟨g.length + 2, rfl, by rw [aH (by omega)]; simp [bBh], by simp [aR]⟩, .app _ _⟩
theorem bBp {g more : List AObj} {q : Nat} {l : List LAsk} {a : LAsk} (hi : g[q]? = some (.arr false 10 (l.flatMap aR))) (hm : more.length = 2) : aAz (l ++ [a]) g (.tup []) (.box false [.hs (g.length + 2 + 1) 0 (l.length + 1) false] :: ((g ++ more).set q .dead ++ [.arr false 10 (l.flatMap aR ++ aR a)])) := by
 have hq := aM hi
 refine ⟨rfl, _, _, rfl, .inr ⟨g.length + 2, ?_, ?_, ?_⟩, ?_⟩
 · rw [aI]; rfl
 · rw [aH (by simp; omega)]; simp [hm]
 · rw [vG]
 · intro i o hio hn
   have hio' := aM hio
   have hne : q ≠ i := by rintro rfl; rw [hi] at hio; cases hio; exact hn _ rfl
   rw [aC (by simp; omega), cN hne, aC hio']
   exact hio
theorem bKg (te : LTest) (p : List Int) (l : List LAsk) (q : Nat) (g : List AObj) (A B : Nat) (hA : g[A]? = some (.box false [.ptr 0 0])) (hB : g[B]? = some (.box false [.sl (ints p) p.length])) (ht : OkT te.term) (hp : p.length ≤ 1000000) (hl : l.length ≤ 1000000) (hi : g[q]? = some (.arr false 10 (l.flatMap aR))): ACalls Tryz.prog G0 131 [.agg (dF te), .ptr (A + 1) 0, .ptr (B + 1) 0] (.box false [.hs (q + 1) 0 l.length false] :: g) (aAz (l ++ [⟨p, te⟩]) g) := by
 refine dI (rx := true) (th := fun i => if i = 1 then some ⟨some (g.length + 2), [q + 1], false, true, false, [10], []⟩ else none) mixed Tryz.func131 ?_
 · simp -implicitDefEqProofs (disch := omega) only [Tryz.f131, go_sem, List.replicate, ↓reduceIte, reduceAdd, reduceSub, reduceMul, reduceLeDiff, reduceLT, reduceEqDiff, reduceNeg, Nat.reduceBEq, dF, avt]
   have hA1 := aM hA
   have hB1 := aM hB
   have hAm : ∀ m : List AObj, (g ++ m)[A]? = some (.box false [.ptr 0 0]) := fun m => by rw [aC hA1]; exact hA
   have hBm : ∀ m : List AObj, (g ++ m)[B]? = some (.box false [.sl (ints p) p.length]) := fun m => by rw [aC hB1]; exact hB
   have hA2 : (A + 1 < g.length + 2) = True := eq_true (by omega)
   have hB2 : (B + 1 < g.length + 2) = True := eq_true (by omega)
   have hAi : (A = q) = False := eq_false (by rintro rfl; rw [hi] at hA; cases hA)
   have hBi : (B = q) = False := eq_false (by rintro rfl; rw [hi] at hB; cases hB)
   have hq := aM hi
   have him : ∀ m : List AObj, (g ++ m)[q]? = some (.arr false 10 (l.flatMap aR)) := fun m => by rw [aC hq]; exact hi
   have b1 : ((l.length + 1) * 152 ≤ 140737488355328) = True := eq_true (by omega)
   have b2 : (l.length ≤ 140737488355327) = True := eq_true (by omega)
   have b3 : ∀ n : Nat, (n ≤ n) = True := fun n => eq_true (bG n)
   refine zh (zA2 hA (zA2 hB (zA2 hAm (zA2 hBm (zA2 hA2 (zA2 hB2 (zA2 true_and (zA2 and_true (zA2 hAi (zA2 hBi (zA2 not_false_eq_true (zA2 him (zA2 @b1 (zA2 @b2 b3)))))))))))))) ?_
   (repeat' (first | refine gT ?_ ?_ | refine gF ?_ ?_ | refine gC ?_ ?_ | ((refine aX (aWc p hp) ?_ ?_; (focus (simp -implicitDefEqProofs (disch := omega) only [hA, hB, hAm, hBm, hA2, hB2, true_and, and_true, hAi, hBi, not_false_eq_true, him, b1, b2, b3, gP, zdB, go_sem, ↓reduceIte, reduceAdd, reduceSub, reduceMul, reduceLeDiff, reduceLT, reduceEqDiff, reduceNeg, Nat.reduceBEq]; done))); simp -implicitDefEqProofs (disch := omega) only [hA, hB, hAm, hBm, hA2, hB2, true_and, and_true, hAi, hBi, not_false_eq_true, him, b1, b2, b3, gP, go_sem, ↓reduceIte, reduceAdd, reduceSub, reduceMul, reduceLeDiff, reduceLT, reduceEqDiff, reduceNeg, Nat.reduceBEq]) | refine aZ (by omega) ?_ | (intro hr; have hc := hr; (try simp only [zdz] at hc); simp -implicitDefEqProofs (disch := omega) only [hr, hA, hB, hAm, hBm, hA2, hB2, true_and, and_true, hAi, hBi, not_false_eq_true, him, b1, b2, b3, gP, go_sem, ↓reduceIte, reduceAdd, reduceSub, reduceMul, reduceLeDiff, reduceLT, reduceEqDiff, reduceNeg, Nat.reduceBEq]; (try clear hr))))
   exact bBp (a := ⟨p, te⟩) hi rfl
theorem bBq (te : LTest) (p : List Int) (l : List LAsk) (out : AV) (g : List AObj) (A B : Nat) (hA : g[A]? = some (.box false [.ptr 0 0])) (hB : g[B]? = some (.box false [.sl (ints p) p.length])) (ht : OkT te.term) (hp : p.length ≤ 1000000) (hl : l.length ≤ 1000000) (ho : eZ 10 1 g out (l.flatMap aR) l.length) :
   ACalls Tryz.prog G0 131 [.agg (dF te), .ptr (A + 1) 0, .ptr (B + 1) 0] (.box false [out] :: g) (aAz (l ++ [⟨p, te⟩]) g) := by
 rcases ho with ⟨rfl, _, h⟩ | ⟨q, rfl, hi, _⟩
 · obtain rfl := List.length_eq_zero_iff.1 h
   exact bKh te p g A B hA hB ht hp
 · exact bKg te p l q g A B hA hB ht hp hl hi

theorem nW {g g' : List AObj} {i : Nat} {o : AObj} (h : kJ g g') (hi : g[i]? = some o) (ho : ∀ c : List AV, o ≠ .arr false 10 c) : g'[i]? = some o := h i o hi ho
theorem J1 {k : IntKind} : ∀ {p : List Int}, (p.map (AV.i k)).all aOk = true
 | [] => rfl
 | a :: l => by rw [aY, jJ, J1 (p := l)]; rfl
theorem aCa : OkT zT := .mk (by simp [LTerm.text]) (by simp [LTerm.sort]) (by simp [LTerm.n]) (by simp [LTerm.n]) (by simp [LTerm.kids]) (by simp [LTerm.rest]) (by simp [LTerm.kids]) (by simp [LTerm.rest])
theorem D9 {t : LTerm} {te : LTest} {p : List Int} {l : List LAsk} {out : AV} {g : List AObj} {cs : List AV} (ht : OkT te.term) (hp : p.length ≤ 1000000) (hl : l.length ≤ 1000000) (ho : eZ 10 1 g out (l.flatMap aR) l.length) (hc : cs = dF te) :
   ACalls Tryz.prog G0 131 [.agg cs, .ptr (g.length + 1) 0, .ptr (g.length + 2 + 1) 0] (.box false [out] :: (g ++ [.box false [.ptr 0 0], .box false [.i .i64 (t).kind, .i .i64 (t).n, .s (t).text, .s (t).sort, .sl ((t).kids.flatMap aD) (t).kids.length, .sl ((t).rest.flatMap aD) (t).rest.length], .box false [.sl (ints p) p.length]])) (aAz (l ++ [⟨p, te⟩]) (g ++ [.box false [.ptr 0 0], .box false [.i .i64 (t).kind, .i .i64 (t).n, .s (t).text, .s (t).sort, .sl ((t).kids.flatMap aD) (t).kids.length, .sl ((t).rest.flatMap aD) (t).rest.length], .box false [.sl (ints p) p.length]])) := by
 subst hc
 exact bBq te p l out _ g.length (g.length + 2) (by simp) (by simp) ht hp hl (ho.more _)
theorem aOw (t : LTerm) (p : List Int) (l : List LAsk) (out : AV) (g : List AObj) (ht : OkT t) (hp : p.length ≤ 1000000) (hl : l.length ≤ 1000000) (ho : eZ 10 1 g out (l.flatMap aR) l.length) (h5 : ¬ t.kind = 5) (h7 : ¬ t.kind = 7): ACalls Tryz.prog G0 77 [.ptr 0 0, elT t, .sl (ints p) p.length] (.box false [out] :: g) (aAz (l ++ dO t p) g) := by
 refine dI (rx := true) (th := fun i => if i = 19 then some ⟨none, [], true, true, true, [], []⟩ else none) mixed Tryz.func77 ?_
 · simp -implicitDefEqProofs (disch := omega) only [Tryz.f77, go_sem, List.replicate, simprocAttr]
   rw [lH, if_neg h5, if_neg h7]
   rcases (by omega : t.kind = 8 ∨ (¬ t.kind = 8 ∧ t.kind = 6) ∨ (¬ t.kind = 8 ∧ ¬ t.kind = 6)) with h8 | ⟨h8, h6⟩ | ⟨h8, h6⟩
   · rw [if_pos h8]
     have h6 : ¬ t.kind = 6 := by omega
     refine zh (zA2 (zf h5) (zA2 (zf h7) (zA2 (zt h8) (zf h6)))) ?_
     refine tI 0 rfl ?_
     refine zg ?_
     refine eV (D9 (te := ⟨5, zT, [], 0⟩) (by first | exact ht | exact aCa) hp hl ho rfl) ?_
     rintro r h' ⟨rfl, out', g', rfl, ho', hs'⟩
     refine zg ?_
     exact ⟨rfl, out', g', rfl, ho', (kJ.app g _).trans hs'⟩
   · rw [if_neg h8, if_pos h6]
     refine zh (zA2 (zf h5) (zA2 (zf h7) (zA2 (zf h8) (zt h6)))) ?_
     (refine zx0 (zA2 (zf h5) (zA2 (zf h7) (zA2 (zf h8) (zt h6)))) ?_; repeat' first | exact trivial | refine zJ ?_ ?_ | refine zH fun hc => ?_)
     rw [if_neg hc]
     refine tI 0 rfl ?_
     refine zg ?_
     refine eV (D9 (te := ⟨6, zT, t.sort, 0⟩) (by first | exact ht | exact aCa) hp hl ho rfl) ?_
     rintro r h' ⟨rfl, out', g', rfl, ho', hs'⟩
     refine zg ?_
     exact ⟨rfl, out', g', rfl, ho', (kJ.app g _).trans hs'⟩
     rw [if_pos hc, List.append_nil]
     exact ⟨rfl, out, _, rfl, ho.more _, .app _ _⟩
   · rw [if_neg h8, if_neg h6]
     refine zh (zA2 (zf h5) (zA2 (zf h7) (zA2 (zf h8) (zf h6)))) ?_
     refine eV (D9 (te := ⟨1, t, [], 0⟩) (by first | exact ht | exact aCa) hp hl ho rfl) ?_
     rintro r h' ⟨rfl, out', g', rfl, ho', hs'⟩
     refine zg ?_
     exact ⟨rfl, out', g', rfl, ho', (kJ.app g _).trans hs'⟩
theorem aHv (t : LTerm) (p : List Int) (l : List LAsk) (out : AV) (g : List AObj) (ht : OkT t) (hp : p.length ≤ 1000) (hl : l.length + (testsL t.kids p 0).length < 1000000) (ho : eZ 10 1 g out (l.flatMap aR) l.length) (h5 : t.kind = 5) (ih : ∀ k, k < t.kids.length → ∀ (l : List LAsk) (out : AV) (g : List AObj), l.length + (dO (t.kids.getD k default) (p ++ [(k : Int)])).length ≤ 1000000 → eZ 10 1 g out (l.flatMap aR) l.length → ACalls Tryz.prog G0 77 [.ptr 0 0, elT (t.kids.getD k default), .sl (ints (p ++ [(k : Int)])) (p.length + 1)] (.box false [out] :: g) (aAz (l ++ dO (t.kids.getD k default) (p ++ [(k : Int)])) g)): ACalls Tryz.prog G0 77 [.ptr 0 0, elT t, .sl (ints p) p.length] (.box false [out] :: g) (aAz (l ++ dO t p) g) := by
 refine dI (rx := true) (th := fun i => if i = 19 then some ⟨none, [], true, true, true, [], []⟩ else none) mixed Tryz.func77 ?_
 · simp -implicitDefEqProofs (disch := omega) only [Tryz.f77, go_sem, List.replicate, simprocAttr]
   rw [lH, if_pos h5]
   have hkk := ht.kids
   have h6 : ¬ t.kind = 6 := by omega
   refine zh (zA2 (zt h5) (zf h6)) ?_
   refine tI 0 rfl ?_
   refine zg ?_
   refine eV (D9 (te := ⟨2, zT, t.text, t.kids.length⟩) aCa (by omega) (by omega) ho rfl) ?_
   rintro r h' ⟨rfl, out1, g1, rfl, ho1, hs1⟩
   have eA : g1[g.length]? = some (.box false [.ptr 0 0]) := hs1 _ _ (by simp) (fun c h => by cases h)
   have eT : g1[g.length + 1]? = some (.box false [.i .i64 (t).kind, .i .i64 (t).n, .s (t).text, .s (t).sort, .sl ((t).kids.flatMap aD) (t).kids.length, .sl ((t).rest.flatMap aD) (t).rest.length]) := hs1 _ _ (by simp) (fun c h => by cases h)
   have eB : g1[g.length + 2]? = some (.box false [.sl (ints p) p.length]) := hs1 _ _ (by simp) (fun c h => by cases h)
   have hs2 : kJ g g1 := (kJ.app g _).trans hs1
   refine zh (zA2 eA (zA2 eT eB)) ?_
   refine bT (fun (s : Nat × AV × List AObj) => [.k, .k, .k, .k, .k, .k, .k, .k, .j, .j, .k, .k, .k, .k, .k, .k, .k, .k, .k, .k, .k, .k, .k, .k, .k, .k, .k, .k, .k, .k, .k, .k, .k, .k, .k, .k, .k, .k, .k, .k, .k, .k, .k, .k, .k, .k, .k, .k, .k, .k, .k, .k, .k, .k, .k, .k, .k, .k, .v (.i .i64 (s.1 : Nat)), .j, .j, .j, .j, .j, .j, .j, .j, .j, .j, .j, .j, .j]) (fun s => (.box false [s.2.1] :: s.2.2)) (fun s => s.1 ≤ t.kids.length ∧ eZ 10 1 s.2.2 s.2.1 ((l ++ [(⟨p, ⟨2, zT, t.text, t.kids.length⟩⟩ : LAsk)] ++ testsL (t.kids.take s.1) p 0).flatMap aR) (l ++ [(⟨p, ⟨2, zT, t.text, t.kids.length⟩⟩ : LAsk)] ++ testsL (t.kids.take s.1) p 0).length ∧ kJ g1 s.2.2) (fun s => t.kids.length - s.1) ((0, out1, g1)) ⟨aG _, by simpa [testsL] using ho1, .refl _⟩ rfl (by simp [eQ]) ?_
   rintro ⟨k, out, h2⟩ j ⟨hk, ho2, hs3⟩
   dsimp only at hk ho2 hs3
   have fA := nW hs3 eA (fun c h => by cases h)
   have fT := nW hs3 eT (fun c h => by cases h)
   have fB := nW hs3 eB (fun c h => by cases h)
   have lA := aM fA
   have lB := aM fB
   have mA : ∀ m : List AObj, (h2 ++ m)[g.length]? = some (.box false [.ptr 0 0]) := fun m => by rw [aC lA]; exact fA
   have mB : ∀ m : List AObj, (h2 ++ m)[g.length + 2]? = some (.box false [.sl (ints p) p.length]) := fun m => by rw [aC lB]; exact fB
   by_cases hlt : k < t.kids.length
   · have hki : (k : Int) < ((t.kids.length : Nat) : Int) := by omega
     have qA : ∀ n : Nat, (g.length + 1 < h2.length + (n + 1)) = True := fun n => eq_true (by omega)
     have qB : ∀ n : Nat, (g.length + 2 + 1 < h2.length + (n + 1)) = True := fun n => eq_true (by omega)
     simp -implicitDefEqProofs (disch := omega) only [zt hki, mA, mB, fA, fB, qA, qB, true_and, and_true, go_sem, simprocAttr]
     (repeat' (first | refine gT ?_ ?_ | refine gF ?_ ?_ | refine gC ?_ ?_ | ((refine aX (aMs p (by omega)) ?_ ?_; (focus (simp -implicitDefEqProofs (disch := omega) only [zt hki, mA, mB, fA, fB, qA, qB, true_and, and_true, zdB, go_sem, simprocAttr]; done))); simp -implicitDefEqProofs (disch := omega) only [zt hki, mA, mB, fA, fB, qA, qB, true_and, and_true, go_sem, simprocAttr]) | refine aZ (by omega) ?_ | (intro hr; have hc := hr; (try simp only [zdz] at hc); simp -implicitDefEqProofs (disch := omega) only [hr, zt hki, mA, mB, fA, fB, qA, qB, true_and, and_true, go_sem, simprocAttr]; (try clear hr))))
     have htl := nT (l := t.kids) (p := p) (i := 0) hlt
     rw [dB] at htl
     have hm := rI (l := t.kids) (p := p) (k := k + 1)
     rw [htl, aI] at hm
     have htk : List.take (p.length + 1) (List.map (AV.i IntKind.i64) p ++ [AV.i IntKind.i64 (k : Int)]) = List.map (AV.i IntKind.i64) p ++ [AV.i IntKind.i64 (k : Int)] := aS (by simp)
     have hps : persL (List.map (AV.i IntKind.i64) p ++ [AV.i IntKind.i64 (k : Int)]) = true := by rw [kC, fP]; rfl
     have hea : (List.map (AV.i IntKind.i64) p ++ [AV.i IntKind.i64 (k : Int)]).all aOk = true := by rw [uN, J1]; rfl
     refine tI 2 rfl ?_
     refine zh (zA2 htk (zA2 hps hea)) ?_
     have ci := ih k hlt (l ++ [(⟨p, ⟨2, zT, t.text, t.kids.length⟩⟩ : LAsk)] ++ testsL (t.kids.take k) p 0) out (h2 ++ [.box false [.i .i64 (t.kids.getD k default).kind, .i .i64 (t.kids.getD k default).n, .s (t.kids.getD k default).text, .s (t.kids.getD k default).sort, .sl ((t.kids.getD k default).kids.flatMap aD) (t.kids.getD k default).kids.length, .sl ((t.kids.getD k default).rest.flatMap aD) (t.kids.getD k default).rest.length], .dead, .arr true 1 (ints p ++ [.i .i64 (k : Int)])]) (by simp only [aI, aK, bJ]; omega) (ho2.more _)
     simp only [ints, aT, aY, bS, elT, bC, avt] at ci
     refine eV ci ?_
     rintro r h' ⟨rfl, out3, h3, rfl, ho3, hs4⟩
     refine zg ?_
     refine ⟨(k + 1, out3, h3), ⟨by dsimp only; omega, ?_, hs3.trans ((kJ.app _ _).trans hs4)⟩, by dsimp only; omega, rfl, by simp⟩
     dsimp only
     rw [htl]
     rw [bW, bW, aAx, aI, aK] at ho3
     exact ho3
   · have hki : ¬ (k : Int) < ((t.kids.length : Nat) : Int) := by omega
     have hkt : t.kids.take k = t.kids := aS (by omega)
     rw [hkt] at ho2
     refine zh (zf hki) ?_
     exact ⟨rfl, out, h2, rfl, by simpa using ho2, hs2.trans hs3⟩
theorem aEz (t : LTerm) (p : List Int) (l : List LAsk) (out : AV) (g : List AObj) (ht : OkT t) (hp : p.length ≤ 1000) (hl : l.length + (testsL t.kids p 0).length < 1000000) (ho : eZ 10 1 g out (l.flatMap aR) l.length) (h7 : t.kind = 7) (hr : 0 < t.rest.length) (ih : ∀ k, k < t.kids.length → ∀ (l : List LAsk) (out : AV) (g : List AObj), l.length + (dO (t.kids.getD k default) (p ++ [(k : Int)])).length ≤ 1000000 → eZ 10 1 g out (l.flatMap aR) l.length → ACalls Tryz.prog G0 77 [.ptr 0 0, elT (t.kids.getD k default), .sl (ints (p ++ [(k : Int)])) (p.length + 1)] (.box false [out] :: g) (aAz (l ++ dO (t.kids.getD k default) (p ++ [(k : Int)])) g)): ACalls Tryz.prog G0 77 [.ptr 0 0, elT t, .sl (ints p) p.length] (.box false [out] :: g) (aAz (l ++ dO t p) g) := by
 refine dI (rx := true) (th := fun i => if i = 19 then some ⟨none, [], true, true, true, [], []⟩ else none) mixed Tryz.func77 ?_
 · simp -implicitDefEqProofs (disch := omega) only [Tryz.f77, go_sem, List.replicate, simprocAttr]
   have h5 : ¬ t.kind = 5 := by omega
   have h6 : ¬ t.kind = 6 := by omega
   have hri : (0 : Int) < ((t.rest.length : Nat) : Int) := by omega
   rw [lH, if_neg h5, if_pos h7, if_pos hr]
   have hkk := ht.kids
   refine zh (zA2 (zf h5) (zA2 (zf h6) (zA2 (zt h7) (zt hri)))) ?_
   (refine zx0 (zA2 (zf h5) (zA2 (zf h6) (zA2 (zt h7) (zt hri)))) ?_; repeat' first | exact trivial | refine zJ ?_ ?_ | refine zH fun hc => ?_)
   refine tI 0 rfl ?_
   refine zg ?_
   refine eV (D9 (te := ⟨4, zT, [], t.kids.length⟩) aCa (by omega) (by omega) ho rfl) ?_
   rintro r h' ⟨rfl, out1, g1, rfl, ho1, hs1⟩
   have eA : g1[g.length]? = some (.box false [.ptr 0 0]) := hs1 _ _ (by simp) (fun c h => by cases h)
   have eT : g1[g.length + 1]? = some (.box false [.i .i64 (t).kind, .i .i64 (t).n, .s (t).text, .s (t).sort, .sl ((t).kids.flatMap aD) (t).kids.length, .sl ((t).rest.flatMap aD) (t).rest.length]) := hs1 _ _ (by simp) (fun c h => by cases h)
   have eB : g1[g.length + 2]? = some (.box false [.sl (ints p) p.length]) := hs1 _ _ (by simp) (fun c h => by cases h)
   have hs2 : kJ g g1 := (kJ.app g _).trans hs1
   refine zh (zA2 eA (zA2 eT eB)) ?_
   refine bT (fun (s : Nat × AV × List AObj) => [.k, .k, .k, .k, .k, .k, .k, .k, .j, .j, .k, .k, .k, .k, .k, .k, .k, .k, .k, .k, .k, .k, .k, .k, .k, .k, .k, .k, .k, .k, .k, .k, .k, .k, .k, .k, .k, .k, .k, .k, .k, .k, .k, .k, .k, .k, .k, .k, .k, .k, .k, .k, .k, .k, .k, .k, .k, .k, .v (.i .i64 (s.1 : Nat)), .j, .j, .j, .j, .j, .j, .j, .j, .j, .j, .j, .j, .j]) (fun s => (.box false [s.2.1] :: s.2.2)) (fun s => s.1 ≤ t.kids.length ∧ eZ 10 1 s.2.2 s.2.1 ((l ++ [(⟨p, ⟨4, zT, [], t.kids.length⟩⟩ : LAsk)] ++ testsL (t.kids.take s.1) p 0).flatMap aR) (l ++ [(⟨p, ⟨4, zT, [], t.kids.length⟩⟩ : LAsk)] ++ testsL (t.kids.take s.1) p 0).length ∧ kJ g1 s.2.2) (fun s => t.kids.length - s.1) ((0, out1, g1)) ⟨aG _, by simpa [testsL] using ho1, .refl _⟩ rfl (by simp [eQ]) ?_
   rintro ⟨k, out, h2⟩ j ⟨hk, ho2, hs3⟩
   dsimp only at hk ho2 hs3
   have fA := nW hs3 eA (fun c h => by cases h)
   have fT := nW hs3 eT (fun c h => by cases h)
   have fB := nW hs3 eB (fun c h => by cases h)
   have lA := aM fA
   have lB := aM fB
   have mA : ∀ m : List AObj, (h2 ++ m)[g.length]? = some (.box false [.ptr 0 0]) := fun m => by rw [aC lA]; exact fA
   have mB : ∀ m : List AObj, (h2 ++ m)[g.length + 2]? = some (.box false [.sl (ints p) p.length]) := fun m => by rw [aC lB]; exact fB
   by_cases hlt : k < t.kids.length
   · have hki : (k : Int) < ((t.kids.length : Nat) : Int) := by omega
     have qA : ∀ n : Nat, (g.length + 1 < h2.length + (n + 1)) = True := fun n => eq_true (by omega)
     have qB : ∀ n : Nat, (g.length + 2 + 1 < h2.length + (n + 1)) = True := fun n => eq_true (by omega)
     simp -implicitDefEqProofs (disch := omega) only [zt hki, mA, mB, fA, fB, qA, qB, true_and, and_true, go_sem, simprocAttr]
     (repeat' (first | refine gT ?_ ?_ | refine gF ?_ ?_ | refine gC ?_ ?_ | ((refine aX (aMs p (by omega)) ?_ ?_; (focus (simp -implicitDefEqProofs (disch := omega) only [zt hki, mA, mB, fA, fB, qA, qB, true_and, and_true, zdB, go_sem, simprocAttr]; done))); simp -implicitDefEqProofs (disch := omega) only [zt hki, mA, mB, fA, fB, qA, qB, true_and, and_true, go_sem, simprocAttr]) | refine aZ (by omega) ?_ | (intro hr; have hc := hr; (try simp only [zdz] at hc); simp -implicitDefEqProofs (disch := omega) only [hr, zt hki, mA, mB, fA, fB, qA, qB, true_and, and_true, go_sem, simprocAttr]; (try clear hr))))
     have htl := nT (l := t.kids) (p := p) (i := 0) hlt
     rw [dB] at htl
     have hm := rI (l := t.kids) (p := p) (k := k + 1)
     rw [htl, aI] at hm
     have htk : List.take (p.length + 1) (List.map (AV.i IntKind.i64) p ++ [AV.i IntKind.i64 (k : Int)]) = List.map (AV.i IntKind.i64) p ++ [AV.i IntKind.i64 (k : Int)] := aS (by simp)
     have hps : persL (List.map (AV.i IntKind.i64) p ++ [AV.i IntKind.i64 (k : Int)]) = true := by rw [kC, fP]; rfl
     have hea : (List.map (AV.i IntKind.i64) p ++ [AV.i IntKind.i64 (k : Int)]).all aOk = true := by rw [uN, J1]; rfl
     refine tI 2 rfl ?_
     refine zh (zA2 htk (zA2 hps hea)) ?_
     have ci := ih k hlt (l ++ [(⟨p, ⟨4, zT, [], t.kids.length⟩⟩ : LAsk)] ++ testsL (t.kids.take k) p 0) out (h2 ++ [.box false [.i .i64 (t.kids.getD k default).kind, .i .i64 (t.kids.getD k default).n, .s (t.kids.getD k default).text, .s (t.kids.getD k default).sort, .sl ((t.kids.getD k default).kids.flatMap aD) (t.kids.getD k default).kids.length, .sl ((t.kids.getD k default).rest.flatMap aD) (t.kids.getD k default).rest.length], .dead, .arr true 1 (ints p ++ [.i .i64 (k : Int)])]) (by simp only [aI, aK, bJ]; omega) (ho2.more _)
     simp only [ints, aT, aY, bS, elT, bC, avt] at ci
     refine eV ci ?_
     rintro r h' ⟨rfl, out3, h3, rfl, ho3, hs4⟩
     refine zg ?_
     refine ⟨(k + 1, out3, h3), ⟨by dsimp only; omega, ?_, hs3.trans ((kJ.app _ _).trans hs4)⟩, by dsimp only; omega, rfl, by simp⟩
     dsimp only
     rw [htl]
     rw [bW, bW, aAx, aI, aK] at ho3
     exact ho3
   · have hki : ¬ (k : Int) < ((t.kids.length : Nat) : Int) := by omega
     have hkt : t.kids.take k = t.kids := aS (by omega)
     rw [hkt] at ho2
     refine zh (zf hki) ?_
     exact ⟨rfl, out, h2, rfl, by simpa using ho2, hs2.trans hs3⟩
theorem aEy (t : LTerm) (p : List Int) (l : List LAsk) (out : AV) (g : List AObj) (ht : OkT t) (hp : p.length ≤ 1000) (hl : l.length + (testsL t.kids p 0).length < 1000000) (ho : eZ 10 1 g out (l.flatMap aR) l.length) (h7 : t.kind = 7) (hr : ¬ 0 < t.rest.length) (ih : ∀ k, k < t.kids.length → ∀ (l : List LAsk) (out : AV) (g : List AObj), l.length + (dO (t.kids.getD k default) (p ++ [(k : Int)])).length ≤ 1000000 → eZ 10 1 g out (l.flatMap aR) l.length → ACalls Tryz.prog G0 77 [.ptr 0 0, elT (t.kids.getD k default), .sl (ints (p ++ [(k : Int)])) (p.length + 1)] (.box false [out] :: g) (aAz (l ++ dO (t.kids.getD k default) (p ++ [(k : Int)])) g)): ACalls Tryz.prog G0 77 [.ptr 0 0, elT t, .sl (ints p) p.length] (.box false [out] :: g) (aAz (l ++ dO t p) g) := by
 refine dI (rx := true) (th := fun i => if i = 19 then some ⟨none, [], true, true, true, [], []⟩ else none) mixed Tryz.func77 ?_
 · simp -implicitDefEqProofs (disch := omega) only [Tryz.f77, go_sem, List.replicate, simprocAttr]
   have h5 : ¬ t.kind = 5 := by omega
   have h6 : ¬ t.kind = 6 := by omega
   have hri : ¬ (0 : Int) < ((t.rest.length : Nat) : Int) := by omega
   rw [lH, if_neg h5, if_pos h7, if_neg hr]
   have hkk := ht.kids
   refine zh (zA2 (zf h5) (zA2 (zf h6) (zA2 (zt h7) (zf hri)))) ?_
   (refine zx0 (zA2 (zf h5) (zA2 (zf h6) (zA2 (zt h7) (zf hri)))) ?_; repeat' first | exact trivial | refine zJ ?_ ?_ | refine zH fun hc => ?_)
   refine tI 0 rfl ?_
   refine zg ?_
   refine eV (D9 (te := ⟨3, zT, [], t.kids.length⟩) aCa (by omega) (by omega) ho rfl) ?_
   rintro r h' ⟨rfl, out1, g1, rfl, ho1, hs1⟩
   have eA : g1[g.length]? = some (.box false [.ptr 0 0]) := hs1 _ _ (by simp) (fun c h => by cases h)
   have eT : g1[g.length + 1]? = some (.box false [.i .i64 (t).kind, .i .i64 (t).n, .s (t).text, .s (t).sort, .sl ((t).kids.flatMap aD) (t).kids.length, .sl ((t).rest.flatMap aD) (t).rest.length]) := hs1 _ _ (by simp) (fun c h => by cases h)
   have eB : g1[g.length + 2]? = some (.box false [.sl (ints p) p.length]) := hs1 _ _ (by simp) (fun c h => by cases h)
   have hs2 : kJ g g1 := (kJ.app g _).trans hs1
   refine zh (zA2 eA (zA2 eT eB)) ?_
   refine bT (fun (s : Nat × AV × List AObj) => [.k, .k, .k, .k, .k, .k, .k, .k, .j, .j, .k, .k, .k, .k, .k, .k, .k, .k, .k, .k, .k, .k, .k, .k, .k, .k, .k, .k, .k, .k, .k, .k, .k, .k, .k, .k, .k, .k, .k, .k, .k, .k, .k, .k, .k, .k, .k, .k, .k, .k, .k, .k, .k, .k, .k, .k, .k, .k, .v (.i .i64 (s.1 : Nat)), .j, .j, .j, .j, .j, .j, .j, .j, .j, .j, .j, .j, .j]) (fun s => (.box false [s.2.1] :: s.2.2)) (fun s => s.1 ≤ t.kids.length ∧ eZ 10 1 s.2.2 s.2.1 ((l ++ [(⟨p, ⟨3, zT, [], t.kids.length⟩⟩ : LAsk)] ++ testsL (t.kids.take s.1) p 0).flatMap aR) (l ++ [(⟨p, ⟨3, zT, [], t.kids.length⟩⟩ : LAsk)] ++ testsL (t.kids.take s.1) p 0).length ∧ kJ g1 s.2.2) (fun s => t.kids.length - s.1) ((0, out1, g1)) ⟨aG _, by simpa [testsL] using ho1, .refl _⟩ rfl (by simp [eQ]) ?_
   rintro ⟨k, out, h2⟩ j ⟨hk, ho2, hs3⟩
   dsimp only at hk ho2 hs3
   have fA := nW hs3 eA (fun c h => by cases h)
   have fT := nW hs3 eT (fun c h => by cases h)
   have fB := nW hs3 eB (fun c h => by cases h)
   have lA := aM fA
   have lB := aM fB
   have mA : ∀ m : List AObj, (h2 ++ m)[g.length]? = some (.box false [.ptr 0 0]) := fun m => by rw [aC lA]; exact fA
   have mB : ∀ m : List AObj, (h2 ++ m)[g.length + 2]? = some (.box false [.sl (ints p) p.length]) := fun m => by rw [aC lB]; exact fB
   by_cases hlt : k < t.kids.length
   · have hki : (k : Int) < ((t.kids.length : Nat) : Int) := by omega
     have qA : ∀ n : Nat, (g.length + 1 < h2.length + (n + 1)) = True := fun n => eq_true (by omega)
     have qB : ∀ n : Nat, (g.length + 2 + 1 < h2.length + (n + 1)) = True := fun n => eq_true (by omega)
     simp -implicitDefEqProofs (disch := omega) only [zt hki, mA, mB, fA, fB, qA, qB, true_and, and_true, go_sem, simprocAttr]
     (repeat' (first | refine gT ?_ ?_ | refine gF ?_ ?_ | refine gC ?_ ?_ | ((refine aX (aMs p (by omega)) ?_ ?_; (focus (simp -implicitDefEqProofs (disch := omega) only [zt hki, mA, mB, fA, fB, qA, qB, true_and, and_true, zdB, go_sem, simprocAttr]; done))); simp -implicitDefEqProofs (disch := omega) only [zt hki, mA, mB, fA, fB, qA, qB, true_and, and_true, go_sem, simprocAttr]) | refine aZ (by omega) ?_ | (intro hr; have hc := hr; (try simp only [zdz] at hc); simp -implicitDefEqProofs (disch := omega) only [hr, zt hki, mA, mB, fA, fB, qA, qB, true_and, and_true, go_sem, simprocAttr]; (try clear hr))))
     have htl := nT (l := t.kids) (p := p) (i := 0) hlt
     rw [dB] at htl
     have hm := rI (l := t.kids) (p := p) (k := k + 1)
     rw [htl, aI] at hm
     have htk : List.take (p.length + 1) (List.map (AV.i IntKind.i64) p ++ [AV.i IntKind.i64 (k : Int)]) = List.map (AV.i IntKind.i64) p ++ [AV.i IntKind.i64 (k : Int)] := aS (by simp)
     have hps : persL (List.map (AV.i IntKind.i64) p ++ [AV.i IntKind.i64 (k : Int)]) = true := by rw [kC, fP]; rfl
     have hea : (List.map (AV.i IntKind.i64) p ++ [AV.i IntKind.i64 (k : Int)]).all aOk = true := by rw [uN, J1]; rfl
     refine tI 2 rfl ?_
     refine zh (zA2 htk (zA2 hps hea)) ?_
     have ci := ih k hlt (l ++ [(⟨p, ⟨3, zT, [], t.kids.length⟩⟩ : LAsk)] ++ testsL (t.kids.take k) p 0) out (h2 ++ [.box false [.i .i64 (t.kids.getD k default).kind, .i .i64 (t.kids.getD k default).n, .s (t.kids.getD k default).text, .s (t.kids.getD k default).sort, .sl ((t.kids.getD k default).kids.flatMap aD) (t.kids.getD k default).kids.length, .sl ((t.kids.getD k default).rest.flatMap aD) (t.kids.getD k default).rest.length], .dead, .arr true 1 (ints p ++ [.i .i64 (k : Int)])]) (by simp only [aI, aK, bJ]; omega) (ho2.more _)
     simp only [ints, aT, aY, bS, elT, bC, avt] at ci
     refine eV ci ?_
     rintro r h' ⟨rfl, out3, h3, rfl, ho3, hs4⟩
     refine zg ?_
     refine ⟨(k + 1, out3, h3), ⟨by dsimp only; omega, ?_, hs3.trans ((kJ.app _ _).trans hs4)⟩, by dsimp only; omega, rfl, by simp⟩
     dsimp only
     rw [htl]
     rw [bW, bW, aAx, aI, aK] at ho3
     exact ho3
   · have hki : ¬ (k : Int) < ((t.kids.length : Nat) : Int) := by omega
     have hkt : t.kids.take k = t.kids := aS (by omega)
     rw [hkt] at ho2
     refine zh (zf hki) ?_
     exact ⟨rfl, out, h2, rfl, by simpa using ho2, hs2.trans hs3⟩
theorem bGi : ∀ t : LTerm, OkT t → ∀ (p : List Int) (l : List LAsk) (out : AV) (g : List AObj), p.length + highT t ≤ 1000 → l.length + (dO t p).length ≤ 1000000 → eZ 10 1 g out (l.flatMap aR) l.length → ACalls Tryz.prog G0 77 [.ptr 0 0, elT t, .sl (ints p) p.length] (.box false [out] :: g) (aAz (l ++ dO t p) g) :=
 dY (Q := fun t => OkT t → ∀ (p : List Int) (l : List LAsk) (out : AV) (g : List AObj), p.length + highT t ≤ 1000 → l.length + (dO t p).length ≤ 1000000 → eZ 10 1 g out (l.flatMap aR) l.length → ACalls Tryz.prog G0 77 [.ptr 0 0, elT t, .sl (ints p) p.length] (.box false [out] :: g) (aAz (l ++ dO t p) g)) fun t hk _ ht p l out g hp hn ho => by
   have hH : ∀ (l : List LTerm) (k : Nat), k < l.length → highT (l.getD k default) ≤ highL l := by
     intro l
     induction l with
     | nil => intro k h; simp at h
     | cons x l ih =>
       intro k h
       rw [highL]
       cases k with
       | zero => simp only [uL]; omega
       | succ k => have := ih k (by simpa using h); simp only [List.getD_cons_succ]; omega
   have e := G6 t
   by_cases h57 : t.kind = 5 ∨ t.kind = 7
   · have hr := aEw (p := p) h57
     have ih : ∀ k, k < t.kids.length → ∀ (l : List LAsk) (out : AV) (g : List AObj), l.length + (dO (t.kids.getD k default) (p ++ [(k : Int)])).length ≤ 1000000 → eZ 10 1 g out (l.flatMap aR) l.length → ACalls Tryz.prog G0 77 [.ptr 0 0, elT (t.kids.getD k default), .sl (ints (p ++ [(k : Int)])) (p.length + 1)] (.box false [out] :: g) (aAz (l ++ dO (t.kids.getD k default) (p ++ [(k : Int)])) g) := fun k h l out g hn ho => by
       have h1 := hH t.kids k h
       have := hk _ (aV (d := default) h) (ht.kid _ (aV (d := default) h)) (p ++ [(k : Int)]) l out g (by simp only [aI, aK, bJ]; omega) hn ho
       rw [aI] at this
       exact this
     rcases h57 with h5 | h7
     · exact aHv t p l out g ht (by omega) (by omega) ho h5 ih
     · by_cases hrest : 0 < t.rest.length
       · exact aEz t p l out g ht (by omega) (by omega) ho h7 hrest ih
       · exact aEy t p l out g ht (by omega) (by omega) ho h7 hrest ih
   · exact aOw t p l out g ht (by omega) (by omega) ho (fun h => h57 (.inl h)) (fun h => h57 (.inr h))
theorem S6 (t : LTerm) (ht : OkT t) (hp : highT t ≤ 1000) (hn : (dO t []).length ≤ 1000000): CT 43 [elT t] (ava (dO t [])) := by
 refine aF mixed Tryz.func43 g0 ?_
 · skip
   have c := bGi t ht [] [] .e0 [] (by simpa using hp) (by simpa using hn) kU
   simp only [ints, bS, elT, bC, avt, dG, bJ] at c
   refine tI 2 rfl ?_
   refine zg ?_
   refine eV (Vo.frame (is := [1]) g0 c (by simp) rfl ?_ ?_) ?_
   · intro i o ho
     cases i with
     | zero => simp only [cM, aA] at ho; subst ho; rfl
     | succ i => simp at ho
   · simp only [renL, ren, renL_pers _ _ lL, emb]; rfl
   · rintro r' h' ⟨r0, h1, ⟨rfl, out', g', rfl, ho', _⟩, _, rfl, rfl⟩
     rcases ho' with ⟨rfl, e1, e2⟩ | ⟨q, rfl, hi, hil⟩
     · simp only [qO, aY, jM, aK, bJ, dB, fF, dJ, AObj.ren, renL, ren]
       refine zg ?_
       rw [ava, e1, e2]
       exact R8 (pre := []) (sz := 10) (.inl ⟨rfl, rfl, rfl⟩) rfl
     · simp only [qO, aY, jM, aK, bJ, dB, fF, dJ, AObj.ren, renL, ren]
       refine zg ?_
       exact R8 (pre := [_, _]) (sz := 10) (.inr ⟨q, by simp [emb]; omega, by rw [dR, hi]; simp [AObj.ren, renL_pers _ _ B0], hil⟩) B0
theorem bGw (s : bX) (t : LTerm) (hm : Small s) (hs : OkS s) (ht : OkT t): CT 13 [.agg (aO s), elT t] (aDv (M8 s t)) := by
 refine bI mixed Tryz.func13 g0 ?_
 · simp -implicitDefEqProofs (disch := omega) only [Tryz.f13, go_sem, List.replicate, simprocAttr, aDv]
   have c1 := S7 s t hm hs ht
   rcases fE (P1 s t) with h | h
   · have hv := tT h
     have hv2 := hv
     simp only [gO, aB, decide_eq_true_eq] at hv2
     have c2 := S6 t ht (by omega) (dU (wO t []) (by omega))
     have c3 := bHy t ht
     rw [h] at c1
     (refine zy3 @ava.eq_1 c1 c2 c3 ?_; repeat' first | exact trivial | refine zJ ?_ ?_ | refine zH fun hc => ?_)
     all_goals exact aE (by rw [M8, if_pos h]) (by simp [pers, persL, ava, B0, mat])
   · rw [h] at c1
     (refine zt1 c1 ?_; repeat' first | exact trivial | refine zJ ?_ ?_ | refine zH fun hc => ?_)
     all_goals exact .inr ⟨by rw [M8, if_neg (by rw [h]; simp)]; exact ⟨rfl, rfl, trivial⟩, eC, fun i hi => absurd hi (by show ¬ i ∈ []; simp)⟩
end Go.Proofs.YtifefbhllfdmlaaGreatDoor

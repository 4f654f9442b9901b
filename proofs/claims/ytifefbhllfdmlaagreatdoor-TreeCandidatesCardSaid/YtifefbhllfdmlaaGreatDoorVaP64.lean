/-
  What functions of the chapter return, as plain functions of what they are given; no condition beyond those that each theorem names.
-/
import Derived.Test.YtifefbhllfdmlaaGreatDoorVaP63
import Derived.Test.YtifefbhllfdmlaaGreatDoorVoP68
import Derived.Test.YtifefbhllfdmlaaGreatDoorVaP61
import Derived.Test.YtifefbhllfdmlaaGreatDoorSoP63
set_option maxRecDepth 100000
set_option linter.unusedSimpArgs false
set_option linter.unusedVariables false
set_option maxHeartbeats 4000000
namespace Go.Proofs.YtifefbhllfdmlaaGreatDoor
open Go Go.Vo
open Nat (reduceAdd reduceSub reduceMul reduceLeDiff reduceLT reduceEqDiff)
open Int (reduceNeg)

abbrev ints (p : List Int) : List AV := p.map (.i .i64)
theorem S2 {pre g : List AObj} {sz n : Nat} {out : AV} {cells : List AV} (ho : eP sz pre.length g out cells n) (hp : persL cells = true) : Fin (pre ++ g) out (.sl cells n) := by
 rcases ho with ⟨rfl, rfl, rfl⟩ | ⟨i, rfl, hi, hl⟩
 · exact .inr ⟨rfl, by simp [bS], by simp [bS]⟩
 · refine .inr ⟨?_, by simp [bS], by simp [bS]⟩
   show AV.sl cells n = gG dep (pre ++ g) (.hs (i + pre.length) 0 n false)
   have hg : (pre ++ g)[i + pre.length]? = some (.arr false sz cells) := by
     rw [aI (by omega)]; simpa using hi
   have hd : (cells.drop 0).take (n * sz) = cells := by rw [dG, aJ (by omega)]
   simp only [iT, pers, zW, hg, hd, hp, if_true, aP, if_false]
   rw [if_pos (by omega)]
theorem aMk (p : List Int) (hp : p.length ≤ 1000000): CT 119 [.sl (ints p) p.length] (.own 1 (ints p) p.length) := by
 refine aF mixed Tryz.func119 g0 ?_
 · skip
   refine aUt (fun h => ?_) ?_
   · refine zg ?_
     obtain rfl := List.length_eq_zero_iff.1 h
     exact uR (pre := []) (g := []) (.inl ⟨rfl, rfl, rfl⟩) fI
   · (repeat' (first | refine gT ?_ ?_ | refine gF ?_ ?_ | refine gC ?_ ?_ | refine aV (by omega) ?_ | (intro hr; have hc := hr; (try simp only [zdz] at hc); simp -implicitDefEqProofs (disch := omega) only [hr, go_sem, ↓reduceIte, reduceAdd, reduceSub, reduceMul, reduceLeDiff, reduceLT, reduceEqDiff, reduceNeg, Nat.reduceBEq]; (try clear hr))))
     · cases hc
     · exact uR (pre := []) (g := [.arr false 1 (ints p)]) (.inr ⟨0, rfl, rfl, by simp [ints]⟩) fI
theorem aWn (p : List Int) (hp : p.length ≤ 1000000): CT 119 [.sl (ints p) p.length] (.sl (ints p) p.length) := by
 refine aF mixed Tryz.func119 g0 ?_
 · skip
   refine aUt (fun h => ?_) ?_
   · refine zg ?_
     obtain rfl := List.length_eq_zero_iff.1 h
     exact S2 (pre := []) (g := []) (sz := 1) (.inl ⟨rfl, rfl, rfl⟩) fI
   · (repeat' (first | refine gT ?_ ?_ | refine gF ?_ ?_ | refine gC ?_ ?_ | refine aV (by omega) ?_ | (intro hr; have hc := hr; (try simp only [zdz] at hc); simp -implicitDefEqProofs (disch := omega) only [hr, go_sem, ↓reduceIte, reduceAdd, reduceSub, reduceMul, reduceLeDiff, reduceLT, reduceEqDiff, reduceNeg, Nat.reduceBEq]; (try clear hr))))
     · cases hc
     · exact S2 (pre := []) (g := [.arr false 1 (ints p)]) (.inr ⟨0, rfl, rfl, by simp [ints]⟩) fI
def kS (g g' : List AObj) : Prop := ∀ (i : Nat) (o : AObj), g[i]? = some o → (∀ c : List AV, o ≠ .arr false 10 c) → g'[i]? = some o
theorem kS.refl (g : List AObj) : kS g g := fun _ _ h _ => h
theorem kS.trans {a b c : List AObj} (h : kS a b) (k : kS b c) : kS a c := fun i o x y => k i o (h i o x y) y
theorem kS.app (g m : List AObj) : kS g (g ++ m) := fun i o x _ => by rw [aD (aO x)]; exact x
abbrev aAx (l : List gD) (g : List AObj) : AV → List AObj → Prop := fun r h' => r = .tup [] ∧ ∃ out' g', h' = .box false [out'] :: g' ∧ eP 10 1 g' out' (l.flatMap aS) l.length ∧ kS g g'
theorem bBr (a : gD) : aS a = [.sl (ints a.path) a.path.length, .i .i64 a.test.op, .i .i64 a.test.term.kind, .i .i64 a.test.term.n, .s a.test.term.text, .s a.test.term.sort, .sl (a.test.term.kids.flatMap aC) a.test.term.kids.length, .sl (a.test.term.rest.flatMap aC) a.test.term.rest.length, .s a.test.text, .i .i64 a.test.n] := rfl
theorem bKa (te : LTest) (p : List Int) (g : List AObj) (A B : Nat) (hA : g[A]? = some (.box false [.ptr 0 0])) (hB : g[B]? = some (.box false [.sl (ints p) p.length])) (ht : OkT te.term) (hp : p.length ≤ 1000000): ACalls Tryz.prog G0 131 [.agg (dM te), .ptr (A + 1) 0, .ptr (B + 1) 0] (.box false [.e0] :: g) (aAx [⟨p, te⟩] g) := by
 refine dH (rx := true) (th := fun i => if i = 1 then some ⟨some (g.length + 2), [], false, true, false, [10], []⟩ else none) mixed Tryz.func131 ?_
 · simp -implicitDefEqProofs (disch := omega) only [Tryz.f131, go_sem, List.replicate, ↓reduceIte, reduceAdd, reduceSub, reduceMul, reduceLeDiff, reduceLT, reduceEqDiff, reduceNeg, Nat.reduceBEq, dM, avt]
   have hA1 := aO hA
   have hB1 := aO hB
   have hAm : ∀ m : List AObj, (g ++ m)[A]? = some (.box false [.ptr 0 0]) := fun m => by rw [aD hA1]; exact hA
   have hBm : ∀ m : List AObj, (g ++ m)[B]? = some (.box false [.sl (ints p) p.length]) := fun m => by rw [aD hB1]; exact hB
   have hA2 : (A + 1 < g.length + 2) = True := eq_true (by omega)
   have hB2 : (B + 1 < g.length + 2) = True := eq_true (by omega)
   refine zh (zA2 hA (zA2 hB (zA2 hAm (zA2 hBm (zA2 hA2 (zA2 hB2 (zA2 true_and and_true))))))) ?_
   (repeat' (first | refine gT ?_ ?_ | refine gF ?_ ?_ | refine gC ?_ ?_ | ((refine aW (aWn p hp) ?_ ?_; (focus (simp -implicitDefEqProofs (disch := omega) only [hA, hB, hAm, hBm, hA2, hB2, true_and, and_true, dS, zdB, go_sem, ↓reduceIte, reduceAdd, reduceSub, reduceMul, reduceLeDiff, reduceLT, reduceEqDiff, reduceNeg, Nat.reduceBEq]; done))); simp -implicitDefEqProofs (disch := omega) only [hA, hB, hAm, hBm, hA2, hB2, true_and, and_true, dS, go_sem, ↓reduceIte, reduceAdd, reduceSub, reduceMul, reduceLeDiff, reduceLT, reduceEqDiff, reduceNeg, Nat.reduceBEq]) | refine aV (by omega) ?_ | (intro hr; have hc := hr; (try simp only [zdz] at hc); simp -implicitDefEqProofs (disch := omega) only [hr, hA, hB, hAm, hBm, hA2, hB2, true_and, and_true, dS, go_sem, ↓reduceIte, reduceAdd, reduceSub, reduceMul, reduceLeDiff, reduceLT, reduceEqDiff, reduceNeg, Nat.reduceBEq]; (try clear hr))))
   refine ⟨rfl, _, _, rfl, .inr ⟨g.length + 2, rfl, by rw [aI (by omega)]; simp [bBr], by simp [aS]⟩, .app _ _⟩
theorem bCb {g more : List AObj} {q : Nat} {l : List gD} {a : gD} (hi : g[q]? = some (.arr false 10 (l.flatMap aS))) (hm : more.length = 2) : aAx (l ++ [a]) g (.tup []) (.box false [.hs (g.length + 2 + 1) 0 (l.length + 1) false] :: ((g ++ more).set q .dead ++ [.arr false 10 (l.flatMap aS ++ aS a)])) := by
 have hq := aO hi
 refine ⟨rfl, _, _, rfl, .inr ⟨g.length + 2, ?_, ?_, ?_⟩, ?_⟩
 · rw [aH]; rfl
 · rw [aI (by simp; omega)]; simp [hm]
 · rw [wA]
 · intro i o hio hn
   have hio' := aO hio
   have hne : q ≠ i := by rintro rfl; rw [hi] at hio; cases hio; exact hn _ rfl
   rw [aD (by simp; omega), cW hne, aD hio']
   exact hio
theorem bJz (te : LTest) (p : List Int) (l : List gD) (q : Nat) (g : List AObj) (A B : Nat) (hA : g[A]? = some (.box false [.ptr 0 0])) (hB : g[B]? = some (.box false [.sl (ints p) p.length])) (ht : OkT te.term) (hp : p.length ≤ 1000000) (hl : l.length ≤ 1000000) (hi : g[q]? = some (.arr false 10 (l.flatMap aS))): ACalls Tryz.prog G0 131 [.agg (dM te), .ptr (A + 1) 0, .ptr (B + 1) 0] (.box false [.hs (q + 1) 0 l.length false] :: g) (aAx (l ++ [⟨p, te⟩]) g) := by
 refine dH (rx := true) (th := fun i => if i = 1 then some ⟨some (g.length + 2), [q + 1], false, true, false, [10], []⟩ else none) mixed Tryz.func131 ?_
 · simp -implicitDefEqProofs (disch := omega) only [Tryz.f131, go_sem, List.replicate, ↓reduceIte, reduceAdd, reduceSub, reduceMul, reduceLeDiff, reduceLT, reduceEqDiff, reduceNeg, Nat.reduceBEq, dM, avt]
   have hA1 := aO hA
   have hB1 := aO hB
   have hAm : ∀ m : List AObj, (g ++ m)[A]? = some (.box false [.ptr 0 0]) := fun m => by rw [aD hA1]; exact hA
   have hBm : ∀ m : List AObj, (g ++ m)[B]? = some (.box false [.sl (ints p) p.length]) := fun m => by rw [aD hB1]; exact hB
   have hA2 : (A + 1 < g.length + 2) = True := eq_true (by omega)
   have hB2 : (B + 1 < g.length + 2) = True := eq_true (by omega)
   have hAi : (A = q) = False := eq_false (by rintro rfl; rw [hi] at hA; cases hA)
   have hBi : (B = q) = False := eq_false (by rintro rfl; rw [hi] at hB; cases hB)
   have hq := aO hi
   have him : ∀ m : List AObj, (g ++ m)[q]? = some (.arr false 10 (l.flatMap aS)) := fun m => by rw [aD hq]; exact hi
   have b1 : ((l.length + 1) * 152 ≤ 140737488355328) = True := eq_true (by omega)
   have b2 : (l.length ≤ 140737488355327) = True := eq_true (by omega)
   have b3 : ∀ n : Nat, (n ≤ n) = True := fun n => eq_true (aZ n)
   refine zh (zA2 hA (zA2 hB (zA2 hAm (zA2 hBm (zA2 hA2 (zA2 hB2 (zA2 true_and (zA2 and_true (zA2 hAi (zA2 hBi (zA2 not_false_eq_true (zA2 him (zA2 @b1 (zA2 @b2 b3)))))))))))))) ?_
   (repeat' (first | refine gT ?_ ?_ | refine gF ?_ ?_ | refine gC ?_ ?_ | ((refine aW (aWn p hp) ?_ ?_; (focus (simp -implicitDefEqProofs (disch := omega) only [hA, hB, hAm, hBm, hA2, hB2, true_and, and_true, hAi, hBi, not_false_eq_true, him, b1, b2, b3, dS, zdB, go_sem, ↓reduceIte, reduceAdd, reduceSub, reduceMul, reduceLeDiff, reduceLT, reduceEqDiff, reduceNeg, Nat.reduceBEq]; done))); simp -implicitDefEqProofs (disch := omega) only [hA, hB, hAm, hBm, hA2, hB2, true_and, and_true, hAi, hBi, not_false_eq_true, him, b1, b2, b3, dS, go_sem, ↓reduceIte, reduceAdd, reduceSub, reduceMul, reduceLeDiff, reduceLT, reduceEqDiff, reduceNeg, Nat.reduceBEq]) | refine aV (by omega) ?_ | (intro hr; have hc := hr; (try simp only [zdz] at hc); simp -implicitDefEqProofs (disch := omega) only [hr, hA, hB, hAm, hBm, hA2, hB2, true_and, and_true, hAi, hBi, not_false_eq_true, him, b1, b2, b3, dS, go_sem, ↓reduceIte, reduceAdd, reduceSub, reduceMul, reduceLeDiff, reduceLT, reduceEqDiff, reduceNeg, Nat.reduceBEq]; (try clear hr))))
   exact bCb (a := ⟨p, te⟩) hi rfl
theorem bCc (te : LTest) (p : List Int) (l : List gD) (out : AV) (g : List AObj) (A B : Nat) (hA : g[A]? = some (.box false [.ptr 0 0])) (hB : g[B]? = some (.box false [.sl (ints p) p.length])) (ht : OkT te.term) (hp : p.length ≤ 1000000) (hl : l.length ≤ 1000000) (ho : eP 10 1 g out (l.flatMap aS) l.length) :
   ACalls Tryz.prog G0 131 [.agg (dM te), .ptr (A + 1) 0, .ptr (B + 1) 0] (.box false [out] :: g) (aAx (l ++ [⟨p, te⟩]) g) := by
 rcases ho with ⟨rfl, _, h⟩ | ⟨q, rfl, hi, _⟩
 · obtain rfl := List.length_eq_zero_iff.1 h
   exact bKa te p g A B hA hB ht hp
 · exact bJz te p l q g A B hA hB ht hp hl hi

theorem oJ {g g' : List AObj} {i : Nat} {o : AObj} (h : kS g g') (hi : g[i]? = some o) (ho : ∀ c : List AV, o ≠ .arr false 10 c) : g'[i]? = some o := h i o hi ho
theorem J4 {k : IntKind} : ∀ {p : List Int}, (p.map (AV.i k)).all aOf = true
 | [] => rfl
 | a :: l => by rw [aU, gR, J4 (p := l)]; rfl
theorem V9 : OkT zT := .mk (by simp [LTerm.text]) (by simp [LTerm.sort]) (by simp [LTerm.n]) (by simp [LTerm.n]) (by simp [LTerm.kids]) (by simp [LTerm.rest]) (by simp [LTerm.kids]) (by simp [LTerm.rest])
theorem E6 {t : LTerm} {te : LTest} {p : List Int} {l : List gD} {out : AV} {g : List AObj} {cs : List AV} (ht : OkT te.term) (hp : p.length ≤ 1000000) (hl : l.length ≤ 1000000) (ho : eP 10 1 g out (l.flatMap aS) l.length) (hc : cs = dM te) :
   ACalls Tryz.prog G0 131 [.agg cs, .ptr (g.length + 1) 0, .ptr (g.length + 2 + 1) 0] (.box false [out] :: (g ++ [.box false [.ptr 0 0], .box false [.i .i64 (t).kind, .i .i64 (t).n, .s (t).text, .s (t).sort, .sl ((t).kids.flatMap aC) (t).kids.length, .sl ((t).rest.flatMap aC) (t).rest.length], .box false [.sl (ints p) p.length]])) (aAx (l ++ [⟨p, te⟩]) (g ++ [.box false [.ptr 0 0], .box false [.i .i64 (t).kind, .i .i64 (t).n, .s (t).text, .s (t).sort, .sl ((t).kids.flatMap aC) (t).kids.length, .sl ((t).rest.flatMap aC) (t).rest.length], .box false [.sl (ints p) p.length]])) := by
 subst hc
 exact bCc te p l out _ g.length (g.length + 2) (by simp) (by simp) ht hp hl (ho.more _)
theorem aOr (t : LTerm) (p : List Int) (l : List gD) (out : AV) (g : List AObj) (ht : OkT t) (hp : p.length ≤ 1000000) (hl : l.length ≤ 1000000) (ho : eP 10 1 g out (l.flatMap aS) l.length) (h5 : ¬ t.kind = 5) (h7 : ¬ t.kind = 7): ACalls Tryz.prog G0 77 [.ptr 0 0, elT t, .sl (ints p) p.length] (.box false [out] :: g) (aAx (l ++ cM t p) g) := by
 refine dH (rx := true) (th := fun i => if i = 19 then some ⟨none, [], true, true, true, [], []⟩ else none) mixed Tryz.func77 ?_
 · simp -implicitDefEqProofs (disch := omega) only [Tryz.f77, go_sem, List.replicate, simprocAttr]
   rw [gU, if_neg h5, if_neg h7]
   rcases (by omega : t.kind = 8 ∨ (¬ t.kind = 8 ∧ t.kind = 6) ∨ (¬ t.kind = 8 ∧ ¬ t.kind = 6)) with h8 | ⟨h8, h6⟩ | ⟨h8, h6⟩
   · rw [if_pos h8]
     have h6 : ¬ t.kind = 6 := by omega
     refine zh (zA2 (zf h5) (zA2 (zf h7) (zA2 (zt h8) (zf h6)))) ?_
     refine tW 0 rfl ?_
     refine zg ?_
     refine eO (E6 (te := ⟨5, zT, [], 0⟩) (by first | exact ht | exact V9) hp hl ho rfl) ?_
     rintro r h' ⟨rfl, out', g', rfl, ho', hs'⟩
     refine zg ?_
     exact ⟨rfl, out', g', rfl, ho', (kS.app g _).trans hs'⟩
   · rw [if_neg h8, if_pos h6]
     refine zh (zA2 (zf h5) (zA2 (zf h7) (zA2 (zf h8) (zt h6)))) ?_
     (refine zx0 (zA2 (zf h5) (zA2 (zf h7) (zA2 (zf h8) (zt h6)))) ?_; repeat' first | exact trivial | refine zJ ?_ ?_ | refine zH fun hc => ?_)
     rw [if_neg hc]
     refine tW 0 rfl ?_
     refine zg ?_
     refine eO (E6 (te := ⟨6, zT, t.sort, 0⟩) (by first | exact ht | exact V9) hp hl ho rfl) ?_
     rintro r h' ⟨rfl, out', g', rfl, ho', hs'⟩
     refine zg ?_
     exact ⟨rfl, out', g', rfl, ho', (kS.app g _).trans hs'⟩
     rw [if_pos hc, List.append_nil]
     exact ⟨rfl, out, _, rfl, ho.more _, .app _ _⟩
   · rw [if_neg h8, if_neg h6]
     refine zh (zA2 (zf h5) (zA2 (zf h7) (zA2 (zf h8) (zf h6)))) ?_
     refine eO (E6 (te := ⟨1, t, [], 0⟩) (by first | exact ht | exact V9) hp hl ho rfl) ?_
     rintro r h' ⟨rfl, out', g', rfl, ho', hs'⟩
     refine zg ?_
     exact ⟨rfl, out', g', rfl, ho', (kS.app g _).trans hs'⟩
theorem aHu (t : LTerm) (p : List Int) (l : List gD) (out : AV) (g : List AObj) (ht : OkT t) (hp : p.length ≤ 1000) (hl : l.length + (testsL t.kids p 0).length < 1000000) (ho : eP 10 1 g out (l.flatMap aS) l.length) (h5 : t.kind = 5) (ih : ∀ k, k < t.kids.length → ∀ (l : List gD) (out : AV) (g : List AObj), l.length + (cM (t.kids.getD k default) (p ++ [(k : Int)])).length ≤ 1000000 → eP 10 1 g out (l.flatMap aS) l.length → ACalls Tryz.prog G0 77 [.ptr 0 0, elT (t.kids.getD k default), .sl (ints (p ++ [(k : Int)])) (p.length + 1)] (.box false [out] :: g) (aAx (l ++ cM (t.kids.getD k default) (p ++ [(k : Int)])) g)): ACalls Tryz.prog G0 77 [.ptr 0 0, elT t, .sl (ints p) p.length] (.box false [out] :: g) (aAx (l ++ cM t p) g) := by
 refine dH (rx := true) (th := fun i => if i = 19 then some ⟨none, [], true, true, true, [], []⟩ else none) mixed Tryz.func77 ?_
 · simp -implicitDefEqProofs (disch := omega) only [Tryz.f77, go_sem, List.replicate, simprocAttr]
   rw [gU, if_pos h5]
   have hkk := ht.kids
   have h6 : ¬ t.kind = 6 := by omega
   refine zh (zA2 (zt h5) (zf h6)) ?_
   refine tW 0 rfl ?_
   refine zg ?_
   refine eO (E6 (te := ⟨2, zT, t.text, t.kids.length⟩) V9 (by omega) (by omega) ho rfl) ?_
   rintro r h' ⟨rfl, out1, g1, rfl, ho1, hs1⟩
   have eA : g1[g.length]? = some (.box false [.ptr 0 0]) := hs1 _ _ (by simp) (fun c h => by cases h)
   have eT : g1[g.length + 1]? = some (.box false [.i .i64 (t).kind, .i .i64 (t).n, .s (t).text, .s (t).sort, .sl ((t).kids.flatMap aC) (t).kids.length, .sl ((t).rest.flatMap aC) (t).rest.length]) := hs1 _ _ (by simp) (fun c h => by cases h)
   have eB : g1[g.length + 2]? = some (.box false [.sl (ints p) p.length]) := hs1 _ _ (by simp) (fun c h => by cases h)
   have hs2 : kS g g1 := (kS.app g _).trans hs1
   refine zh (zA2 eA (zA2 eT eB)) ?_
   refine bP (fun (s : Nat × AV × List AObj) => [.k, .k, .k, .k, .k, .k, .k, .k, .j, .j, .k, .k, .k, .k, .k, .k, .k, .k, .k, .k, .k, .k, .k, .k, .k, .k, .k, .k, .k, .k, .k, .k, .k, .k, .k, .k, .k, .k, .k, .k, .k, .k, .k, .k, .k, .k, .k, .k, .k, .k, .k, .k, .k, .k, .k, .k, .k, .k, .v (.i .i64 (s.1 : Nat)), .j, .j, .j, .j, .j, .j, .j, .j, .j, .j, .j, .j, .j]) (fun s => (.box false [s.2.1] :: s.2.2)) (fun s => s.1 ≤ t.kids.length ∧ eP 10 1 s.2.2 s.2.1 ((l ++ [(⟨p, ⟨2, zT, t.text, t.kids.length⟩⟩ : gD)] ++ testsL (t.kids.take s.1) p 0).flatMap aS) (l ++ [(⟨p, ⟨2, zT, t.text, t.kids.length⟩⟩ : gD)] ++ testsL (t.kids.take s.1) p 0).length ∧ kS g1 s.2.2) (fun s => t.kids.length - s.1) ((0, out1, g1)) ⟨aG _, by simpa [testsL] using ho1, .refl _⟩ rfl (by simp [eN]) ?_
   rintro ⟨k, out, h2⟩ j ⟨hk, ho2, hs3⟩
   dsimp only at hk ho2 hs3
   have fA := oJ hs3 eA (fun c h => by cases h)
   have fT := oJ hs3 eT (fun c h => by cases h)
   have fB := oJ hs3 eB (fun c h => by cases h)
   have lA := aO fA
   have lB := aO fB
   have mA : ∀ m : List AObj, (h2 ++ m)[g.length]? = some (.box false [.ptr 0 0]) := fun m => by rw [aD lA]; exact fA
   have mB : ∀ m : List AObj, (h2 ++ m)[g.length + 2]? = some (.box false [.sl (ints p) p.length]) := fun m => by rw [aD lB]; exact fB
   by_cases hlt : k < t.kids.length
   · have hki : (k : Int) < ((t.kids.length : Nat) : Int) := by omega
     have qA : ∀ n : Nat, (g.length + 1 < h2.length + (n + 1)) = True := fun n => eq_true (by omega)
     have qB : ∀ n : Nat, (g.length + 2 + 1 < h2.length + (n + 1)) = True := fun n => eq_true (by omega)
     simp -implicitDefEqProofs (disch := omega) only [zt hki, mA, mB, fA, fB, qA, qB, true_and, and_true, go_sem, simprocAttr]
     (repeat' (first | refine gT ?_ ?_ | refine gF ?_ ?_ | refine gC ?_ ?_ | ((refine aW (aMk p (by omega)) ?_ ?_; (focus (simp -implicitDefEqProofs (disch := omega) only [zt hki, mA, mB, fA, fB, qA, qB, true_and, and_true, zdB, go_sem, simprocAttr]; done))); simp -implicitDefEqProofs (disch := omega) only [zt hki, mA, mB, fA, fB, qA, qB, true_and, and_true, go_sem, simprocAttr]) | refine aV (by omega) ?_ | (intro hr; have hc := hr; (try simp only [zdz] at hc); simp -implicitDefEqProofs (disch := omega) only [hr, zt hki, mA, mB, fA, fB, qA, qB, true_and, and_true, go_sem, simprocAttr]; (try clear hr))))
     have htl := iC (l := t.kids) (p := p) (i := 0) hlt
     rw [bX] at htl
     have hm := iY (l := t.kids) (p := p) (k := k + 1)
     rw [htl, aH] at hm
     have htk : List.take (p.length + 1) (List.map (AV.i IntKind.i64) p ++ [AV.i IntKind.i64 (k : Int)]) = List.map (AV.i IntKind.i64) p ++ [AV.i IntKind.i64 (k : Int)] := aJ (by simp)
     have hps : persL (List.map (AV.i IntKind.i64) p ++ [AV.i IntKind.i64 (k : Int)]) = true := by rw [fO, fI]; rfl
     have hea : (List.map (AV.i IntKind.i64) p ++ [AV.i IntKind.i64 (k : Int)]).all aOf = true := by rw [pA, J4]; rfl
     refine tW 2 rfl ?_
     refine zh (zA2 htk (zA2 hps hea)) ?_
     have ci := ih k hlt (l ++ [(⟨p, ⟨2, zT, t.text, t.kids.length⟩⟩ : gD)] ++ testsL (t.kids.take k) p 0) out (h2 ++ [.box false [.i .i64 (t.kids.getD k default).kind, .i .i64 (t.kids.getD k default).n, .s (t.kids.getD k default).text, .s (t.kids.getD k default).sort, .sl ((t.kids.getD k default).kids.flatMap aC) (t.kids.getD k default).kids.length, .sl ((t.kids.getD k default).rest.flatMap aC) (t.kids.getD k default).rest.length], .dead, .arr true 1 (ints p ++ [.i .i64 (k : Int)])]) (by simp only [aH, aQ, bD]; omega) (ho2.more _)
     simp only [ints, aT, aU, bN, elT, bA, avt] at ci
     refine eO ci ?_
     rintro r h' ⟨rfl, out3, h3, rfl, ho3, hs4⟩
     refine zg ?_
     refine ⟨(k + 1, out3, h3), ⟨by dsimp only; omega, ?_, hs3.trans ((kS.app _ _).trans hs4)⟩, by dsimp only; omega, rfl, by simp⟩
     dsimp only
     rw [htl]
     rw [bT, bT, aAu, aH, aQ] at ho3
     exact ho3
   · have hki : ¬ (k : Int) < ((t.kids.length : Nat) : Int) := by omega
     have hkt : t.kids.take k = t.kids := aJ (by omega)
     rw [hkt] at ho2
     refine zh (zf hki) ?_
     exact ⟨rfl, out, h2, rfl, by simpa using ho2, hs2.trans hs3⟩
theorem aEv (t : LTerm) (p : List Int) (l : List gD) (out : AV) (g : List AObj) (ht : OkT t) (hp : p.length ≤ 1000) (hl : l.length + (testsL t.kids p 0).length < 1000000) (ho : eP 10 1 g out (l.flatMap aS) l.length) (h7 : t.kind = 7) (hr : 0 < t.rest.length) (ih : ∀ k, k < t.kids.length → ∀ (l : List gD) (out : AV) (g : List AObj), l.length + (cM (t.kids.getD k default) (p ++ [(k : Int)])).length ≤ 1000000 → eP 10 1 g out (l.flatMap aS) l.length → ACalls Tryz.prog G0 77 [.ptr 0 0, elT (t.kids.getD k default), .sl (ints (p ++ [(k : Int)])) (p.length + 1)] (.box false [out] :: g) (aAx (l ++ cM (t.kids.getD k default) (p ++ [(k : Int)])) g)): ACalls Tryz.prog G0 77 [.ptr 0 0, elT t, .sl (ints p) p.length] (.box false [out] :: g) (aAx (l ++ cM t p) g) := by
 refine dH (rx := true) (th := fun i => if i = 19 then some ⟨none, [], true, true, true, [], []⟩ else none) mixed Tryz.func77 ?_
 · simp -implicitDefEqProofs (disch := omega) only [Tryz.f77, go_sem, List.replicate, simprocAttr]
   have h5 : ¬ t.kind = 5 := by omega
   have h6 : ¬ t.kind = 6 := by omega
   have hri : (0 : Int) < ((t.rest.length : Nat) : Int) := by omega
   rw [gU, if_neg h5, if_pos h7, if_pos hr]
   have hkk := ht.kids
   refine zh (zA2 (zf h5) (zA2 (zf h6) (zA2 (zt h7) (zt hri)))) ?_
   (refine zx0 (zA2 (zf h5) (zA2 (zf h6) (zA2 (zt h7) (zt hri)))) ?_; repeat' first | exact trivial | refine zJ ?_ ?_ | refine zH fun hc => ?_)
   refine tW 0 rfl ?_
   refine zg ?_
   refine eO (E6 (te := ⟨4, zT, [], t.kids.length⟩) V9 (by omega) (by omega) ho rfl) ?_
   rintro r h' ⟨rfl, out1, g1, rfl, ho1, hs1⟩
   have eA : g1[g.length]? = some (.box false [.ptr 0 0]) := hs1 _ _ (by simp) (fun c h => by cases h)
   have eT : g1[g.length + 1]? = some (.box false [.i .i64 (t).kind, .i .i64 (t).n, .s (t).text, .s (t).sort, .sl ((t).kids.flatMap aC) (t).kids.length, .sl ((t).rest.flatMap aC) (t).rest.length]) := hs1 _ _ (by simp) (fun c h => by cases h)
   have eB : g1[g.length + 2]? = some (.box false [.sl (ints p) p.length]) := hs1 _ _ (by simp) (fun c h => by cases h)
   have hs2 : kS g g1 := (kS.app g _).trans hs1
   refine zh (zA2 eA (zA2 eT eB)) ?_
   refine bP (fun (s : Nat × AV × List AObj) => [.k, .k, .k, .k, .k, .k, .k, .k, .j, .j, .k, .k, .k, .k, .k, .k, .k, .k, .k, .k, .k, .k, .k, .k, .k, .k, .k, .k, .k, .k, .k, .k, .k, .k, .k, .k, .k, .k, .k, .k, .k, .k, .k, .k, .k, .k, .k, .k, .k, .k, .k, .k, .k, .k, .k, .k, .k, .k, .v (.i .i64 (s.1 : Nat)), .j, .j, .j, .j, .j, .j, .j, .j, .j, .j, .j, .j, .j]) (fun s => (.box false [s.2.1] :: s.2.2)) (fun s => s.1 ≤ t.kids.length ∧ eP 10 1 s.2.2 s.2.1 ((l ++ [(⟨p, ⟨4, zT, [], t.kids.length⟩⟩ : gD)] ++ testsL (t.kids.take s.1) p 0).flatMap aS) (l ++ [(⟨p, ⟨4, zT, [], t.kids.length⟩⟩ : gD)] ++ testsL (t.kids.take s.1) p 0).length ∧ kS g1 s.2.2) (fun s => t.kids.length - s.1) ((0, out1, g1)) ⟨aG _, by simpa [testsL] using ho1, .refl _⟩ rfl (by simp [eN]) ?_
   rintro ⟨k, out, h2⟩ j ⟨hk, ho2, hs3⟩
   dsimp only at hk ho2 hs3
   have fA := oJ hs3 eA (fun c h => by cases h)
   have fT := oJ hs3 eT (fun c h => by cases h)
   have fB := oJ hs3 eB (fun c h => by cases h)
   have lA := aO fA
   have lB := aO fB
   have mA : ∀ m : List AObj, (h2 ++ m)[g.length]? = some (.box false [.ptr 0 0]) := fun m => by rw [aD lA]; exact fA
   have mB : ∀ m : List AObj, (h2 ++ m)[g.length + 2]? = some (.box false [.sl (ints p) p.length]) := fun m => by rw [aD lB]; exact fB
   by_cases hlt : k < t.kids.length
   · have hki : (k : Int) < ((t.kids.length : Nat) : Int) := by omega
     have qA : ∀ n : Nat, (g.length + 1 < h2.length + (n + 1)) = True := fun n => eq_true (by omega)
     have qB : ∀ n : Nat, (g.length + 2 + 1 < h2.length + (n + 1)) = True := fun n => eq_true (by omega)
     simp -implicitDefEqProofs (disch := omega) only [zt hki, mA, mB, fA, fB, qA, qB, true_and, and_true, go_sem, simprocAttr]
     (repeat' (first | refine gT ?_ ?_ | refine gF ?_ ?_ | refine gC ?_ ?_ | ((refine aW (aMk p (by omega)) ?_ ?_; (focus (simp -implicitDefEqProofs (disch := omega) only [zt hki, mA, mB, fA, fB, qA, qB, true_and, and_true, zdB, go_sem, simprocAttr]; done))); simp -implicitDefEqProofs (disch := omega) only [zt hki, mA, mB, fA, fB, qA, qB, true_and, and_true, go_sem, simprocAttr]) | refine aV (by omega) ?_ | (intro hr; have hc := hr; (try simp only [zdz] at hc); simp -implicitDefEqProofs (disch := omega) only [hr, zt hki, mA, mB, fA, fB, qA, qB, true_and, and_true, go_sem, simprocAttr]; (try clear hr))))
     have htl := iC (l := t.kids) (p := p) (i := 0) hlt
     rw [bX] at htl
     have hm := iY (l := t.kids) (p := p) (k := k + 1)
     rw [htl, aH] at hm
     have htk : List.take (p.length + 1) (List.map (AV.i IntKind.i64) p ++ [AV.i IntKind.i64 (k : Int)]) = List.map (AV.i IntKind.i64) p ++ [AV.i IntKind.i64 (k : Int)] := aJ (by simp)
     have hps : persL (List.map (AV.i IntKind.i64) p ++ [AV.i IntKind.i64 (k : Int)]) = true := by rw [fO, fI]; rfl
     have hea : (List.map (AV.i IntKind.i64) p ++ [AV.i IntKind.i64 (k : Int)]).all aOf = true := by rw [pA, J4]; rfl
     refine tW 2 rfl ?_
     refine zh (zA2 htk (zA2 hps hea)) ?_
     have ci := ih k hlt (l ++ [(⟨p, ⟨4, zT, [], t.kids.length⟩⟩ : gD)] ++ testsL (t.kids.take k) p 0) out (h2 ++ [.box false [.i .i64 (t.kids.getD k default).kind, .i .i64 (t.kids.getD k default).n, .s (t.kids.getD k default).text, .s (t.kids.getD k default).sort, .sl ((t.kids.getD k default).kids.flatMap aC) (t.kids.getD k default).kids.length, .sl ((t.kids.getD k default).rest.flatMap aC) (t.kids.getD k default).rest.length], .dead, .arr true 1 (ints p ++ [.i .i64 (k : Int)])]) (by simp only [aH, aQ, bD]; omega) (ho2.more _)
     simp only [ints, aT, aU, bN, elT, bA, avt] at ci
     refine eO ci ?_
     rintro r h' ⟨rfl, out3, h3, rfl, ho3, hs4⟩
     refine zg ?_
     refine ⟨(k + 1, out3, h3), ⟨by dsimp only; omega, ?_, hs3.trans ((kS.app _ _).trans hs4)⟩, by dsimp only; omega, rfl, by simp⟩
     dsimp only
     rw [htl]
     rw [bT, bT, aAu, aH, aQ] at ho3
     exact ho3
   · have hki : ¬ (k : Int) < ((t.kids.length : Nat) : Int) := by omega
     have hkt : t.kids.take k = t.kids := aJ (by omega)
     rw [hkt] at ho2
     refine zh (zf hki) ?_
     exact ⟨rfl, out, h2, rfl, by simpa using ho2, hs2.trans hs3⟩
theorem aEu (t : LTerm) (p : List Int) (l : List gD) (out : AV) (g : List AObj) (ht : OkT t) (hp : p.length ≤ 1000) (hl : l.length + (testsL t.kids p 0).length < 1000000) (ho : eP 10 1 g out (l.flatMap aS) l.length) (h7 : t.kind = 7) (hr : ¬ 0 < t.rest.length) (ih : ∀ k, k < t.kids.length → ∀ (l : List gD) (out : AV) (g : List AObj), l.length + (cM (t.kids.getD k default) (p ++ [(k : Int)])).length ≤ 1000000 → eP 10 1 g out (l.flatMap aS) l.length → ACalls Tryz.prog G0 77 [.ptr 0 0, elT (t.kids.getD k default), .sl (ints (p ++ [(k : Int)])) (p.length + 1)] (.box false [out] :: g) (aAx (l ++ cM (t.kids.getD k default) (p ++ [(k : Int)])) g)): ACalls Tryz.prog G0 77 [.ptr 0 0, elT t, .sl (ints p) p.length] (.box false [out] :: g) (aAx (l ++ cM t p) g) := by
 refine dH (rx := true) (th := fun i => if i = 19 then some ⟨none, [], true, true, true, [], []⟩ else none) mixed Tryz.func77 ?_
 · simp -implicitDefEqProofs (disch := omega) only [Tryz.f77, go_sem, List.replicate, simprocAttr]
   have h5 : ¬ t.kind = 5 := by omega
   have h6 : ¬ t.kind = 6 := by omega
   have hri : ¬ (0 : Int) < ((t.rest.length : Nat) : Int) := by omega
   rw [gU, if_neg h5, if_pos h7, if_neg hr]
   have hkk := ht.kids
   refine zh (zA2 (zf h5) (zA2 (zf h6) (zA2 (zt h7) (zf hri)))) ?_
   (refine zx0 (zA2 (zf h5) (zA2 (zf h6) (zA2 (zt h7) (zf hri)))) ?_; repeat' first | exact trivial | refine zJ ?_ ?_ | refine zH fun hc => ?_)
   refine tW 0 rfl ?_
   refine zg ?_
   refine eO (E6 (te := ⟨3, zT, [], t.kids.length⟩) V9 (by omega) (by omega) ho rfl) ?_
   rintro r h' ⟨rfl, out1, g1, rfl, ho1, hs1⟩
   have eA : g1[g.length]? = some (.box false [.ptr 0 0]) := hs1 _ _ (by simp) (fun c h => by cases h)
   have eT : g1[g.length + 1]? = some (.box false [.i .i64 (t).kind, .i .i64 (t).n, .s (t).text, .s (t).sort, .sl ((t).kids.flatMap aC) (t).kids.length, .sl ((t).rest.flatMap aC) (t).rest.length]) := hs1 _ _ (by simp) (fun c h => by cases h)
   have eB : g1[g.length + 2]? = some (.box false [.sl (ints p) p.length]) := hs1 _ _ (by simp) (fun c h => by cases h)
   have hs2 : kS g g1 := (kS.app g _).trans hs1
   refine zh (zA2 eA (zA2 eT eB)) ?_
   refine bP (fun (s : Nat × AV × List AObj) => [.k, .k, .k, .k, .k, .k, .k, .k, .j, .j, .k, .k, .k, .k, .k, .k, .k, .k, .k, .k, .k, .k, .k, .k, .k, .k, .k, .k, .k, .k, .k, .k, .k, .k, .k, .k, .k, .k, .k, .k, .k, .k, .k, .k, .k, .k, .k, .k, .k, .k, .k, .k, .k, .k, .k, .k, .k, .k, .v (.i .i64 (s.1 : Nat)), .j, .j, .j, .j, .j, .j, .j, .j, .j, .j, .j, .j, .j]) (fun s => (.box false [s.2.1] :: s.2.2)) (fun s => s.1 ≤ t.kids.length ∧ eP 10 1 s.2.2 s.2.1 ((l ++ [(⟨p, ⟨3, zT, [], t.kids.length⟩⟩ : gD)] ++ testsL (t.kids.take s.1) p 0).flatMap aS) (l ++ [(⟨p, ⟨3, zT, [], t.kids.length⟩⟩ : gD)] ++ testsL (t.kids.take s.1) p 0).length ∧ kS g1 s.2.2) (fun s => t.kids.length - s.1) ((0, out1, g1)) ⟨aG _, by simpa [testsL] using ho1, .refl _⟩ rfl (by simp [eN]) ?_
   rintro ⟨k, out, h2⟩ j ⟨hk, ho2, hs3⟩
   dsimp only at hk ho2 hs3
   have fA := oJ hs3 eA (fun c h => by cases h)
   have fT := oJ hs3 eT (fun c h => by cases h)
   have fB := oJ hs3 eB (fun c h => by cases h)
   have lA := aO fA
   have lB := aO fB
   have mA : ∀ m : List AObj, (h2 ++ m)[g.length]? = some (.box false [.ptr 0 0]) := fun m => by rw [aD lA]; exact fA
   have mB : ∀ m : List AObj, (h2 ++ m)[g.length + 2]? = some (.box false [.sl (ints p) p.length]) := fun m => by rw [aD lB]; exact fB
   by_cases hlt : k < t.kids.length
   · have hki : (k : Int) < ((t.kids.length : Nat) : Int) := by omega
     have qA : ∀ n : Nat, (g.length + 1 < h2.length + (n + 1)) = True := fun n => eq_true (by omega)
     have qB : ∀ n : Nat, (g.length + 2 + 1 < h2.length + (n + 1)) = True := fun n => eq_true (by omega)
     simp -implicitDefEqProofs (disch := omega) only [zt hki, mA, mB, fA, fB, qA, qB, true_and, and_true, go_sem, simprocAttr]
     (repeat' (first | refine gT ?_ ?_ | refine gF ?_ ?_ | refine gC ?_ ?_ | ((refine aW (aMk p (by omega)) ?_ ?_; (focus (simp -implicitDefEqProofs (disch := omega) only [zt hki, mA, mB, fA, fB, qA, qB, true_and, and_true, zdB, go_sem, simprocAttr]; done))); simp -implicitDefEqProofs (disch := omega) only [zt hki, mA, mB, fA, fB, qA, qB, true_and, and_true, go_sem, simprocAttr]) | refine aV (by omega) ?_ | (intro hr; have hc := hr; (try simp only [zdz] at hc); simp -implicitDefEqProofs (disch := omega) only [hr, zt hki, mA, mB, fA, fB, qA, qB, true_and, and_true, go_sem, simprocAttr]; (try clear hr))))
     have htl := iC (l := t.kids) (p := p) (i := 0) hlt
     rw [bX] at htl
     have hm := iY (l := t.kids) (p := p) (k := k + 1)
     rw [htl, aH] at hm
     have htk : List.take (p.length + 1) (List.map (AV.i IntKind.i64) p ++ [AV.i IntKind.i64 (k : Int)]) = List.map (AV.i IntKind.i64) p ++ [AV.i IntKind.i64 (k : Int)] := aJ (by simp)
     have hps : persL (List.map (AV.i IntKind.i64) p ++ [AV.i IntKind.i64 (k : Int)]) = true := by rw [fO, fI]; rfl
     have hea : (List.map (AV.i IntKind.i64) p ++ [AV.i IntKind.i64 (k : Int)]).all aOf = true := by rw [pA, J4]; rfl
     refine tW 2 rfl ?_
     refine zh (zA2 htk (zA2 hps hea)) ?_
     have ci := ih k hlt (l ++ [(⟨p, ⟨3, zT, [], t.kids.length⟩⟩ : gD)] ++ testsL (t.kids.take k) p 0) out (h2 ++ [.box false [.i .i64 (t.kids.getD k default).kind, .i .i64 (t.kids.getD k default).n, .s (t.kids.getD k default).text, .s (t.kids.getD k default).sort, .sl ((t.kids.getD k default).kids.flatMap aC) (t.kids.getD k default).kids.length, .sl ((t.kids.getD k default).rest.flatMap aC) (t.kids.getD k default).rest.length], .dead, .arr true 1 (ints p ++ [.i .i64 (k : Int)])]) (by simp only [aH, aQ, bD]; omega) (ho2.more _)
     simp only [ints, aT, aU, bN, elT, bA, avt] at ci
     refine eO ci ?_
     rintro r h' ⟨rfl, out3, h3, rfl, ho3, hs4⟩
     refine zg ?_
     refine ⟨(k + 1, out3, h3), ⟨by dsimp only; omega, ?_, hs3.trans ((kS.app _ _).trans hs4)⟩, by dsimp only; omega, rfl, by simp⟩
     dsimp only
     rw [htl]
     rw [bT, bT, aAu, aH, aQ] at ho3
     exact ho3
   · have hki : ¬ (k : Int) < ((t.kids.length : Nat) : Int) := by omega
     have hkt : t.kids.take k = t.kids := aJ (by omega)
     rw [hkt] at ho2
     refine zh (zf hki) ?_
     exact ⟨rfl, out, h2, rfl, by simpa using ho2, hs2.trans hs3⟩
theorem bGc : ∀ t : LTerm, OkT t → ∀ (p : List Int) (l : List gD) (out : AV) (g : List AObj), p.length + highT t ≤ 1000 → l.length + (cM t p).length ≤ 1000000 → eP 10 1 g out (l.flatMap aS) l.length → ACalls Tryz.prog G0 77 [.ptr 0 0, elT t, .sl (ints p) p.length] (.box false [out] :: g) (aAx (l ++ cM t p) g) :=
 dD (Q := fun t => OkT t → ∀ (p : List Int) (l : List gD) (out : AV) (g : List AObj), p.length + highT t ≤ 1000 → l.length + (cM t p).length ≤ 1000000 → eP 10 1 g out (l.flatMap aS) l.length → ACalls Tryz.prog G0 77 [.ptr 0 0, elT t, .sl (ints p) p.length] (.box false [out] :: g) (aAx (l ++ cM t p) g)) fun t hk _ ht p l out g hp hn ho => by
   have hH : ∀ (l : List LTerm) (k : Nat), k < l.length → highT (l.getD k default) ≤ highL l := by
     intro l
     induction l with
     | nil => intro k h; simp at h
     | cons x l ih =>
       intro k h
       rw [highL]
       cases k with
       | zero => simp only [hC]; omega
       | succ k => have := ih k (by simpa using h); simp only [aNv]; omega
   have e := tI t
   by_cases h57 : t.kind = 5 ∨ t.kind = 7
   · have hr := B5 (p := p) h57
     have ih : ∀ k, k < t.kids.length → ∀ (l : List gD) (out : AV) (g : List AObj), l.length + (cM (t.kids.getD k default) (p ++ [(k : Int)])).length ≤ 1000000 → eP 10 1 g out (l.flatMap aS) l.length → ACalls Tryz.prog G0 77 [.ptr 0 0, elT (t.kids.getD k default), .sl (ints (p ++ [(k : Int)])) (p.length + 1)] (.box false [out] :: g) (aAx (l ++ cM (t.kids.getD k default) (p ++ [(k : Int)])) g) := fun k h l out g hn ho => by
       have h1 := hH t.kids k h
       have := hk _ (bB (d := default) h) (ht.kid _ (bB (d := default) h)) (p ++ [(k : Int)]) l out g (by simp only [aH, aQ, bD]; omega) hn ho
       rw [aH] at this
       exact this
     rcases h57 with h5 | h7
     · exact aHu t p l out g ht (by omega) (by omega) ho h5 ih
     · by_cases hrest : 0 < t.rest.length
       · exact aEv t p l out g ht (by omega) (by omega) ho h7 hrest ih
       · exact aEu t p l out g ht (by omega) (by omega) ho h7 hrest ih
   · exact aOr t p l out g ht (by omega) (by omega) ho (fun h => h57 (.inl h)) (fun h => h57 (.inr h))
theorem T2 (t : LTerm) (ht : OkT t) (hp : highT t ≤ 1000) (hn : (cM t []).length ≤ 1000000): CT 43 [elT t] (ava (cM t [])) := by
 refine aF mixed Tryz.func43 g0 ?_
 · skip
   have c := bGc t ht [] [] .e0 [] (by simpa using hp) (by simpa using hn) kY
   simp only [ints, bN, elT, bA, avt, cS, bD] at c
   refine tW 2 rfl ?_
   refine zg ?_
   refine eO (Vo.frame (is := [1]) g0 c (by simp) rfl ?_ ?_) ?_
   · intro i o ho
     cases i with
     | zero => simp only [cL, aA] at ho; subst ho; rfl
     | succ i => simp at ho
   · simp only [renL, ren, renL_pers _ _ lQ, emb]; rfl
   · rintro r' h' ⟨r0, h1, ⟨rfl, out', g', rfl, ho', _⟩, _, rfl, rfl⟩
     rcases ho' with ⟨rfl, e1, e2⟩ | ⟨q, rfl, hi, hil⟩
     · simp only [qX, aU, jX, aQ, bD, bX, fD, dG, AObj.ren, renL, ren]
       refine zg ?_
       rw [ava, e1, e2]
       exact S2 (pre := []) (sz := 10) (.inl ⟨rfl, rfl, rfl⟩) rfl
     · simp only [qX, aU, jX, aQ, bD, bX, fD, dG, AObj.ren, renL, ren]
       refine zg ?_
       exact S2 (pre := [_, _]) (sz := 10) (.inr ⟨q, by simp [emb]; omega, by rw [dO, hi]; simp [AObj.ren, renL_pers _ _ xV], hil⟩) xV
theorem aVr (s : cC) (t : LTerm) (hm : Small s) (hs : OkS s) (ht : OkT t): CT 13 [.agg (aN s), elT t] (zE (nM s t)) := by
 refine bM mixed Tryz.func13 g0 ?_
 · simp -implicitDefEqProofs (disch := omega) only [Tryz.f13, go_sem, List.replicate, simprocAttr, zE]
   have c1 := T3 s t hm hs ht
   rcases eQ (wM s t) with h | h
   · have hv := lJ h
     have hv2 := hv
     simp only [eS, aB, decide_eq_true_eq] at hv2
     have c2 := T2 t ht (by omega) (dT (nL t []) (by omega))
     have c3 := bHu t ht
     rw [h] at c1
     (refine zy3 @ava.eq_1 c1 c2 c3 ?_; repeat' first | exact trivial | refine zJ ?_ ?_ | refine zH fun hc => ?_)
     all_goals exact aE (by rw [nM, if_pos h]) (by simp [pers, persL, ava, xV, mat])
   · rw [h] at c1
     (refine zt1 c1 ?_; repeat' first | exact trivial | refine zJ ?_ ?_ | refine zH fun hc => ?_)
     all_goals exact .inr ⟨by rw [nM, if_neg (by rw [h]; simp)]; exact ⟨rfl, rfl, trivial⟩, dC, fun i hi => absurd hi (by show ¬ i ∈ []; simp)⟩

def rP (s : cC) (x : LTest) (so : Bool) : Bool :=
 if x.op = 1 then decide (1 ≤ x.term.kind) && (decide (x.term.kind ≤ 4) && (eS cB x.term && (decide (x.text = []) && decide (x.n = 0))))
 else if x.op = 2 then decide (x.term = zT) && (C3 x.text && (decide (0 ≤ x.n) && decide (x.n ≤ 8)))
 else if x.op = 3 ∨ x.op = 4 then decide (x.term = zT) && (decide (x.text = []) && (decide (0 ≤ x.n) && decide (x.n ≤ 2000)))
 else if x.op = 5 ∨ x.op = 7 then decide (x.term = zT) && (decide (x.text = []) && decide (x.n = 0))
 else if x.op = 6 then decide (x.term = zT) && (decide (x.n = 0) && (!so || existsA s x.text))
 else false
theorem bDi (t : LTerm) (ht : OkT t) : CT 154 [elT t, .agg [.i .i64 0, .i .i64 0, .s [], .s [], .sl [] 0, .sl [] 0]] (.b (decide (t = zT))) := aWe t zT ht V9
structure OkX (x : LTest) : Prop where
 term : OkT x.term
 text : x.text.length ≤ 140737488355328
theorem bGa (s : cC) (x : LTest) (so : Bool) (hx : OkX x): CT 98 [cN s, .agg (dM x), .b so] (.b (rP s x so)) := by
 refine bM mixed Tryz.func98 g0 ?_
 · simp -implicitDefEqProofs (disch := omega) only [Tryz.f98, go_sem, List.replicate, simprocAttr, dM, avt]
   have c1 := bDi x.term hx.term
   have c2 := aMa x.term hx.term
   have c3 := aVz x.text hx.text
   have c4 := I2 s x.text
   (refine zt4 c1 c2 c3 c4 ?_; repeat' first | exact trivial | refine zJ ?_ ?_ | refine zH fun hc => ?_)
   all_goals clear c1 c2 c3 c4
   all_goals exact aE (by (simp_all [rP, List.length_eq_zero_iff]) <;> (intros; omega)) rfl
def aKm (s : cC) (x : LTest) (t : LTerm) : Bool :=
 if x.op = 1 then decide (x.term = t)
 else if x.op = 2 then decide (t.kind = 5) && (decide (t.text = x.text) && decide ((t.kids.length : Int) = x.n))
 else if x.op = 3 then decide (t.kind = 7) && decide ((t.kids.length : Int) = x.n)
 else if x.op = 4 then decide (t.kind = 7) && decide (x.n ≤ (t.kids.length : Int))
 else if x.op = 5 then decide (t.kind = 8)
 else if x.op = 7 then decide (t.kind = 8) && decide (t.kids.length = 0)
 else iN s (jS s t) x.text
theorem bFy (s : cC) (x : LTest) (t : LTerm) (hs : Small s) (hx : OkX x) (ht : OkT t): CT 101 [cN s, .agg (dM x), elT t] (.b (aKm s x t)) := by
 refine bM mixed Tryz.func101 g0 ?_
 · simp -implicitDefEqProofs (disch := omega) only [Tryz.f101, go_sem, List.replicate, simprocAttr, dM, avt]
   have c1 := aWe x.term t hx.term ht
   have c2 := aLz s t
   have c3 := aRv s (jS s t) x.text hs
   (refine zt3 c1 c2 c3 ?_; repeat' first | exact trivial | refine zJ ?_ ?_ | refine zH fun hc => ?_)
   all_goals clear c1 c2 c3
   all_goals exact aE (by (simp_all [aKm]) <;> (intros; omega)) rfl
def sD : LTerm → List Int → Option LTerm
 | t, [] => some t
 | t, i :: p => if 0 ≤ i ∧ i < (t.kids.length : Int) then sD (t.kids.getD i.toNat default) p else none
def kN (s : cC) (a : gD) (t : LTerm) : Bool := match sD t a.path with
 | some u => aKm s a.test u
 | none => false

theorem aOj {p : List Int} : ∀ {t u : LTerm}, OkT t → sD t p = some u → OkT u := by
 induction p with
 | nil => intro t u h e; simp only [sD, aA] at e; exact e ▸ h
 | cons i p ih =>
   intro t u h e
   rw [sD] at e
   split at e
   · exact ih (h.kid _ (bB (by omega))) e
   · cases e
theorem aVn (s : cC) (a : gD) (t : LTerm) (hs : Small s) (hx : OkX a.test) (hp : a.path.length ≤ 1000000) (ht : OkT t): CT 51 [cN s, .agg (aS a), elT t] (.b (kN s a t)) := by
 refine bM mixed Tryz.func51 g0 ?_
 · simp -implicitDefEqProofs (disch := omega) only [Tryz.f51, go_sem, List.replicate, simprocAttr, aS, avt]
   (refine zs0 ?_; repeat' first | exact trivial | refine zJ ?_ ?_ | refine zH fun hc => ?_)
   refine bP (fun (s : Nat × LTerm) => [.k, .k, .k, .k, .k, .k, .j, .k, .j, .k, .k, .k, .v (.i .i64 (s.1 : Nat)), .j, .j, .j, .j, .j, .j, .j, .j, .j, .j, .j, .j, .j, .j, .j, .j, .j, .j, .k, .k, .k, .k, .k]) (fun s => [.box false (aS a), .box false [.i .i64 (s.2).kind, .i .i64 (s.2).n, .s (s.2).text, .s (s.2).sort, .sl ((s.2).kids.flatMap aC) (s.2).kids.length, .sl ((s.2).rest.flatMap aC) (s.2).rest.length]]) (fun s => s.1 ≤ a.path.length ∧ OkT s.2 ∧ sD t a.path = sD s.2 (a.path.drop s.1)) (fun s => a.path.length - s.1) ((0, t)) ⟨aG _, ht, rfl⟩ rfl (by simp [eN]) ?_
   rintro ⟨k, u⟩ j ⟨hk, hu, hw⟩
   dsimp only at hk hu hw
   have hku := hu.kids
   by_cases hlt : k < a.path.length
   · have hki : (k : Int) < ((a.path.length : Nat) : Int) := by omega
     have hd : a.path.drop k = a.path.getD k 0 :: a.path.drop (k + 1) := by
       rw [bO hlt]; simp [List.getD, hlt]
     rw [hd, sD] at hw
     refine zh (zA2 (zt hki) @aS.eq_1) ?_
     (refine zx0 (zA2 (zt hki) @aS.eq_1) ?_; repeat' first | exact trivial | refine zJ ?_ ?_ | refine zH fun hc => ?_)
     · rw [if_neg (by omega)] at hw
       exact aE (by rw [kN, hw]) rfl
     · have hi : 0 ≤ a.path.getD k 0 ∧ a.path.getD k 0 < (u.kids.length : Int) := by omega
       rw [if_pos hi] at hw
       exact ⟨(k + 1, u.kids.getD (a.path.getD k 0).toNat default), ⟨by dsimp only; omega, hu.kid _ (bB (by omega)), hw⟩, by dsimp only; omega, rfl, by simp⟩
     · rw [if_neg (by omega)] at hw
       exact aE (by rw [kN, hw]) rfl
   · have hki : ¬ (k : Int) < ((a.path.length : Nat) : Int) := by omega
     rw [bF (by omega), sD] at hw
     have c := bFy s a.test u hs hx hu
     simp only [dM, avt] at c
     refine zh (zA2 (zf hki) @aS.eq_1) ?_
     (refine zy1 (zA2 (zf hki) @aS.eq_1) c ?_; repeat' first | exact trivial | refine zJ ?_ ?_ | refine zH fun hc => ?_)
     exact aE (by rw [kN, hw]) rfl
def rX (i : Int) : Bool := decide (i < 0) || decide (2000 < i)
theorem bJm (i : Int): CT 97 [.i .i64 i] (.b (rX i)) := by
 refine aF mixed Tryz.func97 g0 ?_
 · skip
   (refine zs0 ?_; repeat' first | exact trivial | refine zJ ?_ ?_ | refine zH fun hc => ?_)
   all_goals exact aE (by (simp_all [rX]) <;> (intros; omega)) rfl
theorem bEl (l : List Int) (hl : l.length ≤ 1000000): CT 153 [.sl (ints l) l.length, .fn 97 [] []] (.i .i64 (idx rX l)) := by
 refine aF mixed Tryz.func153 g0 ?_
 · skip
   (refine zs0 ?_; repeat' first | exact trivial | refine zJ ?_ ?_ | refine zH fun hc => ?_)
   refine bP (fun (k : Nat) => [.k, .k, .k, .k, .j, .j, .k, .k, .v (.i .i64 (k : Nat)), .j, .j, .j, .j, .j, .j, .j, .j, .j, .j]) (fun k => []) (fun k => k ≤ l.length ∧ ∀ j, j < k → rX (l.getD j 0) = false) (fun k => l.length - k) (0) ⟨aG _, fun j h => by omega⟩ rfl (by simp [eN]) ?_
   rintro k j ⟨hk, hn⟩
   have c := bJm (l.getD k 0)
   refine zg ?_
   (refine zt1 c ?_; repeat' first | exact trivial | refine zJ ?_ ?_ | refine zH fun hc => ?_)
   · refine aE ?_ (by rfl)
     rw [mP (d := 0) (k := k) (by omega) hc hn]
   · exact ⟨k + 1, ⟨by omega, kD hn hc⟩, by omega, rfl⟩
   · refine aE ?_ (by rfl)
     rw [mQ (fun j hj => hn j (by omega))]
theorem bFc (l : List Int) (hl : l.length ≤ 1000000): CT 96 [.sl (ints l) l.length, .fn 97 [] []] (.b (l.any rX)) := by
 refine aF mixed Tryz.func96 g0 ?_
 · skip
   (refine zt1 (bEl l hl) ?_; repeat' first | exact trivial | refine zJ ?_ ?_ | refine zH fun hc => ?_)
   all_goals exact aE (by rw [pY]) rfl
def pX (s : cC) (a : gD) : Bool := decide (a.path.length ≤ 60) && (!a.path.any rX && rP s a.test true)
structure OkK (a : gD) : Prop where
 test : OkX a.test
 path : a.path.length ≤ 1000000
theorem T1 (s : cC) (a : gD) (ha : OkK a): CT 49 [cN s, .agg (aS a)] (.b (pX s a)) := by
 refine bM mixed Tryz.func49 g0 ?_
 · simp -implicitDefEqProofs (disch := omega) only [Tryz.f49, go_sem, List.replicate, simprocAttr, aS, avt]
   have c1 := bFc a.path ha.path
   have c2 := bGa s a.test true ha.test
   simp only [dM, avt] at c2
   rw [pX]
   generalize a.path.any rX = A at *
   generalize rP s a.test true = B at *
   (refine zt2 c1 c2 ?_; repeat' first | exact trivial | refine zJ ?_ ?_ | refine zH fun hc => ?_)
   all_goals clear c1 c2
   all_goals exact aE (by (simp_all) <;> (intros; omega)) rfl
def yH (s : cC) (a : gD) (t : LTerm) : Bool × Int := if (cU s && (pX s a && kK s t)) = true then (kN s a t, 0) else (false, 2)
def yY (r : Bool × Int) : AV := .tup [.b r.1, .i .i64 r.2]
theorem aVq (s : cC) (a : gD) (t : LTerm) (hm : Small s) (hs : OkS s) (ha : OkK a) (ht : OkT t): CT 15 [.agg (aN s), .agg (aS a), elT t] (yY (yH s a t)) := by
 refine bM mixed Tryz.func15 g0 ?_
 · simp -implicitDefEqProofs (disch := omega) only [Tryz.f15, go_sem, List.replicate, simprocAttr, yY, aS, avt]
   have c1 := aMd s hm hs
   have c3 := T1 s a ha
   have c4 := aMb s t hm ht
   have c5 := aVn s a t hm ha.test ha.path ht
   simp only [aS, avt] at c3 c5
   rw [yH]
   rcases eQ (cU s) with h | h
   · have c2 := aGi s hm (iQ h)
     rw [h] at c1
     (repeat' (first | refine gT ?_ ?_ | refine gF ?_ ?_ | refine gC ?_ ?_ | ((first | (refine aW (c1) ?_ ?_; (focus (simp -implicitDefEqProofs (disch := omega) only [zdB, go_sem, simprocAttr]; done))) | (refine aW (c2) ?_ ?_; (focus (simp -implicitDefEqProofs (disch := omega) only [zdB, go_sem, simprocAttr]; done))) | (refine aW (c3) ?_ ?_; (focus (simp -implicitDefEqProofs (disch := omega) only [zdB, go_sem, simprocAttr]; done))) | (refine aW (c4) ?_ ?_; (focus (simp -implicitDefEqProofs (disch := omega) only [zdB, go_sem, simprocAttr]; done))) | (refine aW (c5) ?_ ?_; (focus (simp -implicitDefEqProofs (disch := omega) only [zdB, go_sem, simprocAttr]; done)))); simp -implicitDefEqProofs (disch := omega) only [go_sem, simprocAttr]) | refine aV (by omega) ?_ | (intro hr; have hc := hr; (try simp only [zdz] at hc); simp -implicitDefEqProofs (disch := omega) only [hr, go_sem, simprocAttr]; (try clear hr))))
     all_goals clear c1 c2 c3 c4 c5
     all_goals exact aE (by simp_all) rfl
   · rw [h] at c1
     (refine zt1 c1 ?_; repeat' first | exact trivial | refine zJ ?_ ?_ | refine zH fun hc => ?_)
     all_goals exact aE (by rw [h]; rfl) rfl

@[simp] theorem bCj : nodesL [] = 0 := rfl
@[simp] theorem bEp : highL [] = 0 := rfl

def pQ (t : LTerm) (i : Int) : Bool := decide (0 ≤ i) && decide (i < t.kids.length)
def kidAt (t : LTerm) (i : Int) : LTerm := t.kids.getD i.toNat default
def qW : LTerm → List Int → LTerm
 | t, [] => t
 | t, i :: p => if pQ t i then qW (kidAt t i) p else t
def W0 : LTerm → List Int → Bool
 | _, [] => true
 | t, i :: p => pQ t i && W0 (kidAt t i) p
theorem drop_at {p : List Int} {k : Nat} (h : k < p.length) : p.drop k = p.getD k 0 :: p.drop (k + 1) := by
 rw [bO h]; simp [List.getD, h]
def wD (p : List Int) : Prop := p.length ≤ 140737488355328 ∧ ∀ i ∈ p, -9223372036854775808 ≤ i ∧ i ≤ 9223372036854775807
theorem wD.at {p : List Int} (h : wD p) {k : Nat} (hk : k < p.length) : -9223372036854775808 ≤ p.getD k 0 ∧ p.getD k 0 ≤ 9223372036854775807 := h.2 _ (bB hk)
theorem OkT.kidAt {t : LTerm} (h : OkT t) {i : Int} (hi : pQ t i = true) : OkT (kidAt t i) := by
 simp only [pQ, aB, decide_eq_true_eq] at hi
 exact h.kid _ (bB (by omega))
def aPl (t : LTerm) (b : Bool) : AV := .tup [elT t, .b b]
theorem aLf {H : List AObj} {t : LTerm} {v4 v5 : AV} {c : Bool} (r4 : Rd6 H v4 t.kids) (r5 : Rd6 H v5 t.rest) : Fin H (.tup [.agg [.i .i64 t.kind, .i .i64 t.n, .s t.text, .s t.sort, v4, v5], .b c]) (aPl t c) := by
 have e4 := xR r4
 have e5 := xR r5
 have hn : bS (.tup [.agg [.i .i64 t.kind, .i .i64 t.n, .s t.text, .s t.sort, v4, v5], .b c]) (aPl t c) = [] := by
   simp only [aPl, elT, bS, finIdsL, bA, e4.2, e5.2, List.append_nil]
 refine .inr ⟨?_, ?_, ?_⟩
 · rw [aPl, elT, bA]; exact ⟨⟨rfl, rfl, rfl, rfl, e4.1, e5.1, trivial⟩, rfl, trivial⟩
 · rw [hn]; exact dC
 · rw [hn]; simp
theorem bAj {H : List AObj} {t u : LTerm} {b c : Bool} (h : t = u) (hb : b = c) : Fin H (.tup [.agg [.i .i64 u.kind, .i .i64 u.n, .s u.text, .s u.sort, .sl (u.kids.flatMap aC) u.kids.length, .sl (u.rest.flatMap aC) u.rest.length], .b c]) (aPl t b) := by
 subst h hb
 exact aLf aBn aBn
theorem bGw (t : LTerm) (p : List Int) (ht : OkT t) (hp : wD p): CT 174 [elT t, avi p] (aPl (if W0 t p then qW t p else tZ) (W0 t p)) := by
 refine bM mixed Tryz.func174 g0 ?_
 · generalize hR : ((aPl (if W0 t p then qW t p else tZ) (W0 t p)) : AV) = R
   simp -implicitDefEqProofs (disch := omega) only [Tryz.f174, go_sem, List.replicate, simprocAttr, avi]
   (refine zs0 ?_; repeat' first | exact trivial | refine zJ ?_ ?_ | refine zH fun hc => ?_)
   refine bP (fun (s : Nat × LTerm) => [.k, .k, .k, .k, .k, .j, .k, .j, .k, .k, .v (.i .i64 (s.1 : Nat)), .j, .j, .j, .j, .j, .j, .j, .j, .j, .j, .j, .j, .j, .j, .j, .j, .j, .j, .j, .k]) (fun s => [.box false [.i .i64 (s.2).kind, .i .i64 (s.2).n, .s (s.2).text, .s (s.2).sort, .sl ((s.2).kids.flatMap aC) (s.2).kids.length, .sl ((s.2).rest.flatMap aC) (s.2).rest.length], .box false [.i .i64 0, .i .i64 0, .s [], .s [], .e0, .e0]]) (fun s => (s.1 ≤ p.length ∧ OkT s.2) ∧ qW t p = qW s.2 (p.drop s.1) ∧ W0 t p = W0 s.2 (p.drop s.1)) (fun s => p.length - s.1) ((0, t)) ⟨⟨aG _, ht⟩, rfl, rfl⟩ rfl (by simp [eN]) ?_
   rintro ⟨k, u⟩ j ⟨⟨hk, hu⟩, h1, h2⟩
   dsimp only at hk hu h1 h2
   have hq := hp.1
   have hb := fun h => hp.at (k := k) h
   have hl := hu.kids
   refine zg ?_
   (refine zs0 ?_; repeat' first | exact trivial | refine zJ ?_ ?_ | refine zH fun hc => ?_)
   · have hn : pQ u (p.getD k 0) = false := by simp only [pQ, gJ, decide_eq_false_iff_not]; omega
     rw [drop_at (by omega)] at h1 h2
     rw [qW, if_neg (by rw [hn]; simp)] at h1
     rw [W0, hn, Bool.false_and] at h2
     subst hR
     (rw [h2, if_neg (by simp)]; exact aLf (t := tZ) vO vO)
   · have hn : pQ u (p.getD k 0) = true := by simp only [pQ, aB, decide_eq_true_eq]; omega
     rw [drop_at (by omega)] at h1 h2
     rw [qW, if_pos hn] at h1
     rw [W0, hn, Bool.true_and] at h2
     exact ⟨(k + 1, kidAt u (p.getD k 0)), ⟨⟨by dsimp only; omega, hu.kidAt hn⟩, h1, h2⟩, by dsimp only; omega, rfl, by simp⟩
   · have hn : pQ u (p.getD k 0) = false := by simp only [pQ, gJ, decide_eq_false_iff_not]; omega
     rw [drop_at (by omega)] at h1 h2
     rw [qW, if_neg (by rw [hn]; simp)] at h1
     rw [W0, hn, Bool.false_and] at h2
     subst hR
     (rw [h2, if_neg (by simp)]; exact aLf (t := tZ) vO vO)
   · rw [bF (by omega)] at h1 h2
     rw [qW] at h1
     rw [W0] at h2
     subst hR
     exact bAj (by first | exact h1 | (rw [h2]; exact h1)) h2
def atV (t : LTerm) (p : List Int) : Res := if eS cB t then (if W0 t p then (qW t p, 0) else (tZ, 4)) else (tZ, 2)
theorem bGz (t : LTerm) (p : List Int) (ht : OkT t) (hp : wD p): CT 109 [elT t, avi p] (aYb (atV t p)) := by
 refine bM mixed Tryz.func109 g0 ?_
 · generalize hR : ((aYb (atV t p)) : AV) = R
   simp -implicitDefEqProofs (disch := omega) only [Tryz.f109, go_sem, List.replicate, simprocAttr, avi]
   have c := aDf t ht
   have c1 := bGw t p ht hp
   cases hv : eS cB t with
   | false =>
     rw [hv] at c
     (refine zt1 c ?_; repeat' first | exact trivial | refine zJ ?_ ?_ | refine zH fun hc => ?_)
     subst hR
     exact aLh (by rw [atV, hv]; rfl) vO vO
   | true =>
     rw [hv] at c
     cases ha : W0 t p with
     | false =>
       rw [ha, if_neg (by simp)] at c1
       (refine zy2 @aPl.eq_1 c c1 ?_; repeat' first | exact trivial | refine zJ ?_ ?_ | refine zH fun hc => ?_)
       subst hR
       exact aLh (by rw [atV, hv, ha]; rfl) vO vO
     | true =>
       rw [ha, if_pos rfl] at c1
       (refine zy2 @aPl.eq_1 c c1 ?_; repeat' first | exact trivial | refine zJ ?_ ?_ | refine zH fun hc => ?_)
       subst hR
       have he : atV t p = (qW t p, 0) := by rw [atV, hv, ha]; rfl
       exact aRm he

theorem aXv (t : LTerm) (ht : OkT t) : CT 74 [elT t, .agg [.i .i64 0, .i .i64 0, .s [], .s [], .sl [] 0, .sl [] 0]] (.b (decide (t = zT))) := aDk t zT ht V9
def F2 (t : LTerm) : Bool := decide (t.kind = 1) || (decide (t.kind = 2) || (decide (t.kind = 3) || decide (t.kind = 4)))
theorem bFp (t : LTerm): CT 170 [elT t] (.b (F2 t)) := by
 refine aF mixed Tryz.func170 g0 ?_
 · skip
   (refine zs0 ?_; repeat' first | exact trivial | refine zJ ?_ ?_ | refine zH fun hc => ?_)
   all_goals exact aE (by simp_all [F2]) rfl
theorem bFx (s : cC) (x : LTest) (hm : Small s) (hs : OkS s) (hv : cU s = true) (hx : OkX x): CT 107 [.agg (aN s), .agg (dM x)] (.b (rP s x true)) := by
 refine bM mixed Tryz.func107 g0 ?_
 · simp -implicitDefEqProofs (disch := omega) only [Tryz.f107, go_sem, List.replicate, simprocAttr, dM, avt]
   have c1 := aXv x.term hx.term
   have c2 := aDf x.term hx.term
   have c3 := aMe x.text hx.text
   have c4 := bSf s x.text hm hs
   have h0 : oI s [] = 0 := aUi hv rfl
   have c5 := bFp x.term
   rw [h0] at c4
   have e : rP s x true = (if (¬ x.op = 1 ∧ ¬ x.term = zT) ∨ (¬ x.op = 2 ∧ ¬ x.op = 6 ∧ ¬ x.text.length = 0) then false
     else if x.op = 1 then decide (x.n = 0) && (F2 x.term && eS cB x.term)
     else if x.op = 2 then cY (mJ x.text) && (decide (0 ≤ x.n) && decide (x.n ≤ 8))
     else if x.op = 3 ∨ x.op = 4 then decide (0 ≤ x.n) && decide (x.n ≤ 2000)
     else if x.op = 5 ∨ x.op = 7 then decide (x.n = 0)
     else if x.op = 6 then decide (x.n = 0) && existsA s x.text
     else false) := by
     unfold rP F2 C3
     by_cases h1 : x.op = 1
     · have hk : (decide (1 ≤ x.term.kind) && decide (x.term.kind ≤ 4)) = (decide (x.term.kind = 1) || (decide (x.term.kind = 2) || (decide (x.term.kind = 3) || decide (x.term.kind = 4)))) := by
         rw [← Bool.decide_and, ← Bool.decide_or, ← Bool.decide_or, ← Bool.decide_or]
         exact decide_eq_decide.2 (by omega)
       simp only [h1, if_true, ← hk]
       generalize decide (1 ≤ x.term.kind) = A
       generalize decide (x.term.kind ≤ 4) = B
       generalize eS cB x.term = C
       by_cases ht : x.text = [] <;> by_cases hn : x.n = 0 <;> simp [ht, hn, List.length_eq_zero_iff, jZ]
     · generalize eS cB x.term = C
       by_cases ht : x.text = [] <;> by_cases hz : x.term = zT <;> simp [h1, ht, hz, List.length_eq_zero_iff]
       all_goals (by_cases h2 : x.op = 2 <;> by_cases h6 : x.op = 6 <;> simp_all)
   rw [e]
   clear e
   by_cases h1 : x.op = 1
   · have g2 : ¬ x.op = 2 := by omega
     have g6 : ¬ x.op = 6 := by omega
     refine zh (zA2 (zt h1) (zA2 (zf g2) (zf g6))) ?_
     (refine zy2 (zA2 (zt h1) (zA2 (zf g2) (zf g6))) c2 c5 ?_; repeat' first | exact trivial | refine zJ ?_ ?_ | refine zH fun hc => ?_)
     all_goals clear c1 c2 c3 c4 c5
     all_goals (refine aE ?_ rfl)
     all_goals simp_all
   · by_cases h2 : x.op = 2
     · refine zh (zA2 (zf h1) (zt h2)) ?_
       (refine zy2 (zA2 (zf h1) (zt h2)) c1 c3 ?_; repeat' first | exact trivial | refine zJ ?_ ?_ | refine zH fun hc => ?_)
       all_goals clear c1 c2 c3 c4 c5
       all_goals (refine aE ?_ rfl)
       all_goals simp_all
     · by_cases h6 : x.op = 6
       · have g3 : ¬ x.op = 3 := by omega
         have g4 : ¬ x.op = 4 := by omega
         have g5 : ¬ x.op = 5 := by omega
         have g7 : ¬ x.op = 7 := by omega
         refine zh (zA2 (zf h1) (zA2 (zf h2) (zA2 (zt h6) (zA2 (zf g3) (zA2 (zf g4) (zA2 (zf g5) (zf g7))))))) ?_
         (refine zy2 (zA2 (zf h1) (zA2 (zf h2) (zA2 (zt h6) (zA2 (zf g3) (zA2 (zf g4) (zA2 (zf g5) (zf g7))))))) c1 c4 ?_; repeat' first | exact trivial | refine zJ ?_ ?_ | refine zH fun hc => ?_)
         all_goals clear c1 c2 c3 c4 c5
         all_goals (refine aE ?_ rfl)
         all_goals simp_all
       · refine zh (zA2 (zf h1) (zA2 (zf h2) (zf h6))) ?_
         (refine zy1 (zA2 (zf h1) (zA2 (zf h2) (zf h6))) c1 ?_; repeat' first | exact trivial | refine zJ ?_ ?_ | refine zH fun hc => ?_)
         all_goals clear c1 c2 c3 c4 c5
         all_goals (refine aE ?_ rfl)
         all_goals simp_all
theorem M3 (s : cC) (t : LTerm) (x : Str) (hm : Small s) (hs : OkS s) (hv : cU s = true) (hz : 1 ≤ t.kind ∧ t.kind ≤ 8) (hp : jF s t = true): CT 175 [.agg (aN s), elT t, .s x] (.b (iN s (jS s t) x)) := by
 refine aF mixed Tryz.func175 g0 ?_
 · skip
   obtain ⟨q1, q2⟩ := B7 hv hz hp
   (refine zy2 @q1 (aDi s t hs) (aRu s (jS s t) x hm) ?_; repeat' first | exact trivial | refine zJ ?_ ?_ | refine zH fun hc => ?_)
   all_goals exact aE (by rw [wL q2]) rfl
theorem bFw (s : cC) (x : LTest) (t : LTerm) (hm : Small s) (hs : OkS s) (hv : cU s = true) (hx : OkX x) (ht : OkT t) (hk : 1 ≤ t.kind ∧ t.kind ≤ 8) (hp : jF s t = true): CT 110 [.agg (aN s), .agg (dM x), elT t] (.b (aKm s x t)) := by
 refine bM mixed Tryz.func110 g0 ?_
 · simp -implicitDefEqProofs (disch := omega) only [Tryz.f110, go_sem, List.replicate, simprocAttr, dM, avt]
   have c1 := aDk x.term t hx.term ht
   have c2 : CT 175 [.agg (aN s), elT t, .s x.text] (.b (iN s (jS s t) x.text)) := M3 s t x.text hm hs hv hk hp
   (refine zt2 c1 c2 ?_; repeat' first | exact trivial | refine zJ ?_ ?_ | refine zH fun hc => ?_)
   all_goals clear c1 c2
   all_goals exact aE (by (simp_all [aKm]) <;> (intros; omega)) rfl
theorem aXc {p : List Int} : ∀ {t : LTerm}, sD t p = if W0 t p = true then some (qW t p) else none := by
 induction p with
 | nil => intro t; rfl
 | cons i p ih =>
   intro t
   rw [sD, W0, qW, pQ]
   by_cases h : 0 ≤ i ∧ i < (t.kids.length : Int)
   · rw [if_pos h, ih, zt h.1, zt h.2]; rfl
   · rw [if_neg h]
     have : (decide (0 ≤ i) && decide (i < (t.kids.length : Int))) = false := by rw [← Bool.decide_and]; exact zf h
     rw [this]; rfl
theorem aEi {s : cC} {p : List Int} : ∀ {t u : LTerm}, wfT cB t = true → jF s t = true → sD t p = some u → wfT cB u = true ∧ jF s u = true := by
 induction p with
 | nil => intro t u h1 h2 e; simp only [sD, aA] at e; exact e ▸ ⟨h1, h2⟩
 | cons i p ih =>
   intro t u h1 h2 e
   rw [sD] at e
   split at e
   · rw [pB] at h1
     rw [sW] at h2
     simp only [aB, aL] at h2
     have hm : t.kids.getD i.toNat default ∈ t.kids := bB (by omega)
     exact ih (h1.2 _ hm) (h2.1.2 _ hm) e
   · cases e
theorem aVm (s : cC) (a : gD) (t : LTerm) (hm : Small s) (hs : OkS s) (hv : cU s = true) (hx : OkX a.test) (hp : wD a.path) (ht : OkT t) (hpl : kK s t = true): CT 55 [.agg (aN s), .agg (aS a), elT t] (.b (kN s a t)) := by
 refine bM mixed Tryz.func55 g0 ?_
 · simp -implicitDefEqProofs (disch := omega) only [Tryz.f55, go_sem, List.replicate, simprocAttr, aS, avt]
   have hpv := hpl
   rw [kK, aB] at hpv
   have c1 := bGz t a.path ht hp
   have hw := aXc (t := t) (p := a.path)
   rw [atV, hpv.1, if_pos rfl] at c1
   simp only [avi] at c1
   cases ha : W0 t a.path with
   | false =>
     rw [ha, if_neg (by simp)] at hw
     rw [ha, if_neg (by simp)] at c1
     (refine zy1 @aYb.eq_1 c1 ?_; repeat' first | exact trivial | refine zJ ?_ ?_ | refine zH fun hc => ?_)
     all_goals exact aE (by rw [kN, hw]) rfl
   | true =>
     rw [ha, if_pos rfl] at hw
     rw [ha, if_pos rfl] at c1
     obtain ⟨q1, q2⟩ := aEi (E8 hpv.1) hpv.2 hw
     have z := aXb _ q1
     have hkk : 1 ≤ (qW t a.path).kind ∧ (qW t a.path).kind ≤ 8 := by cases z with | mk a _ _ => exact a.f
     have c2 := bFw s a.test (qW t a.path) hm hs hv hx (aOj ht hw) hkk q2
     simp only [dM, avt] at c2
     (refine zy2 @aYb.eq_1 c1 c2 ?_; repeat' first | exact trivial | refine zJ ?_ ?_ | refine zH fun hc => ?_)
     all_goals exact aE (by rw [kN, hw]) rfl
theorem aDz {l : List Int} {k : Nat} (hk : k < l.length) (h : rX (l.getD k 0) = true) : l.any rX = true := mW.2 ⟨_, bB hk, h⟩
theorem aTn {l : List Int} (h : ∀ j, j < l.length → rX (l.getD j 0) = false) : l.any rX = false := by
 rw [jC]
 intro x hx
 obtain ⟨j, hj, rfl⟩ := bL.1 hx
 have := h j hj
 simp [List.getD, hj] at this
 simp [this]
theorem bGk (s : cC) (a : gD) (hm : Small s) (hs : OkS s) (hv : cU s = true) (ha : OkK a): CT 53 [.agg (aN s), .agg (aS a)] (.b (pX s a)) := by
 refine bM mixed Tryz.func53 g0 ?_
 · simp -implicitDefEqProofs (disch := omega) only [Tryz.f53, go_sem, List.replicate, simprocAttr, aS, avt]
   have hp := ha.path
   have c1 := bFx s a.test hm hs hv ha.test
   simp only [dM, avt] at c1
   (refine zs0 ?_; repeat' first | exact trivial | refine zJ ?_ ?_ | refine zH fun hc => ?_)
   refine bP (fun (k : Nat) => [.k, .k, .k, .k, .j, .k, .j, .k, .k, .k, .v (.i .i64 (k : Nat)), .j, .j, .j, .j, .j, .j, .j, .j, .j, .j, .k, .k, .k, .k, .k, .k, .k, .k, .k, .k]) (fun k => [.box false (aN s), .box false (aS a)]) (fun k => k ≤ a.path.length ∧ ∀ j, j < k → rX (a.path.getD j 0) = false) (fun k => a.path.length - k) (0) ⟨aG _, fun j h => by omega⟩ rfl (by simp [eN]) ?_
   rintro k j ⟨hk, hn⟩
   refine zh (zA2 @aS.eq_1 @avt.eq_1) ?_
   (refine zy1 (zA2 @aS.eq_1 @avt.eq_1) c1 ?_; repeat' first | exact trivial | refine zJ ?_ ?_ | refine zH fun hc => ?_)
   all_goals clear c1
   · exact aE (by rw [pX, aDz (k := k) (by omega) (by rw [rX, zt hc, cR]), Bool.not_true, Bool.false_and, Bool.and_false]) rfl
   · exact ⟨k + 1, ⟨by omega, kD hn (by rw [rX, zf (by assumption), zf (by assumption)]; rfl)⟩, by omega, rfl⟩
   · exact aE (by rw [pX, aDz (k := k) (by omega) (by rw [rX, zt hc, cQ]), Bool.not_true, Bool.false_and, Bool.and_false]) rfl
   all_goals rw [pX, aTn (fun j hj => hn j (by omega))]
   all_goals exact aE (by (simp_all) <;> (intros; omega)) rfl
theorem bGq (s : cC) (a : gD) (t : LTerm) (hm : Small s) (hs : OkS s) (ha : OkK a) (hp : wD a.path) (ht : OkT t): CT 16 [.agg (aN s), .agg (aS a), elT t] (yY (yH s a t)) := by
 refine bM mixed Tryz.func16 g0 ?_
 · simp -implicitDefEqProofs (disch := omega) only [Tryz.f16, go_sem, List.replicate, simprocAttr, yY, aS, avt]
   have c1 := aMc s hm hs
   rw [yH]
   rcases eQ (cU s) with h | h
   · have c2 := bGk s a hm hs h ha
     have c3 := aWi s t hm hs ht
     simp only [aS, avt] at c2
     rw [h, Bool.true_and] at c3
     rw [h] at c1
     rcases eQ (kK s t) with h4 | h4
     · have c4 := aVm s a t hm hs h ha.test hp ht h4
       simp only [aS, avt] at c4
       rw [h4] at c3
       rw [h, h4, Bool.and_true, Bool.true_and]
       (refine zt4 c1 c2 c3 c4 ?_; repeat' first | exact trivial | refine zJ ?_ ?_ | refine zH fun hc => ?_)
       all_goals clear c1 c2 c3 c4
       all_goals exact aE (by simp_all) rfl
     · rw [h4] at c3
       rw [h, h4, Bool.and_false, Bool.and_false]
       (refine zt3 c1 c2 c3 ?_; repeat' first | exact trivial | refine zJ ?_ ?_ | refine zH fun hc => ?_)
       all_goals clear c1 c2 c3
       all_goals exact aE (by simp_all) rfl
   · rw [h] at c1
     (refine zt1 c1 ?_; repeat' first | exact trivial | refine zJ ?_ ?_ | refine zH fun hc => ?_)
     all_goals exact aE (by rw [h]; rfl) rfl

theorem bLr : (41 : Nat) ≠ 3 := by decide
theorem bSk {h : List AObj} : iB Tryz.prog h .cap #[41] [.e0] = some (.i .i64 0, h) := aMo bQe
theorem bOa {dr : Option DR} {d : Option Nat} {os : List fN} {K : List AV → List AObj → Prop} {env : List AV} {h : List AObj} {s x : Operand} : dJ Tryz.prog G0 dr (.call ⟨.builtin .append, #[s, x], #[41, 3]⟩) d os K env h = L9 Tryz.prog G0 dr (Tryz.prog.underlying 3) (oC Tryz.prog h 41 (aev G0 env s) (aev G0 env x)) d os K env := sV bLr
attribute [go_sem] bSk
attribute [go_sem ↓] bOa
theorem bFo (n : Nat) (hn : n ≤ 1000000): CT 221 [.e0, .i .i64 n] (.own 10 [] 0) := by
 refine aF mixed Tryz.func221 g0 ?_
 · skip
   (refine zs0 ?_; repeat' first | exact trivial | refine zJ ?_ ?_ | refine zH fun hc => ?_)
   · exfalso; omega
   · rw [if_pos (by omega), if_neg (by omega)]
     refine zg ?_
     refine ⟨by simp [List.length_flatten], ?_⟩
     exact .inr ⟨⟨rfl, rfl, _, rfl, by simp, by simp, rfl⟩, by simp [bS], by simp [bS, iA]⟩
   · exact .inr ⟨⟨rfl, rfl⟩, by simp [bS], by simp [bS]⟩
theorem Z3 {l : List (List gD)} {k : Nat} (h : k < l.length) : (l.map ava)[k]? = some (ava (l.getD k [])) := by simp [h]
attribute [go_sem] Z3 ava
def N3 (l : List (List gD)) : Nat := l.flatten.length
@[simp] theorem bKk : N3 [] = 0 := rfl
theorem xF {l : List (List gD)} {k : Nat} (h : k < l.length) : N3 (l.take (k + 1)) = N3 (l.take k) + (l.getD k []).length := by
 rw [eU (d := []) h]; simp [N3]
theorem aIa {l : List (List gD)} {k : Nat} : N3 (l.take k) ≤ N3 l := by
 have h : (l.take k ++ l.drop k).flatten.length = l.flatten.length := by rw [gI]
 unfold N3
 rw [jP, aH] at h
 omega
theorem aIb {l : List (List gD)} {k : Nat} (h : k < l.length) : N3 (l.take k) + (l.getD k []).length ≤ N3 l := by
 rw [← xF h]; exact aIa
theorem aLt (l : List (List gD)) (hl : l.length ≤ 1000) (hs : N3 l ≤ 1000000): CT 181 [.sl (l.map ava) l.length] (ava l.flatten) := by
 refine aF mixed Tryz.func181 g0 ?_
 · skip
   refine bP (fun (k : Nat) => [.k, .k, .k, .v (.i .i64 (N3 (l.take k) : Nat)), .k, .j, .k, .k, .k, .k, .k, .v (.i .i64 k), .j, .j, .j, .j, .j, .j, .j, .j, .j, .j, .j, .k, .k, .k, .k, .k, .k, .k, .k, .k, .k, .k, .k, .k]) (fun k => []) (fun k => k ≤ l.length) (fun k => l.length - k) (0) (aG _) rfl (by simp [eN]) ?_
   rintro k j hk
   have hat : k < l.length → N3 (l.take k) + (l.getD k []).length ≤ N3 l := aIb
   have hkk := aIa (l := l) (k := k)
   refine zg ?_
   (refine zs0 ?_; repeat' first | exact trivial | refine zJ ?_ ?_ | refine zH fun hc => ?_)
   · exfalso; omega
   · refine ⟨k + 1, by omega, by omega, ?_, by simp⟩
     rw [xF (by omega)]; simp
   · have h1 : k = l.length := by omega
     subst h1
     refine aMq (bFo (N3 l) (by omega)) (by simp -implicitDefEqProofs (disch := omega) only [aPb, go_sem, simprocAttr]) ?_
     refine zg ?_
     refine bP (fun (t : Nat × AV × List AObj) => [.k, .k, .k, .k, .k, .k, .v (t.2.1), .k, .j, .k, .k, .k, .k, .k, .k, .k, .k, .k, .k, .k, .k, .k, .k, .k, .k, .k, .k, .v (.i .i64 (t.1 : Nat)), .j, .j, .j, .j, .j, .j, .j, .k]) (fun t => t.2.2) (fun t => t.1 ≤ l.length ∧ eP 10 0 t.2.2 t.2.1 ((l.take t.1).flatten.flatMap aS) (N3 (l.take t.1))) (fun t => l.length - t.1) ((0, .hs 0 0 0 false, [.arr false 10 []])) ⟨aG _, .inr ⟨0, rfl, rfl, rfl⟩⟩ rfl (by simp [eN]) ?_
     rintro ⟨k, out, g⟩ j ⟨hk, ho⟩
     dsimp only at hk ho
     have hat : k < l.length → N3 (l.take k) + (l.getD k []).length ≤ N3 l := aIb
     refine zg ?_
     (refine zs0 ?_; repeat' first | exact trivial | refine zJ ?_ ?_ | refine zH fun hc => ?_)
     · refine eV (more := []) (pre := []) (news := (l.getD k []).flatMap aS) (m := (l.getD k []).length) ho rfl (by simp) bKp bKe bKh bKr rfl (by decide) (by simp -implicitDefEqProofs (disch := omega) only [go_sem, simprocAttr]) (by simp -implicitDefEqProofs (disch := omega) only [go_sem, simprocAttr]) ⟨by omega, by omega⟩ ?_
       intro out' g' ho' _
       refine zg ?_
       refine ⟨(k + 1, out', g'), ⟨by omega, ?_⟩, by simp; omega, rfl, by simp⟩
       dsimp only
       rw [xF (by omega), eU (d := []) (by omega), jP, fU]
       simpa using ho'
     · have h1 : k = l.length := by omega
       subst h1
       rw [iF] at ho
       exact S2 (pre := []) (sz := 10) ho xV
end Go.Proofs.YtifefbhllfdmlaaGreatDoor

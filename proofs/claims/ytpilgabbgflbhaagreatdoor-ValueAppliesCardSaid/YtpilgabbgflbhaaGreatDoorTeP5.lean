/-
  What functions of the chapter return, as plain functions of what they are given; no condition beyond those that each theorem names.
-/
import Derived.Test.YtpilgabbgflbhaaGreatDoorTeP4
import Derived.Test.YtpilgabbgflbhaaGreatDoorSoP2
set_option maxRecDepth 100000
set_option linter.unusedSimpArgs false
set_option linter.unusedVariables false
set_option maxHeartbeats 4000000
namespace Go.Proofs.YtpilgabbgflbhaaGreatDoor
open Go Go.Vo
open Nat (reduceAdd reduceSub reduceMul reduceLeDiff reduceLT reduceEqDiff)
open Int (reduceNeg)

theorem entR_y {k : LTerm} {es : List Ent} (h : hasK k es = true) : entR k es = ((2 * posK k es : Nat) : Int) := if_pos h
theorem entR_n {k : LTerm} {es : List Ent} (h : hasK k es = false) : entR k es = -1 := if_neg (by rw [h]; simp)
theorem toNat2 : Int.toNat 2 = 2 := rfl
theorem cells_len {l : List LTerm} : (l.flatMap termCells).length = l.length * 6 := Vo.flat_len (fun t => by rw [termCells_eq]; rfl) l
theorem takeC {l : List LTerm} {k : Nat} : (l.flatMap termCells).take (k * 6) = (l.take k).flatMap termCells := Vo.flat_take (fun t => by rw [termCells_eq]; rfl) l k
theorem rd_own {H : List AObj} {i n : Nat} {l : List LTerm} {rest : List AV} (h : H[i]? = some (.arr false 6 (l.flatMap termCells ++ rest))) (hn : n = l.length) : Rd6 H (.hs i 0 n false) l := by
 subst hn
 refine .inr (.inr ⟨i, 0, _, _, _, rfl, h, by rw [List.length_append, cells_len]; omega, ?_⟩)
 rw [List.drop_zero, ← cells_len, List.take_left']
 rfl
theorem d1 {n : Nat} : decide (0 ≤ (n : Int)) = true := by simp
theorem d2 : decide (0 ≤ (-1 : Int)) = false := by decide
theorem d3 {n : Nat} : decide ((n : Int) < 0) = false := by simp
theorem d4 : decide ((-1 : Int) < 0) = true := by decide
theorem ctr276size (x : Str) (m : LTerm) (es : List Ent) (hm : m.kids = flat es) (om : OkT m) (hx : x = nsize): CT 136 [.s x, avt [m]] (resV (tInt es.length, 0)) := by
 refine sem_introA mixed Tryz.func136 g0 ?_
 · generalize hR : ((resV (tInt es.length, 0)) : AV) = R
   simp -implicitDefEqProofs (disch := omega) only [Tryz.f136, go_sem, List.replicate, ↓reduceIte, reduceAdd, reduceSub, reduceMul, reduceLeDiff, reduceLT, reduceEqDiff, reduceNeg, Nat.reduceBEq, avt, List.flatMap_cons, List.flatMap_nil, termCells_eq, List.cons_append, List.nil_append, List.append_nil, List.length_cons, List.length_nil, Nat.reduceAdd]
   have hk1 := om.kids
   have hl : m.kids.length = 2 * es.length := by rw [hm, flat_len]
   have e2 := tdiv2 (n := es.length)
   rw [← hl] at e2
   simp -implicitDefEqProofs (disch := omega) only [zt hx, go_sem, ↓reduceIte, reduceAdd, reduceSub, reduceMul, reduceLeDiff, reduceLT, reduceEqDiff, reduceNeg, Nat.reduceBEq]
   (repeat' (first | refine gT ?_ ?_ | refine gF ?_ ?_ | refine gC ?_ ?_ | ((refine c_ctrE (ctr221 es.length) ?_ ?_; (focus (simp -implicitDefEqProofs (disch := omega) only [zt hx, e2, avs, avb, avi, avo, sigCells, opCells, pairCells, elT, avt, termCells_eq, go_sem, ↓reduceIte, reduceAdd, reduceSub, reduceMul, reduceLeDiff, reduceLT, reduceEqDiff, reduceNeg, Nat.reduceBEq]; done))); simp -implicitDefEqProofs (disch := omega) only [zt hx, e2, go_sem, ↓reduceIte, reduceAdd, reduceSub, reduceMul, reduceLeDiff, reduceLT, reduceEqDiff, reduceNeg, Nat.reduceBEq]) | refine And.intro (by omega) ?_ | (intro hr; have hc := hr; (try simp only [zda, zdb, zdc, zdd] at hc); simp -implicitDefEqProofs (disch := omega) only [hr, zt hx, e2, go_sem, ↓reduceIte, reduceAdd, reduceSub, reduceMul, reduceLeDiff, reduceLT, reduceEqDiff, reduceNeg, Nat.reduceBEq]; (try clear hr))))
   subst hR
   exact fin_res rfl (rd6_sl (l := [])) (rd6_sl (l := []))
theorem ctr276keys (x : Str) (m : LTerm) (es : List Ent) (hm : m.kids = flat es) (om : OkT m) (hx : x = nkeys): CT 136 [.s x, avt [m]] (resV (.mk 7 0 [] [] (es.map (·.1)) [], 0)) := by
 refine sem_introA mixed Tryz.func136 g0 ?_
 · generalize hR : ((resV (.mk 7 0 [] [] (es.map (·.1)) [], 0)) : AV) = R
   simp -implicitDefEqProofs (disch := omega) only [Tryz.f136, go_sem, List.replicate, ↓reduceIte, reduceAdd, reduceSub, reduceMul, reduceLeDiff, reduceLT, reduceEqDiff, reduceNeg, Nat.reduceBEq, avt, List.flatMap_cons, List.flatMap_nil, termCells_eq, List.cons_append, List.nil_append, List.append_nil, List.length_cons, List.length_nil, Nat.reduceAdd]
   have hk1 := om.kids
   have hl : m.kids.length = 2 * es.length := by rw [hm, flat_len]
   have n1 : ¬ x = nsize := by rw [hx]; decide
   simp -implicitDefEqProofs (disch := omega) only [zf n1, zt hx, go_sem, ↓reduceIte, reduceAdd, reduceSub, reduceMul, reduceLeDiff, reduceLT, reduceEqDiff, reduceNeg, Nat.reduceBEq]
   refine ⟨by omega, ?_⟩
   refine x_loopJ (fun (s : Nat × AV × List AObj) => [.k, .k, .k, .k, .k, .k, .k, .k, .v (.i .i64 ((2 * s.1 : Nat) : Int)), .k, .k, .k, .k, .k, .k, .k, .k, .k, .k, .k, .k, .k, .k, .k, .k, .j, .j, .j, .j, .j, .j, .j, .j, .j, .j, .j, .j, .j, .j, .j, .j, .j, .k, .k, .k, .k, .k, .k, .k, .k, .k, .k, .k, .k, .k, .k, .k, .k, .k, .k, .k, .k, .k, .k, .k, .k, .k, .k, .k, .k, .k, .k, .k, .k, .k, .k, .k, .k, .k, .k, .k, .k, .k, .k, .k, .k, .k, .k, .k, .k, .k, .k, .k, .k, .k, .k, .k, .k, .k, .k, .k, .k]) (fun s => (.box false [.i .i64 0, .i .i64 0, .s [], .s [], .e0, .e0] :: .box false [.i .i64 (m).kind, .i .i64 (m).n, .s (m).text, .s (m).sort, .sl ((m).kids.flatMap termCells) (m).kids.length, .sl ((m).rest.flatMap termCells) (m).rest.length] :: .box false [.i .i64 7, .i .i64 0, .s [], .s [], s.2.1, .e0] :: s.2.2)) (fun s => s.1 ≤ es.length ∧ OutIs 6 3 s.2.2 s.2.1 (((es.take s.1).map (·.1)).flatMap termCells) s.1) (fun s => es.length - s.1) ((0, .e0, [])) ⟨Nat.zero_le _, outIs_e0⟩ rfl (by simp [Fits]) ?_
   rintro ⟨i, out, g⟩ j ⟨hi, ho⟩
   dsimp only at hi ho
   have o2 : i < es.length → m.kids.getD (2 * i) default = (es.getD i default).1 := fun h => by rw [hm, flat_key h]
   simp -implicitDefEqProofs (disch := omega) only [go_sem, ↓reduceIte, reduceAdd, reduceSub, reduceMul, reduceLeDiff, reduceLT, reduceEqDiff, reduceNeg, Nat.reduceBEq]
   (repeat' (first | refine gT ?_ ?_ | refine gF ?_ ?_ | refine gC ?_ ?_ | refine And.intro (by omega) ?_ | (intro hr; have hc := hr; (try simp only [zda, zdb, zdc, zdd] at hc); simp -implicitDefEqProofs (disch := omega) only [hr, rep1t, go_sem, ↓reduceIte, reduceAdd, reduceSub, reduceMul, reduceLeDiff, reduceLT, reduceEqDiff, reduceNeg, Nat.reduceBEq]; (try clear hr))))
   · try simp -implicitDefEqProofs (disch := omega) only [rep1t, go_sem, ↓reduceIte, reduceAdd, reduceSub, reduceMul, reduceLeDiff, reduceLT, reduceEqDiff, reduceNeg, Nat.reduceBEq]
     refine app_intro' (pre := [_, _, _]) (news := [.i .i64 (m.kids.getD (2 * i) default).kind, .i .i64 (m.kids.getD (2 * i) default).n, .s (m.kids.getD (2 * i) default).text, .s (m.kids.getD (2 * i) default).sort, .sl ((m.kids.getD (2 * i) default).kids.flatMap termCells) (m.kids.getD (2 * i) default).kids.length, .sl ((m.kids.getD (2 * i) default).rest.flatMap termCells) (m.kids.getD (2 * i) default).rest.length]) (m := 1) ho rfl rfl el27 zo32 sz32 by32 rfl (by decide) (by simp -implicitDefEqProofs (disch := omega) only [go_sem, ↓reduceIte, reduceAdd, reduceSub, reduceMul, reduceLeDiff, reduceLT, reduceEqDiff, reduceNeg, Nat.reduceBEq]) (by simp -implicitDefEqProofs (disch := omega) only [go_sem, ↓reduceIte, reduceAdd, reduceSub, reduceMul, reduceLeDiff, reduceLT, reduceEqDiff, reduceNeg, Nat.reduceBEq]) ⟨by omega, by omega⟩ ?_
     intro out' g' ho' _
     have ho2 := ho'
     rcases ho' with ⟨rfl, hn, _⟩ | ⟨i', rfl, _, _⟩
     · exfalso; simp at hn
     · simp -implicitDefEqProofs (disch := omega) only [go_sem, ↓reduceIte, reduceAdd, reduceSub, reduceMul, reduceLeDiff, reduceLT, reduceEqDiff, reduceNeg, Nat.reduceBEq]
       refine ⟨(i + 1, _, g'), ⟨by dsimp only; omega, ?_⟩, by dsimp only; omega, rfl, ?_⟩
       · dsimp only
         rw [take_getD (d := default) (by omega), List.map_append, List.flatMap_append]
         rw [o2 (by omega)] at ho2
         simp only [List.map_cons, List.map_nil, List.flatMap_cons, List.flatMap_nil, List.append_nil, termCells_eq]
         exact ho2
       · dsimp only; rw [show ((2 * (i + 1) : Nat) : Int) = ((2 * i : Nat) : Int) + 2 by omega]
   · have h1 : i = es.length := by omega
     subst h1
     rw [List.take_length] at ho
     subst hR
     exact fin_res rfl (out_rd3 ho (by simp)) rd6_e0
theorem ctr276has_y (x : Str) (m k : LTerm) (es : List Ent) (hm : m.kids = flat es) (om : OkT m) (ok : OkT k) (hs : SortedE es) (hh : hasK k es = true) (hx : x = nhas): CT 136 [.s x, avt [m, k]] (resV (tBool true, 0)) := by
 refine sem_introA mixed Tryz.func136 g0 ?_
 · generalize hR : ((resV (tBool true, 0)) : AV) = R
   simp -implicitDefEqProofs (disch := omega) only [Tryz.f136, go_sem, List.replicate, ↓reduceIte, reduceAdd, reduceSub, reduceMul, reduceLeDiff, reduceLT, reduceEqDiff, reduceNeg, Nat.reduceBEq, avt, List.flatMap_cons, List.flatMap_nil, termCells_eq, List.cons_append, List.nil_append, List.append_nil, List.length_cons, List.length_nil, Nat.reduceAdd]
   have hk1 := om.kids
   have hl : m.kids.length = 2 * es.length := by rw [hm, flat_len]
   have n1 : ¬ x = nsize := by rw [hx]; decide
   have n2 : ¬ x = nkeys := by rw [hx]; decide
   simp -implicitDefEqProofs (disch := omega) only [zf n1, zf n2, zt hx, go_sem, ↓reduceIte, reduceAdd, reduceSub, reduceMul, reduceLeDiff, reduceLT, reduceEqDiff, reduceNeg, Nat.reduceBEq]
   (repeat' (first | refine gT ?_ ?_ | refine gF ?_ ?_ | refine gC ?_ ?_ | ((first | (refine c_ctrE (ctr293 m k es hm om ok hs) ?_ ?_; (focus (simp -implicitDefEqProofs (disch := omega) only [zf n1, zf n2, zt hx, entR_y hh, d1, avs, avb, avi, avo, sigCells, opCells, pairCells, elT, avt, termCells_eq, go_sem, ↓reduceIte, reduceAdd, reduceSub, reduceMul, reduceLeDiff, reduceLT, reduceEqDiff, reduceNeg, Nat.reduceBEq]; done))) | (refine c_ctrE (ctr223 true) ?_ ?_; (focus (simp -implicitDefEqProofs (disch := omega) only [zf n1, zf n2, zt hx, entR_y hh, d1, avs, avb, avi, avo, sigCells, opCells, pairCells, elT, avt, termCells_eq, go_sem, ↓reduceIte, reduceAdd, reduceSub, reduceMul, reduceLeDiff, reduceLT, reduceEqDiff, reduceNeg, Nat.reduceBEq]; done)))); simp -implicitDefEqProofs (disch := omega) only [zf n1, zf n2, zt hx, entR_y hh, d1, go_sem, ↓reduceIte, reduceAdd, reduceSub, reduceMul, reduceLeDiff, reduceLT, reduceEqDiff, reduceNeg, Nat.reduceBEq]) | refine And.intro (by omega) ?_ | (intro hr; have hc := hr; (try simp only [zda, zdb, zdc, zdd] at hc); simp -implicitDefEqProofs (disch := omega) only [hr, zf n1, zf n2, zt hx, entR_y hh, d1, go_sem, ↓reduceIte, reduceAdd, reduceSub, reduceMul, reduceLeDiff, reduceLT, reduceEqDiff, reduceNeg, Nat.reduceBEq]; (try clear hr))))
   subst hR
   exact fin_res rfl (rd6_sl (l := [])) (rd6_sl (l := []))
theorem ctr276has_n (x : Str) (m k : LTerm) (es : List Ent) (hm : m.kids = flat es) (om : OkT m) (ok : OkT k) (hs : SortedE es) (hh : hasK k es = false) (hx : x = nhas): CT 136 [.s x, avt [m, k]] (resV (tBool false, 0)) := by
 refine sem_introA mixed Tryz.func136 g0 ?_
 · generalize hR : ((resV (tBool false, 0)) : AV) = R
   simp -implicitDefEqProofs (disch := omega) only [Tryz.f136, go_sem, List.replicate, ↓reduceIte, reduceAdd, reduceSub, reduceMul, reduceLeDiff, reduceLT, reduceEqDiff, reduceNeg, Nat.reduceBEq, avt, List.flatMap_cons, List.flatMap_nil, termCells_eq, List.cons_append, List.nil_append, List.append_nil, List.length_cons, List.length_nil, Nat.reduceAdd]
   have hk1 := om.kids
   have hl : m.kids.length = 2 * es.length := by rw [hm, flat_len]
   have n1 : ¬ x = nsize := by rw [hx]; decide
   have n2 : ¬ x = nkeys := by rw [hx]; decide
   simp -implicitDefEqProofs (disch := omega) only [zf n1, zf n2, zt hx, go_sem, ↓reduceIte, reduceAdd, reduceSub, reduceMul, reduceLeDiff, reduceLT, reduceEqDiff, reduceNeg, Nat.reduceBEq]
   (repeat' (first | refine gT ?_ ?_ | refine gF ?_ ?_ | refine gC ?_ ?_ | ((first | (refine c_ctrE (ctr293 m k es hm om ok hs) ?_ ?_; (focus (simp -implicitDefEqProofs (disch := omega) only [zf n1, zf n2, zt hx, entR_n hh, d2, avs, avb, avi, avo, sigCells, opCells, pairCells, elT, avt, termCells_eq, go_sem, ↓reduceIte, reduceAdd, reduceSub, reduceMul, reduceLeDiff, reduceLT, reduceEqDiff, reduceNeg, Nat.reduceBEq]; done))) | (refine c_ctrE (ctr223 false) ?_ ?_; (focus (simp -implicitDefEqProofs (disch := omega) only [zf n1, zf n2, zt hx, entR_n hh, d2, avs, avb, avi, avo, sigCells, opCells, pairCells, elT, avt, termCells_eq, go_sem, ↓reduceIte, reduceAdd, reduceSub, reduceMul, reduceLeDiff, reduceLT, reduceEqDiff, reduceNeg, Nat.reduceBEq]; done)))); simp -implicitDefEqProofs (disch := omega) only [zf n1, zf n2, zt hx, entR_n hh, d2, go_sem, ↓reduceIte, reduceAdd, reduceSub, reduceMul, reduceLeDiff, reduceLT, reduceEqDiff, reduceNeg, Nat.reduceBEq]) | refine And.intro (by omega) ?_ | (intro hr; have hc := hr; (try simp only [zda, zdb, zdc, zdd] at hc); simp -implicitDefEqProofs (disch := omega) only [hr, zf n1, zf n2, zt hx, entR_n hh, d2, go_sem, ↓reduceIte, reduceAdd, reduceSub, reduceMul, reduceLeDiff, reduceLT, reduceEqDiff, reduceNeg, Nat.reduceBEq]; (try clear hr))))
   subst hR
   exact fin_res rfl (rd6_sl (l := [])) (rd6_sl (l := []))
theorem ctr276get_y (x : Str) (m k : LTerm) (es : List Ent) (hm : m.kids = flat es) (om : OkT m) (ok : OkT k) (hs : SortedE es) (hh : hasK k es = true) (hx : x = nget): CT 136 [.s x, avt [m, k]] (resV ((es.getD (posK k es) default).2, 0)) := by
 refine sem_introA mixed Tryz.func136 g0 ?_
 · generalize hR : ((resV ((es.getD (posK k es) default).2, 0)) : AV) = R
   simp -implicitDefEqProofs (disch := omega) only [Tryz.f136, go_sem, List.replicate, ↓reduceIte, reduceAdd, reduceSub, reduceMul, reduceLeDiff, reduceLT, reduceEqDiff, reduceNeg, Nat.reduceBEq, avt, List.flatMap_cons, List.flatMap_nil, termCells_eq, List.cons_append, List.nil_append, List.append_nil, List.length_cons, List.length_nil, Nat.reduceAdd]
   have hk1 := om.kids
   have hl : m.kids.length = 2 * es.length := by rw [hm, flat_len]
   have hp := (pos_has hh).1
   have hv : m.kids.getD (2 * posK k es + 1) default = (es.getD (posK k es) default).2 := by rw [hm, flat_val hp]
   have hi : (((2 * posK k es : Nat) : Int) + 1).toNat = 2 * posK k es + 1 := by omega
   have n1 : ¬ x = nsize := by rw [hx]; decide
   have n2 : ¬ x = nkeys := by rw [hx]; decide
   have n3 : ¬ x = nhas := by rw [hx]; decide
   simp -implicitDefEqProofs (disch := omega) only [zf n1, zf n2, zf n3, zt hx, go_sem, ↓reduceIte, reduceAdd, reduceSub, reduceMul, reduceLeDiff, reduceLT, reduceEqDiff, reduceNeg, Nat.reduceBEq]
   (repeat' (first | refine gT ?_ ?_ | refine gF ?_ ?_ | refine gC ?_ ?_ | ((refine c_ctrE (ctr293 m k es hm om ok hs) ?_ ?_; (focus (simp -implicitDefEqProofs (disch := omega) only [zf n1, zf n2, zf n3, zt hx, entR_y hh, d3, hi, avs, avb, avi, avo, sigCells, opCells, pairCells, elT, avt, termCells_eq, go_sem, ↓reduceIte, reduceAdd, reduceSub, reduceMul, reduceLeDiff, reduceLT, reduceEqDiff, reduceNeg, Nat.reduceBEq]; done))); simp -implicitDefEqProofs (disch := omega) only [zf n1, zf n2, zf n3, zt hx, entR_y hh, d3, hi, go_sem, ↓reduceIte, reduceAdd, reduceSub, reduceMul, reduceLeDiff, reduceLT, reduceEqDiff, reduceNeg, Nat.reduceBEq]) | refine And.intro (by omega) ?_ | (intro hr; have hc := hr; (try simp only [zda, zdb, zdc, zdd] at hc); simp -implicitDefEqProofs (disch := omega) only [hr, zf n1, zf n2, zf n3, zt hx, entR_y hh, d3, hi, go_sem, ↓reduceIte, reduceAdd, reduceSub, reduceMul, reduceLeDiff, reduceLT, reduceEqDiff, reduceNeg, Nat.reduceBEq]; (try clear hr))))
   subst hR
   rw [← hv]
   exact fin_resP (q := (m.kids.getD (2 * posK k es + 1) default, 0)) rfl
theorem ctr276get_n (x : Str) (m k : LTerm) (es : List Ent) (hm : m.kids = flat es) (om : OkT m) (ok : OkT k) (hs : SortedE es) (hh : hasK k es = false) (hx : x = nget): CT 136 [.s x, avt [m, k]] (resV (tZ, 4)) := by
 refine sem_introA mixed Tryz.func136 g0 ?_
 · generalize hR : ((resV (tZ, 4)) : AV) = R
   simp -implicitDefEqProofs (disch := omega) only [Tryz.f136, go_sem, List.replicate, ↓reduceIte, reduceAdd, reduceSub, reduceMul, reduceLeDiff, reduceLT, reduceEqDiff, reduceNeg, Nat.reduceBEq, avt, List.flatMap_cons, List.flatMap_nil, termCells_eq, List.cons_append, List.nil_append, List.append_nil, List.length_cons, List.length_nil, Nat.reduceAdd]
   have hk1 := om.kids
   have hl : m.kids.length = 2 * es.length := by rw [hm, flat_len]
   have n1 : ¬ x = nsize := by rw [hx]; decide
   have n2 : ¬ x = nkeys := by rw [hx]; decide
   have n3 : ¬ x = nhas := by rw [hx]; decide
   simp -implicitDefEqProofs (disch := omega) only [zf n1, zf n2, zf n3, zt hx, go_sem, ↓reduceIte, reduceAdd, reduceSub, reduceMul, reduceLeDiff, reduceLT, reduceEqDiff, reduceNeg, Nat.reduceBEq]
   (repeat' (first | refine gT ?_ ?_ | refine gF ?_ ?_ | refine gC ?_ ?_ | ((refine c_ctrE (ctr293 m k es hm om ok hs) ?_ ?_; (focus (simp -implicitDefEqProofs (disch := omega) only [zf n1, zf n2, zf n3, zt hx, entR_n hh, d4, avs, avb, avi, avo, sigCells, opCells, pairCells, elT, avt, termCells_eq, go_sem, ↓reduceIte, reduceAdd, reduceSub, reduceMul, reduceLeDiff, reduceLT, reduceEqDiff, reduceNeg, Nat.reduceBEq]; done))); simp -implicitDefEqProofs (disch := omega) only [zf n1, zf n2, zf n3, zt hx, entR_n hh, d4, go_sem, ↓reduceIte, reduceAdd, reduceSub, reduceMul, reduceLeDiff, reduceLT, reduceEqDiff, reduceNeg, Nat.reduceBEq]) | refine And.intro (by omega) ?_ | (intro hr; have hc := hr; (try simp only [zda, zdb, zdc, zdd] at hc); simp -implicitDefEqProofs (disch := omega) only [hr, zf n1, zf n2, zf n3, zt hx, entR_n hh, d4, go_sem, ↓reduceIte, reduceAdd, reduceSub, reduceMul, reduceLeDiff, reduceLT, reduceEqDiff, reduceNeg, Nat.reduceBEq]; (try clear hr))))
   subst hR
   exact fin_res rfl rd6_e0 rd6_e0
theorem ctr276put_k (x : Str) (m k v : LTerm) (es : List Ent) (hm : m.kids = flat es) (om : OkT m) (ok : OkT k) (hs : SortedE es) (hl2 : es.length ≤ 1000) (hk : isKey k = false) (hx : x = nput): CT 136 [.s x, avt [m, k, v]] (resV (tZ, 15)) := by
 refine sem_introA mixed Tryz.func136 g0 ?_
 · generalize hR : ((resV (tZ, 15)) : AV) = R
   simp -implicitDefEqProofs (disch := omega) only [Tryz.f136, go_sem, List.replicate, ↓reduceIte, reduceAdd, reduceSub, reduceMul, reduceLeDiff, reduceLT, reduceEqDiff, reduceNeg, Nat.reduceBEq, avt, List.flatMap_cons, List.flatMap_nil, termCells_eq, List.cons_append, List.nil_append, List.append_nil, List.length_cons, List.length_nil, Nat.reduceAdd]
   have hk1 := om.kids
   have hl : m.kids.length = 2 * es.length := by rw [hm, flat_len]
   have n1 : ¬ x = nsize := by rw [hx]; decide
   have n2 : ¬ x = nkeys := by rw [hx]; decide
   have n3 : ¬ x = nhas := by rw [hx]; decide
   have n4 : ¬ x = nget := by rw [hx]; decide
   have n5 : ¬ x = ndel := by rw [hx]; decide
   simp -implicitDefEqProofs (disch := omega) only [zf n1, zf n2, zf n3, zf n4, zf n5, go_sem, ↓reduceIte, reduceAdd, reduceSub, reduceMul, reduceLeDiff, reduceLT, reduceEqDiff, reduceNeg, Nat.reduceBEq]
   (repeat' (first | refine gT ?_ ?_ | refine gF ?_ ?_ | refine gC ?_ ?_ | ((first | (refine c_ctrE (ctr293 m k es hm om ok hs) ?_ ?_; (focus (simp -implicitDefEqProofs (disch := omega) only [zf n1, zf n2, zf n3, zf n4, zf n5, hk, avs, avb, avi, avo, sigCells, opCells, pairCells, elT, avt, termCells_eq, go_sem, ↓reduceIte, reduceAdd, reduceSub, reduceMul, reduceLeDiff, reduceLT, reduceEqDiff, reduceNeg, Nat.reduceBEq]; done))) | (refine c_ctrE (ctr225 k) ?_ ?_; (focus (simp -implicitDefEqProofs (disch := omega) only [zf n1, zf n2, zf n3, zf n4, zf n5, hk, avs, avb, avi, avo, sigCells, opCells, pairCells, elT, avt, termCells_eq, go_sem, ↓reduceIte, reduceAdd, reduceSub, reduceMul, reduceLeDiff, reduceLT, reduceEqDiff, reduceNeg, Nat.reduceBEq]; done)))); simp -implicitDefEqProofs (disch := omega) only [zf n1, zf n2, zf n3, zf n4, zf n5, hk, go_sem, ↓reduceIte, reduceAdd, reduceSub, reduceMul, reduceLeDiff, reduceLT, reduceEqDiff, reduceNeg, Nat.reduceBEq]) | refine And.intro (by omega) ?_ | (intro hr; have hc := hr; (try simp only [zda, zdb, zdc, zdd] at hc); simp -implicitDefEqProofs (disch := omega) only [hr, zf n1, zf n2, zf n3, zf n4, zf n5, hk, go_sem, ↓reduceIte, reduceAdd, reduceSub, reduceMul, reduceLeDiff, reduceLT, reduceEqDiff, reduceNeg, Nat.reduceBEq]; (try clear hr))))
   subst hR
   exact fin_res rfl rd6_e0 rd6_e0
theorem ctr276put_y (x : Str) (m k v : LTerm) (es : List Ent) (hm : m.kids = flat es) (om : OkT m) (ok : OkT k) (hs : SortedE es) (hl2 : es.length ≤ 1000) (hk : isKey k = true) (hx : x = nput): CT 136 [.s x, avt [m, k, v]] (resV (.mk 8 0 [] [] (flat (layE k v false es)) [], 0)) := by
 refine sem_introA mixed Tryz.func136 g0 ?_
 · generalize hR : ((resV (.mk 8 0 [] [] (flat (layE k v false es)) [], 0)) : AV) = R
   simp -implicitDefEqProofs (disch := omega) only [Tryz.f136, go_sem, List.replicate, ↓reduceIte, reduceAdd, reduceSub, reduceMul, reduceLeDiff, reduceLT, reduceEqDiff, reduceNeg, Nat.reduceBEq, avt, List.flatMap_cons, List.flatMap_nil, termCells_eq, List.cons_append, List.nil_append, List.append_nil, List.length_cons, List.length_nil, Nat.reduceAdd]
   have hk1 := om.kids
   have hl : m.kids.length = 2 * es.length := by rw [hm, flat_len]
   have n1 : ¬ x = nsize := by rw [hx]; decide
   have n2 : ¬ x = nkeys := by rw [hx]; decide
   have n3 : ¬ x = nhas := by rw [hx]; decide
   have n4 : ¬ x = nget := by rw [hx]; decide
   have n5 : ¬ x = ndel := by rw [hx]; decide
   simp -implicitDefEqProofs (disch := omega) only [zf n1, zf n2, zf n3, zf n4, zf n5, go_sem, ↓reduceIte, reduceAdd, reduceSub, reduceMul, reduceLeDiff, reduceLT, reduceEqDiff, reduceNeg, Nat.reduceBEq]
   (repeat' (first | refine gT ?_ ?_ | refine gF ?_ ?_ | refine gC ?_ ?_ | ((first | (refine c_ctrE (ctr293 m k es hm om ok hs) ?_ ?_; (focus (simp -implicitDefEqProofs (disch := omega) only [zf n1, zf n2, zf n3, zf n4, zf n5, hk, toNat2, List.take_succ_cons, List.drop_succ_cons, List.take_zero, List.drop_zero, List.take_nil, List.drop_nil, avs, avb, avi, avo, sigCells, opCells, pairCells, elT, avt, termCells_eq, go_sem, ↓reduceIte, reduceAdd, reduceSub, reduceMul, reduceLeDiff, reduceLT, reduceEqDiff, reduceNeg, Nat.reduceBEq]; done))) | (refine c_ctrE (ctr225 k) ?_ ?_; (focus (simp -implicitDefEqProofs (disch := omega) only [zf n1, zf n2, zf n3, zf n4, zf n5, hk, toNat2, List.take_succ_cons, List.drop_succ_cons, List.take_zero, List.drop_zero, List.take_nil, List.drop_nil, avs, avb, avi, avo, sigCells, opCells, pairCells, elT, avt, termCells_eq, go_sem, ↓reduceIte, reduceAdd, reduceSub, reduceMul, reduceLeDiff, reduceLT, reduceEqDiff, reduceNeg, Nat.reduceBEq]; done))) | (refine c_ctrE (ctr294 m.kids k v es hm hl2 om.kid ok) ?_ ?_; (focus (simp -implicitDefEqProofs (disch := omega) only [zf n1, zf n2, zf n3, zf n4, zf n5, hk, toNat2, List.take_succ_cons, List.drop_succ_cons, List.take_zero, List.drop_zero, List.take_nil, List.drop_nil, avs, avb, avi, avo, sigCells, opCells, pairCells, elT, avt, termCells_eq, go_sem, ↓reduceIte, reduceAdd, reduceSub, reduceMul, reduceLeDiff, reduceLT, reduceEqDiff, reduceNeg, Nat.reduceBEq]; done)))); simp -implicitDefEqProofs (disch := omega) only [zf n1, zf n2, zf n3, zf n4, zf n5, hk, toNat2, List.take_succ_cons, List.drop_succ_cons, List.take_zero, List.drop_zero, List.take_nil, List.drop_nil, go_sem, ↓reduceIte, reduceAdd, reduceSub, reduceMul, reduceLeDiff, reduceLT, reduceEqDiff, reduceNeg, Nat.reduceBEq]) | refine And.intro (by omega) ?_ | (intro hr; have hc := hr; (try simp only [zda, zdb, zdc, zdd] at hc); simp -implicitDefEqProofs (disch := omega) only [hr, zf n1, zf n2, zf n3, zf n4, zf n5, hk, toNat2, List.take_succ_cons, List.drop_succ_cons, List.take_zero, List.drop_zero, List.take_nil, List.drop_nil, go_sem, ↓reduceIte, reduceAdd, reduceSub, reduceMul, reduceLeDiff, reduceLT, reduceEqDiff, reduceNeg, Nat.reduceBEq]; (try clear hr))))
   subst hR
   exact fin_res rfl rd6_sl rd6_e0
theorem ctr276del_n (x : Str) (m k : LTerm) (es : List Ent) (hm : m.kids = flat es) (om : OkT m) (ok : OkT k) (hs : SortedE es) (hl2 : es.length ≤ 1000) (hh : hasK k es = false) (hx : x = ndel): CT 136 [.s x, avt [m, k]] (resV (.mk 8 0 [] [] (flat es) [], 0)) := by
 refine sem_introA mixed Tryz.func136 g0 ?_
 · generalize hR : ((resV (.mk 8 0 [] [] (flat es) [], 0)) : AV) = R
   simp -implicitDefEqProofs (disch := omega) only [Tryz.f136, go_sem, List.replicate, ↓reduceIte, reduceAdd, reduceSub, reduceMul, reduceLeDiff, reduceLT, reduceEqDiff, reduceNeg, Nat.reduceBEq, avt, List.flatMap_cons, List.flatMap_nil, termCells_eq, List.cons_append, List.nil_append, List.append_nil, List.length_cons, List.length_nil, Nat.reduceAdd]
   have hk1 := om.kids
   have hl : m.kids.length = 2 * es.length := by rw [hm, flat_len]
   have n1 : ¬ x = nsize := by rw [hx]; decide
   have n2 : ¬ x = nkeys := by rw [hx]; decide
   have n3 : ¬ x = nhas := by rw [hx]; decide
   have n4 : ¬ x = nget := by rw [hx]; decide
   simp -implicitDefEqProofs (disch := omega) only [zf n1, zf n2, zf n3, zf n4, zt hx, go_sem, ↓reduceIte, reduceAdd, reduceSub, reduceMul, reduceLeDiff, reduceLT, reduceEqDiff, reduceNeg, Nat.reduceBEq]
   (repeat' (first | refine gT ?_ ?_ | refine gF ?_ ?_ | refine gC ?_ ?_ | ((refine c_ctrE (ctr293 m k es hm om ok hs) ?_ ?_; (focus (simp -implicitDefEqProofs (disch := omega) only [zf n1, zf n2, zf n3, zf n4, zt hx, entR_n hh, d2, avs, avb, avi, avo, sigCells, opCells, pairCells, elT, avt, termCells_eq, go_sem, ↓reduceIte, reduceAdd, reduceSub, reduceMul, reduceLeDiff, reduceLT, reduceEqDiff, reduceNeg, Nat.reduceBEq]; done))); simp -implicitDefEqProofs (disch := omega) only [zf n1, zf n2, zf n3, zf n4, zt hx, entR_n hh, d2, go_sem, ↓reduceIte, reduceAdd, reduceSub, reduceMul, reduceLeDiff, reduceLT, reduceEqDiff, reduceNeg, Nat.reduceBEq]) | refine And.intro (by omega) ?_ | (intro hr; have hc := hr; (try simp only [zda, zdb, zdc, zdd] at hc); simp -implicitDefEqProofs (disch := omega) only [hr, zf n1, zf n2, zf n3, zf n4, zt hx, entR_n hh, d2, go_sem, ↓reduceIte, reduceAdd, reduceSub, reduceMul, reduceLeDiff, reduceLT, reduceEqDiff, reduceNeg, Nat.reduceBEq]; (try clear hr))))
   subst hR
   exact fin_res (by rw [hm]) (rd_own (rest := []) (by rw [List.append_nil]; rfl) rfl) rd6_e0
theorem ctr276del_y (x : Str) (m k : LTerm) (es : List Ent) (hm : m.kids = flat es) (om : OkT m) (ok : OkT k) (hs : SortedE es) (hl2 : es.length ≤ 1000) (hh : hasK k es = true) (hx : x = ndel): CT 136 [.s x, avt [m, k]] (resV (.mk 8 0 [] [] (flat (es.take (posK k es) ++ es.drop (posK k es + 1))) [], 0)) := by
 refine sem_introA mixed Tryz.func136 g0 ?_
 · generalize hR : ((resV (.mk 8 0 [] [] (flat (es.take (posK k es) ++ es.drop (posK k es + 1))) [], 0)) : AV) = R
   simp -implicitDefEqProofs (disch := omega) only [Tryz.f136, go_sem, List.replicate, ↓reduceIte, reduceAdd, reduceSub, reduceMul, reduceLeDiff, reduceLT, reduceEqDiff, reduceNeg, Nat.reduceBEq, avt, List.flatMap_cons, List.flatMap_nil, termCells_eq, List.cons_append, List.nil_append, List.append_nil, List.length_cons, List.length_nil, Nat.reduceAdd]
   have hk1 := om.kids
   have hl : m.kids.length = 2 * es.length := by rw [hm, flat_len]
   have hp := (pos_has hh).1
   have hi : (((2 * posK k es : Nat) : Int) + 2).toNat = 2 * posK k es + 2 := by omega
   have n1 : ¬ x = nsize := by rw [hx]; decide
   have n2 : ¬ x = nkeys := by rw [hx]; decide
   have n3 : ¬ x = nhas := by rw [hx]; decide
   have n4 : ¬ x = nget := by rw [hx]; decide
   simp -implicitDefEqProofs (disch := omega) only [zf n1, zf n2, zf n3, zf n4, zt hx, go_sem, ↓reduceIte, reduceAdd, reduceSub, reduceMul, reduceLeDiff, reduceLT, reduceEqDiff, reduceNeg, Nat.reduceBEq]
   (repeat' (first | refine gT ?_ ?_ | refine gF ?_ ?_ | refine gC ?_ ?_ | ((refine c_ctrE (ctr293 m k es hm om ok hs) ?_ ?_; (focus (simp -implicitDefEqProofs (disch := omega) only [zf n1, zf n2, zf n3, zf n4, zt hx, entR_y hh, d1, hi, avs, avb, avi, avo, sigCells, opCells, pairCells, elT, avt, termCells_eq, go_sem, ↓reduceIte, reduceAdd, reduceSub, reduceMul, reduceLeDiff, reduceLT, reduceEqDiff, reduceNeg, Nat.reduceBEq]; done))); simp -implicitDefEqProofs (disch := omega) only [zf n1, zf n2, zf n3, zf n4, zt hx, entR_y hh, d1, hi, go_sem, ↓reduceIte, reduceAdd, reduceSub, reduceMul, reduceLeDiff, reduceLT, reduceEqDiff, reduceNeg, Nat.reduceBEq]) | refine And.intro (by omega) ?_ | (intro hr; have hc := hr; (try simp only [zda, zdb, zdc, zdd] at hc); simp -implicitDefEqProofs (disch := omega) only [hr, zf n1, zf n2, zf n3, zf n4, zt hx, entR_y hh, d1, hi, go_sem, ↓reduceIte, reduceAdd, reduceSub, reduceMul, reduceLeDiff, reduceLT, reduceEqDiff, reduceNeg, Nat.reduceBEq]; (try clear hr))))
   have c1 : (2 * posK k es + 2) * 6 + (m.kids.length - (2 * posK k es + 2)) * 6 ≤ m.kids.length * 6 := by omega
   have c2 : 2 * posK k es * 6 ≤ m.kids.length * 6 ∧ (2 * posK k es + (m.kids.length - (2 * posK k es + 2))) * 96 ≤ 140737488355328 ∧ 2 * posK k es + (m.kids.length - (2 * posK k es + 2)) ≤ 140737488355328 := by omega
   have c3 : ¬ 2 * posK k es * 6 = m.kids.length * 6 := by omega
   have c4 : (2 * posK k es + (m.kids.length - (2 * posK k es + 2))) * 6 ≤ m.kids.length * 6 := by omega
   rw [if_pos c1]
   dsimp only
   rw [if_pos c2, if_neg c3, if_pos c4]
   simp -implicitDefEqProofs (disch := omega) only [go_sem, ↓reduceIte, reduceAdd, reduceSub, reduceMul, reduceLeDiff, reduceLT, reduceEqDiff, reduceNeg, Nat.reduceBEq]
   subst hR
   have q1 : ((m.kids.flatMap termCells).drop ((2 * posK k es + 2) * 6)).take ((m.kids.length - (2 * posK k es + 2)) * 6) = (m.kids.drop (2 * posK k es + 2)).flatMap termCells := by
     rw [dropC, takeC, List.take_of_length_le (by simp)]
   rw [q1]
   refine fin_res ?_ (rd_own (l := m.kids.take (2 * posK k es) ++ m.kids.drop (2 * posK k es + 2)) (by rw [List.flatMap_append, List.append_assoc]; rfl) (by simp; omega)) rd6_e0
   rw [hm]
   simp only [flat_take, flat_append, show 2 * posK k es + 2 = 2 * (posK k es + 1) by omega, flat_drop]

theorem text_app {s t : Str} (h1 : isText s = true) (h2 : isText t = true) : isText (s ++ t) = decide (s.length + t.length ≤ 200) := by
 simp only [isText, Bool.and_eq_true] at h1 h2
 rw [isText, List.all_append, h1.1, h2.1, List.length_append]; rfl
theorem ctr254neg (s : LSig) (x : Str) (a : LTerm) (h : isInt a.n = true) (hx : x = nneg): CT 87 [.agg (sigCells s), .s x, avt [a]] (resV (tInt (0 - a.n), 0)) := by
 refine sem_intro (rx := true) (th := fun _ => none) mixed Tryz.func87 rfl (by kernel_rfl) (by kernel_rfl) (ac := ?_) ?_ g0 ?_
 rotate_left
 · simp only [strip, stripOps, stripOp, hoist, List.filter_cons, List.filter_nil, List.nil_append, List.cons_append, isFree, anyPre, Region.binds, Bool.not_true, Bool.not_false, Bool.false_eq_true, if_true, if_false, Option.isNone_none, Option.isNone_some, Bool.true_and, Bool.false_and, List.map_nil, List.map_cons, List.isEmpty_nil, List.isEmpty_cons, List.append_nil, ckOf, preIs, isMade, isApp, List.getElem?_toArray, List.getElem?_cons_zero, List.getElem?_cons_succ, Bool.or_false, Bool.or_true, Bool.true_or, Bool.false_or, beq_self_eq_true, Option.some_beq_some, Nat.reduceBEq, hasApp, lateOn, isStore, isRd, List.any_cons, List.any_nil, Bool.or_self, Bool.and_self, mode_gc, mode_text]
   rfl
 · generalize hR : ((resV (tInt (0 - a.n), 0)) : AV) = R
   simp -implicitDefEqProofs (disch := omega) only [Tryz.f87, go_sem, List.replicate, simprocAttr, avt, List.flatMap_cons, List.flatMap_nil, termCells_eq, List.cons_append, List.nil_append, List.append_nil, List.length_cons, List.length_nil, Nat.reduceAdd]
   have h1 := int_le h
   simp -implicitDefEqProofs (disch := omega) only [zt hx, go_sem, simprocAttr]
   (repeat' (first | refine gT ?_ ?_ | refine gF ?_ ?_ | refine gC ?_ ?_ | ((refine c_ctrE (ctr221 (0 - a.n)) ?_ ?_; (focus (simp -implicitDefEqProofs (disch := omega) only [zt hx, avs, avb, avi, avo, sigCells, opCells, pairCells, elT, avt, termCells_eq, go_sem, simprocAttr]; done))); simp -implicitDefEqProofs (disch := omega) only [zt hx, go_sem, simprocAttr]) | refine And.intro (by omega) ?_ | (intro hr; have hc := hr; (try simp only [zda, zdb, zdc, zdd] at hc); simp -implicitDefEqProofs (disch := omega) only [hr, zt hx, go_sem, simprocAttr]; (try clear hr))))
   all_goals subst hR
   all_goals first
     | exact fin_res rfl (rd6_sl (l := [])) (rd6_sl (l := []))
     | (refine fin_res ?_ (rd6_sl (l := [])) (rd6_sl (l := [])); simp only [hc, decide_true, decide_false, Bool.true_and, Bool.false_and, Bool.or_true, Bool.true_or, Bool.false_or, if_true, if_false, Bool.false_eq_true, reduceIte]; done)
     | (refine fin_res ?_ (rd6_sl (l := [])) (rd6_sl (l := [])); rw [zf hc]; rfl)
     | (refine fin_res ?_ (rd6_sl (l := [])) (rd6_sl (l := [])); rw [zt hc]; rfl)
     | (refine fin_res ?_ rd6_e0 rd6_e0; simp only [hc, decide_true, decide_false, if_true, if_false, Bool.false_eq_true, reduceIte]; done)
theorem ctr254eq (s : LSig) (x : Str) (a b : LTerm) (oa : OkT a) (ob : OkT b) (hx : x = neq): CT 87 [.agg (sigCells s), .s x, avt [a, b]] (resV (tBool (decide (a = b)), 0)) := by
 refine sem_intro (rx := true) (th := fun _ => none) mixed Tryz.func87 rfl (by kernel_rfl) (by kernel_rfl) (ac := ?_) ?_ g0 ?_
 rotate_left
 · simp only [strip, stripOps, stripOp, hoist, List.filter_cons, List.filter_nil, List.nil_append, List.cons_append, isFree, anyPre, Region.binds, Bool.not_true, Bool.not_false, Bool.false_eq_true, if_true, if_false, Option.isNone_none, Option.isNone_some, Bool.true_and, Bool.false_and, List.map_nil, List.map_cons, List.isEmpty_nil, List.isEmpty_cons, List.append_nil, ckOf, preIs, isMade, isApp, List.getElem?_toArray, List.getElem?_cons_zero, List.getElem?_cons_succ, Bool.or_false, Bool.or_true, Bool.true_or, Bool.false_or, beq_self_eq_true, Option.some_beq_some, Nat.reduceBEq, hasApp, lateOn, isStore, isRd, List.any_cons, List.any_nil, Bool.or_self, Bool.and_self, mode_gc, mode_text]
   rfl
 · generalize hR : ((resV (tBool (decide (a = b)), 0)) : AV) = R
   simp -implicitDefEqProofs (disch := omega) only [Tryz.f87, go_sem, List.replicate, simprocAttr, avt, List.flatMap_cons, List.flatMap_nil, termCells_eq, List.cons_append, List.nil_append, List.append_nil, List.length_cons, List.length_nil, Nat.reduceAdd]
   have m0 : ¬ x = nneg := by rw [hx]; decide
   simp -implicitDefEqProofs (disch := omega) only [zf m0, zt hx, go_sem, simprocAttr]
   (repeat' (first | refine gT ?_ ?_ | refine gF ?_ ?_ | refine gC ?_ ?_ | ((first | (refine c_ctrE (ctr211 a b oa ob) ?_ ?_; (focus (simp -implicitDefEqProofs (disch := omega) only [zf m0, zt hx, avs, avb, avi, avo, sigCells, opCells, pairCells, elT, avt, termCells_eq, go_sem, simprocAttr]; done))) | (refine c_ctrE (ctr223 (decide (a = b))) ?_ ?_; (focus (simp -implicitDefEqProofs (disch := omega) only [zf m0, zt hx, avs, avb, avi, avo, sigCells, opCells, pairCells, elT, avt, termCells_eq, go_sem, simprocAttr]; done)))); simp -implicitDefEqProofs (disch := omega) only [zf m0, zt hx, go_sem, simprocAttr]) | refine And.intro (by omega) ?_ | (intro hr; have hc := hr; (try simp only [zda, zdb, zdc, zdd] at hc); simp -implicitDefEqProofs (disch := omega) only [hr, zf m0, zt hx, go_sem, simprocAttr]; (try clear hr))))
   all_goals subst hR
   all_goals first
     | exact fin_res rfl (rd6_sl (l := [])) (rd6_sl (l := []))
     | (refine fin_res ?_ (rd6_sl (l := [])) (rd6_sl (l := [])); simp only [hc, decide_true, decide_false, Bool.true_and, Bool.false_and, Bool.or_true, Bool.true_or, Bool.false_or, if_true, if_false, Bool.false_eq_true, reduceIte]; done)
     | (refine fin_res ?_ (rd6_sl (l := [])) (rd6_sl (l := [])); rw [zf hc]; rfl)
     | (refine fin_res ?_ (rd6_sl (l := [])) (rd6_sl (l := [])); rw [zt hc]; rfl)
     | (refine fin_res ?_ rd6_e0 rd6_e0; simp only [hc, decide_true, decide_false, if_true, if_false, Bool.false_eq_true, reduceIte]; done)
theorem ctr254ne (s : LSig) (x : Str) (a b : LTerm) (oa : OkT a) (ob : OkT b) (hx : x = nne): CT 87 [.agg (sigCells s), .s x, avt [a, b]] (resV (tBool (!decide (a = b)), 0)) := by
 refine sem_intro (rx := true) (th := fun _ => none) mixed Tryz.func87 rfl (by kernel_rfl) (by kernel_rfl) (ac := ?_) ?_ g0 ?_
 rotate_left
 · simp only [strip, stripOps, stripOp, hoist, List.filter_cons, List.filter_nil, List.nil_append, List.cons_append, isFree, anyPre, Region.binds, Bool.not_true, Bool.not_false, Bool.false_eq_true, if_true, if_false, Option.isNone_none, Option.isNone_some, Bool.true_and, Bool.false_and, List.map_nil, List.map_cons, List.isEmpty_nil, List.isEmpty_cons, List.append_nil, ckOf, preIs, isMade, isApp, List.getElem?_toArray, List.getElem?_cons_zero, List.getElem?_cons_succ, Bool.or_false, Bool.or_true, Bool.true_or, Bool.false_or, beq_self_eq_true, Option.some_beq_some, Nat.reduceBEq, hasApp, lateOn, isStore, isRd, List.any_cons, List.any_nil, Bool.or_self, Bool.and_self, mode_gc, mode_text]
   rfl
 · generalize hR : ((resV (tBool (!decide (a = b)), 0)) : AV) = R
   simp -implicitDefEqProofs (disch := omega) only [Tryz.f87, go_sem, List.replicate, simprocAttr, avt, List.flatMap_cons, List.flatMap_nil, termCells_eq, List.cons_append, List.nil_append, List.append_nil, List.length_cons, List.length_nil, Nat.reduceAdd]
   have m0 : ¬ x = nneg := by rw [hx]; decide
   have m1 : ¬ x = neq := by rw [hx]; decide
   simp -implicitDefEqProofs (disch := omega) only [zf m0, zf m1, zt hx, go_sem, simprocAttr]
   (repeat' (first | refine gT ?_ ?_ | refine gF ?_ ?_ | refine gC ?_ ?_ | ((first | (refine c_ctrE (ctr211 a b oa ob) ?_ ?_; (focus (simp -implicitDefEqProofs (disch := omega) only [zf m0, zf m1, zt hx, avs, avb, avi, avo, sigCells, opCells, pairCells, elT, avt, termCells_eq, go_sem, simprocAttr]; done))) | (refine c_ctrE (ctr223 (!decide (a = b))) ?_ ?_; (focus (simp -implicitDefEqProofs (disch := omega) only [zf m0, zf m1, zt hx, avs, avb, avi, avo, sigCells, opCells, pairCells, elT, avt, termCells_eq, go_sem, simprocAttr]; done)))); simp -implicitDefEqProofs (disch := omega) only [zf m0, zf m1, zt hx, go_sem, simprocAttr]) | refine And.intro (by omega) ?_ | (intro hr; have hc := hr; (try simp only [zda, zdb, zdc, zdd] at hc); simp -implicitDefEqProofs (disch := omega) only [hr, zf m0, zf m1, zt hx, go_sem, simprocAttr]; (try clear hr))))
   all_goals subst hR
   all_goals first
     | exact fin_res rfl (rd6_sl (l := [])) (rd6_sl (l := []))
     | (refine fin_res ?_ (rd6_sl (l := [])) (rd6_sl (l := [])); simp only [hc, decide_true, decide_false, Bool.true_and, Bool.false_and, Bool.or_true, Bool.true_or, Bool.false_or, if_true, if_false, Bool.false_eq_true, reduceIte]; done)
     | (refine fin_res ?_ (rd6_sl (l := [])) (rd6_sl (l := [])); rw [zf hc]; rfl)
     | (refine fin_res ?_ (rd6_sl (l := [])) (rd6_sl (l := [])); rw [zt hc]; rfl)
     | (refine fin_res ?_ rd6_e0 rd6_e0; simp only [hc, decide_true, decide_false, if_true, if_false, Bool.false_eq_true, reduceIte]; done)
theorem ctr254and (s : LSig) (x : Str) (a b : LTerm) (hx : x = nand): CT 87 [.agg (sigCells s), .s x, avt [a, b]] (resV (tBool (decide (a.n = 1) && decide (b.n = 1)), 0)) := by
 refine sem_intro (rx := true) (th := fun _ => none) mixed Tryz.func87 rfl (by kernel_rfl) (by kernel_rfl) (ac := ?_) ?_ g0 ?_
 rotate_left
 · simp only [strip, stripOps, stripOp, hoist, List.filter_cons, List.filter_nil, List.nil_append, List.cons_append, isFree, anyPre, Region.binds, Bool.not_true, Bool.not_false, Bool.false_eq_true, if_true, if_false, Option.isNone_none, Option.isNone_some, Bool.true_and, Bool.false_and, List.map_nil, List.map_cons, List.isEmpty_nil, List.isEmpty_cons, List.append_nil, ckOf, preIs, isMade, isApp, List.getElem?_toArray, List.getElem?_cons_zero, List.getElem?_cons_succ, Bool.or_false, Bool.or_true, Bool.true_or, Bool.false_or, beq_self_eq_true, Option.some_beq_some, Nat.reduceBEq, hasApp, lateOn, isStore, isRd, List.any_cons, List.any_nil, Bool.or_self, Bool.and_self, mode_gc, mode_text]
   rfl
 · generalize hR : ((resV (tBool (decide (a.n = 1) && decide (b.n = 1)), 0)) : AV) = R
   simp -implicitDefEqProofs (disch := omega) only [Tryz.f87, go_sem, List.replicate, simprocAttr, avt, List.flatMap_cons, List.flatMap_nil, termCells_eq, List.cons_append, List.nil_append, List.append_nil, List.length_cons, List.length_nil, Nat.reduceAdd]
   have m0 : ¬ x = nneg := by rw [hx]; decide
   have m1 : ¬ x = neq := by rw [hx]; decide
   have m2 : ¬ x = nne := by rw [hx]; decide
   simp -implicitDefEqProofs (disch := omega) only [zf m0, zf m1, zf m2, zt hx, go_sem, simprocAttr]
   (repeat' (first | refine gT ?_ ?_ | refine gF ?_ ?_ | refine gC ?_ ?_ | ((first | (refine c_ctrE (ctr223 false) ?_ ?_; (focus (simp -implicitDefEqProofs (disch := omega) only [zf m0, zf m1, zf m2, zt hx, avs, avb, avi, avo, sigCells, opCells, pairCells, elT, avt, termCells_eq, go_sem, simprocAttr]; done))) | (refine c_ctrE (ctr223 true) ?_ ?_; (focus (simp -implicitDefEqProofs (disch := omega) only [zf m0, zf m1, zf m2, zt hx, avs, avb, avi, avo, sigCells, opCells, pairCells, elT, avt, termCells_eq, go_sem, simprocAttr]; done))) | (refine c_ctrE (ctr223 (decide (b.n = 1))) ?_ ?_; (focus (simp -implicitDefEqProofs (disch := omega) only [zf m0, zf m1, zf m2, zt hx, avs, avb, avi, avo, sigCells, opCells, pairCells, elT, avt, termCells_eq, go_sem, simprocAttr]; done)))); simp -implicitDefEqProofs (disch := omega) only [zf m0, zf m1, zf m2, zt hx, go_sem, simprocAttr]) | refine And.intro (by omega) ?_ | (intro hr; have hc := hr; (try simp only [zda, zdb, zdc, zdd] at hc); simp -implicitDefEqProofs (disch := omega) only [hr, zf m0, zf m1, zf m2, zt hx, go_sem, simprocAttr]; (try clear hr))))
   all_goals subst hR
   all_goals first
     | exact fin_res rfl (rd6_sl (l := [])) (rd6_sl (l := []))
     | (refine fin_res ?_ (rd6_sl (l := [])) (rd6_sl (l := [])); simp only [hc, decide_true, decide_false, Bool.true_and, Bool.false_and, Bool.or_true, Bool.true_or, Bool.false_or, if_true, if_false, Bool.false_eq_true, reduceIte]; done)
     | (refine fin_res ?_ (rd6_sl (l := [])) (rd6_sl (l := [])); rw [zf hc]; rfl)
     | (refine fin_res ?_ (rd6_sl (l := [])) (rd6_sl (l := [])); rw [zt hc]; rfl)
     | (refine fin_res ?_ rd6_e0 rd6_e0; simp only [hc, decide_true, decide_false, if_true, if_false, Bool.false_eq_true, reduceIte]; done)
theorem ctr254or (s : LSig) (x : Str) (a b : LTerm) (hx : x = nor): CT 87 [.agg (sigCells s), .s x, avt [a, b]] (resV (tBool (decide (a.n = 1) || decide (b.n = 1)), 0)) := by
 refine sem_intro (rx := true) (th := fun _ => none) mixed Tryz.func87 rfl (by kernel_rfl) (by kernel_rfl) (ac := ?_) ?_ g0 ?_
 rotate_left
 · simp only [strip, stripOps, stripOp, hoist, List.filter_cons, List.filter_nil, List.nil_append, List.cons_append, isFree, anyPre, Region.binds, Bool.not_true, Bool.not_false, Bool.false_eq_true, if_true, if_false, Option.isNone_none, Option.isNone_some, Bool.true_and, Bool.false_and, List.map_nil, List.map_cons, List.isEmpty_nil, List.isEmpty_cons, List.append_nil, ckOf, preIs, isMade, isApp, List.getElem?_toArray, List.getElem?_cons_zero, List.getElem?_cons_succ, Bool.or_false, Bool.or_true, Bool.true_or, Bool.false_or, beq_self_eq_true, Option.some_beq_some, Nat.reduceBEq, hasApp, lateOn, isStore, isRd, List.any_cons, List.any_nil, Bool.or_self, Bool.and_self, mode_gc, mode_text]
   rfl
 · generalize hR : ((resV (tBool (decide (a.n = 1) || decide (b.n = 1)), 0)) : AV) = R
   simp -implicitDefEqProofs (disch := omega) only [Tryz.f87, go_sem, List.replicate, simprocAttr, avt, List.flatMap_cons, List.flatMap_nil, termCells_eq, List.cons_append, List.nil_append, List.append_nil, List.length_cons, List.length_nil, Nat.reduceAdd]
   have m0 : ¬ x = nneg := by rw [hx]; decide
   have m1 : ¬ x = neq := by rw [hx]; decide
   have m2 : ¬ x = nne := by rw [hx]; decide
   have m3 : ¬ x = nand := by rw [hx]; decide
   simp -implicitDefEqProofs (disch := omega) only [zf m0, zf m1, zf m2, zf m3, zt hx, go_sem, simprocAttr]
   (repeat' (first | refine gT ?_ ?_ | refine gF ?_ ?_ | refine gC ?_ ?_ | ((first | (refine c_ctrE (ctr223 false) ?_ ?_; (focus (simp -implicitDefEqProofs (disch := omega) only [zf m0, zf m1, zf m2, zf m3, zt hx, avs, avb, avi, avo, sigCells, opCells, pairCells, elT, avt, termCells_eq, go_sem, simprocAttr]; done))) | (refine c_ctrE (ctr223 true) ?_ ?_; (focus (simp -implicitDefEqProofs (disch := omega) only [zf m0, zf m1, zf m2, zf m3, zt hx, avs, avb, avi, avo, sigCells, opCells, pairCells, elT, avt, termCells_eq, go_sem, simprocAttr]; done))) | (refine c_ctrE (ctr223 (decide (b.n = 1))) ?_ ?_; (focus (simp -implicitDefEqProofs (disch := omega) only [zf m0, zf m1, zf m2, zf m3, zt hx, avs, avb, avi, avo, sigCells, opCells, pairCells, elT, avt, termCells_eq, go_sem, simprocAttr]; done)))); simp -implicitDefEqProofs (disch := omega) only [zf m0, zf m1, zf m2, zf m3, zt hx, go_sem, simprocAttr]) | refine And.intro (by omega) ?_ | (intro hr; have hc := hr; (try simp only [zda, zdb, zdc, zdd] at hc); simp -implicitDefEqProofs (disch := omega) only [hr, zf m0, zf m1, zf m2, zf m3, zt hx, go_sem, simprocAttr]; (try clear hr))))
   all_goals subst hR
   all_goals first
     | exact fin_res rfl (rd6_sl (l := [])) (rd6_sl (l := []))
     | (refine fin_res ?_ (rd6_sl (l := [])) (rd6_sl (l := [])); simp only [hc, decide_true, decide_false, Bool.true_and, Bool.false_and, Bool.or_true, Bool.true_or, Bool.false_or, if_true, if_false, Bool.false_eq_true, reduceIte]; done)
     | (refine fin_res ?_ (rd6_sl (l := [])) (rd6_sl (l := [])); rw [zf hc]; rfl)
     | (refine fin_res ?_ (rd6_sl (l := [])) (rd6_sl (l := [])); rw [zt hc]; rfl)
     | (refine fin_res ?_ rd6_e0 rd6_e0; simp only [hc, decide_true, decide_false, if_true, if_false, Bool.false_eq_true, reduceIte]; done)
theorem ctr254not (s : LSig) (x : Str) (a : LTerm) (hx : x = nnot): CT 87 [.agg (sigCells s), .s x, avt [a]] (resV (tBool (decide (a.n = 0)), 0)) := by
 refine sem_intro (rx := true) (th := fun _ => none) mixed Tryz.func87 rfl (by kernel_rfl) (by kernel_rfl) (ac := ?_) ?_ g0 ?_
 rotate_left
 · simp only [strip, stripOps, stripOp, hoist, List.filter_cons, List.filter_nil, List.nil_append, List.cons_append, isFree, anyPre, Region.binds, Bool.not_true, Bool.not_false, Bool.false_eq_true, if_true, if_false, Option.isNone_none, Option.isNone_some, Bool.true_and, Bool.false_and, List.map_nil, List.map_cons, List.isEmpty_nil, List.isEmpty_cons, List.append_nil, ckOf, preIs, isMade, isApp, List.getElem?_toArray, List.getElem?_cons_zero, List.getElem?_cons_succ, Bool.or_false, Bool.or_true, Bool.true_or, Bool.false_or, beq_self_eq_true, Option.some_beq_some, Nat.reduceBEq, hasApp, lateOn, isStore, isRd, List.any_cons, List.any_nil, Bool.or_self, Bool.and_self, mode_gc, mode_text]
   rfl
 · generalize hR : ((resV (tBool (decide (a.n = 0)), 0)) : AV) = R
   simp -implicitDefEqProofs (disch := omega) only [Tryz.f87, go_sem, List.replicate, simprocAttr, avt, List.flatMap_cons, List.flatMap_nil, termCells_eq, List.cons_append, List.nil_append, List.append_nil, List.length_cons, List.length_nil, Nat.reduceAdd]
   have m0 : ¬ x = nneg := by rw [hx]; decide
   have m1 : ¬ x = neq := by rw [hx]; decide
   have m2 : ¬ x = nne := by rw [hx]; decide
   have m3 : ¬ x = nand := by rw [hx]; decide
   have m4 : ¬ x = nor := by rw [hx]; decide
   simp -implicitDefEqProofs (disch := omega) only [zf m0, zf m1, zf m2, zf m3, zf m4, zt hx, go_sem, simprocAttr]
   (repeat' (first | refine gT ?_ ?_ | refine gF ?_ ?_ | refine gC ?_ ?_ | ((refine c_ctrE (ctr223 (decide (a.n = 0))) ?_ ?_; (focus (simp -implicitDefEqProofs (disch := omega) only [zf m0, zf m1, zf m2, zf m3, zf m4, zt hx, avs, avb, avi, avo, sigCells, opCells, pairCells, elT, avt, termCells_eq, go_sem, simprocAttr]; done))); simp -implicitDefEqProofs (disch := omega) only [zf m0, zf m1, zf m2, zf m3, zf m4, zt hx, go_sem, simprocAttr]) | refine And.intro (by omega) ?_ | (intro hr; have hc := hr; (try simp only [zda, zdb, zdc, zdd] at hc); simp -implicitDefEqProofs (disch := omega) only [hr, zf m0, zf m1, zf m2, zf m3, zf m4, zt hx, go_sem, simprocAttr]; (try clear hr))))
   all_goals subst hR
   all_goals first
     | exact fin_res rfl (rd6_sl (l := [])) (rd6_sl (l := []))
     | (refine fin_res ?_ (rd6_sl (l := [])) (rd6_sl (l := [])); simp only [hc, decide_true, decide_false, Bool.true_and, Bool.false_and, Bool.or_true, Bool.true_or, Bool.false_or, if_true, if_false, Bool.false_eq_true, reduceIte]; done)
     | (refine fin_res ?_ (rd6_sl (l := [])) (rd6_sl (l := [])); rw [zf hc]; rfl)
     | (refine fin_res ?_ (rd6_sl (l := [])) (rd6_sl (l := [])); rw [zt hc]; rfl)
     | (refine fin_res ?_ rd6_e0 rd6_e0; simp only [hc, decide_true, decide_false, if_true, if_false, Bool.false_eq_true, reduceIte]; done)
theorem ctr254pick0 (s : LSig) (x : Str) (c a b : LTerm) (hc0 : c.n = 0) (hx : x = npick): CT 87 [.agg (sigCells s), .s x, avt [c, a, b]] (resV (b, 0)) := by
 refine sem_intro (rx := true) (th := fun _ => none) mixed Tryz.func87 rfl (by kernel_rfl) (by kernel_rfl) (ac := ?_) ?_ g0 ?_
 rotate_left
 · simp only [strip, stripOps, stripOp, hoist, List.filter_cons, List.filter_nil, List.nil_append, List.cons_append, isFree, anyPre, Region.binds, Bool.not_true, Bool.not_false, Bool.false_eq_true, if_true, if_false, Option.isNone_none, Option.isNone_some, Bool.true_and, Bool.false_and, List.map_nil, List.map_cons, List.isEmpty_nil, List.isEmpty_cons, List.append_nil, ckOf, preIs, isMade, isApp, List.getElem?_toArray, List.getElem?_cons_zero, List.getElem?_cons_succ, Bool.or_false, Bool.or_true, Bool.true_or, Bool.false_or, beq_self_eq_true, Option.some_beq_some, Nat.reduceBEq, hasApp, lateOn, isStore, isRd, List.any_cons, List.any_nil, Bool.or_self, Bool.and_self, mode_gc, mode_text]
   rfl
 · generalize hR : ((resV (b, 0)) : AV) = R
   simp -implicitDefEqProofs (disch := omega) only [Tryz.f87, go_sem, List.replicate, simprocAttr, avt, List.flatMap_cons, List.flatMap_nil, termCells_eq, List.cons_append, List.nil_append, List.append_nil, List.length_cons, List.length_nil, Nat.reduceAdd]
   have hA : (2 - c.n).toNat * 6 = 12 := by omega
   have m0 : ¬ x = nneg := by rw [hx]; decide
   have m1 : ¬ x = neq := by rw [hx]; decide
   have m2 : ¬ x = nne := by rw [hx]; decide
   have m3 : ¬ x = nand := by rw [hx]; decide
   have m4 : ¬ x = nor := by rw [hx]; decide
   have m5 : ¬ x = nnot := by rw [hx]; decide
   simp -implicitDefEqProofs (disch := omega) only [zf m0, zf m1, zf m2, zf m3, zf m4, zf m5, zt hx, hA, List.drop_succ_cons, List.take_succ_cons, List.take_zero, List.drop_zero, go_sem, simprocAttr]
   (repeat' (first | refine gT ?_ ?_ | refine gF ?_ ?_ | refine gC ?_ ?_ | refine And.intro (by omega) ?_ | (intro hr; have hc := hr; (try simp only [zda, zdb, zdc, zdd] at hc); simp -implicitDefEqProofs (disch := omega) only [hr, zf m0, zf m1, zf m2, zf m3, zf m4, zf m5, zt hx, hA, List.drop_succ_cons, List.take_succ_cons, List.take_zero, List.drop_zero, go_sem, simprocAttr]; (try clear hr))))
   all_goals subst hR
   all_goals exact fin_resP (q := (b, 0)) rfl
theorem ctr254pick1 (s : LSig) (x : Str) (c a b : LTerm) (hc0 : c.n = 1) (hx : x = npick): CT 87 [.agg (sigCells s), .s x, avt [c, a, b]] (resV (a, 0)) := by
 refine sem_intro (rx := true) (th := fun _ => none) mixed Tryz.func87 rfl (by kernel_rfl) (by kernel_rfl) (ac := ?_) ?_ g0 ?_
 rotate_left
 · simp only [strip, stripOps, stripOp, hoist, List.filter_cons, List.filter_nil, List.nil_append, List.cons_append, isFree, anyPre, Region.binds, Bool.not_true, Bool.not_false, Bool.false_eq_true, if_true, if_false, Option.isNone_none, Option.isNone_some, Bool.true_and, Bool.false_and, List.map_nil, List.map_cons, List.isEmpty_nil, List.isEmpty_cons, List.append_nil, ckOf, preIs, isMade, isApp, List.getElem?_toArray, List.getElem?_cons_zero, List.getElem?_cons_succ, Bool.or_false, Bool.or_true, Bool.true_or, Bool.false_or, beq_self_eq_true, Option.some_beq_some, Nat.reduceBEq, hasApp, lateOn, isStore, isRd, List.any_cons, List.any_nil, Bool.or_self, Bool.and_self, mode_gc, mode_text]
   rfl
 · generalize hR : ((resV (a, 0)) : AV) = R
   simp -implicitDefEqProofs (disch := omega) only [Tryz.f87, go_sem, List.replicate, simprocAttr, avt, List.flatMap_cons, List.flatMap_nil, termCells_eq, List.cons_append, List.nil_append, List.append_nil, List.length_cons, List.length_nil, Nat.reduceAdd]
   have hA : (2 - c.n).toNat * 6 = 6 := by omega
   have m0 : ¬ x = nneg := by rw [hx]; decide
   have m1 : ¬ x = neq := by rw [hx]; decide
   have m2 : ¬ x = nne := by rw [hx]; decide
   have m3 : ¬ x = nand := by rw [hx]; decide
   have m4 : ¬ x = nor := by rw [hx]; decide
   have m5 : ¬ x = nnot := by rw [hx]; decide
   simp -implicitDefEqProofs (disch := omega) only [zf m0, zf m1, zf m2, zf m3, zf m4, zf m5, zt hx, hA, List.drop_succ_cons, List.take_succ_cons, List.take_zero, List.drop_zero, go_sem, simprocAttr]
   (repeat' (first | refine gT ?_ ?_ | refine gF ?_ ?_ | refine gC ?_ ?_ | refine And.intro (by omega) ?_ | (intro hr; have hc := hr; (try simp only [zda, zdb, zdc, zdd] at hc); simp -implicitDefEqProofs (disch := omega) only [hr, zf m0, zf m1, zf m2, zf m3, zf m4, zf m5, zt hx, hA, List.drop_succ_cons, List.take_succ_cons, List.take_zero, List.drop_zero, go_sem, simprocAttr]; (try clear hr))))
   all_goals subst hR
   all_goals exact fin_resP (q := (a, 0)) rfl
theorem ctr254length (s : LSig) (x : Str) (a : LTerm) (oa : OkT a) (hx : x = nlength): CT 87 [.agg (sigCells s), .s x, avt [a]] (resV (tInt a.kids.length, 0)) := by
 refine sem_intro (rx := true) (th := fun _ => none) mixed Tryz.func87 rfl (by kernel_rfl) (by kernel_rfl) (ac := ?_) ?_ g0 ?_
 rotate_left
 · simp only [strip, stripOps, stripOp, hoist, List.filter_cons, List.filter_nil, List.nil_append, List.cons_append, isFree, anyPre, Region.binds, Bool.not_true, Bool.not_false, Bool.false_eq_true, if_true, if_false, Option.isNone_none, Option.isNone_some, Bool.true_and, Bool.false_and, List.map_nil, List.map_cons, List.isEmpty_nil, List.isEmpty_cons, List.append_nil, ckOf, preIs, isMade, isApp, List.getElem?_toArray, List.getElem?_cons_zero, List.getElem?_cons_succ, Bool.or_false, Bool.or_true, Bool.true_or, Bool.false_or, beq_self_eq_true, Option.some_beq_some, Nat.reduceBEq, hasApp, lateOn, isStore, isRd, List.any_cons, List.any_nil, Bool.or_self, Bool.and_self, mode_gc, mode_text]
   rfl
 · generalize hR : ((resV (tInt a.kids.length, 0)) : AV) = R
   simp -implicitDefEqProofs (disch := omega) only [Tryz.f87, go_sem, List.replicate, simprocAttr, avt, List.flatMap_cons, List.flatMap_nil, termCells_eq, List.cons_append, List.nil_append, List.append_nil, List.length_cons, List.length_nil, Nat.reduceAdd]
   have l1 := oa.kids
   have m0 : ¬ x = nneg := by rw [hx]; decide
   have m1 : ¬ x = neq := by rw [hx]; decide
   have m2 : ¬ x = nne := by rw [hx]; decide
   have m3 : ¬ x = nand := by rw [hx]; decide
   have m4 : ¬ x = nor := by rw [hx]; decide
   have m5 : ¬ x = nnot := by rw [hx]; decide
   have m6 : ¬ x = npick := by rw [hx]; decide
   have m7 : ¬ x = ncat := by rw [hx]; decide
   simp -implicitDefEqProofs (disch := omega) only [zf m0, zf m1, zf m2, zf m3, zf m4, zf m5, zf m6, zf m7, zt hx, go_sem, simprocAttr]
   (repeat' (first | refine gT ?_ ?_ | refine gF ?_ ?_ | refine gC ?_ ?_ | ((refine c_ctrE (ctr221 a.kids.length) ?_ ?_; (focus (simp -implicitDefEqProofs (disch := omega) only [zf m0, zf m1, zf m2, zf m3, zf m4, zf m5, zf m6, zf m7, zt hx, avs, avb, avi, avo, sigCells, opCells, pairCells, elT, avt, termCells_eq, go_sem, simprocAttr]; done))); simp -implicitDefEqProofs (disch := omega) only [zf m0, zf m1, zf m2, zf m3, zf m4, zf m5, zf m6, zf m7, zt hx, go_sem, simprocAttr]) | refine And.intro (by omega) ?_ | (intro hr; have hc := hr; (try simp only [zda, zdb, zdc, zdd] at hc); simp -implicitDefEqProofs (disch := omega) only [hr, zf m0, zf m1, zf m2, zf m3, zf m4, zf m5, zf m6, zf m7, zt hx, go_sem, simprocAttr]; (try clear hr))))
   all_goals subst hR
   all_goals first
     | exact fin_res rfl (rd6_sl (l := [])) (rd6_sl (l := []))
     | (refine fin_res ?_ (rd6_sl (l := [])) (rd6_sl (l := [])); simp only [hc, decide_true, decide_false, Bool.true_and, Bool.false_and, Bool.or_true, Bool.true_or, Bool.false_or, if_true, if_false, Bool.false_eq_true, reduceIte]; done)
     | (refine fin_res ?_ (rd6_sl (l := [])) (rd6_sl (l := [])); rw [zf hc]; rfl)
     | (refine fin_res ?_ (rd6_sl (l := [])) (rd6_sl (l := [])); rw [zt hc]; rfl)
     | (refine fin_res ?_ rd6_e0 rd6_e0; simp only [hc, decide_true, decide_false, if_true, if_false, Bool.false_eq_true, reduceIte]; done)
theorem ctr254text (s : LSig) (x : Str) (a : LTerm) (h : isInt a.n = true) (hx : x = ntext): CT 87 [.agg (sigCells s), .s x, avt [a]] (resV (tText (Lib.itoa a.n), 0)) := by
 refine sem_intro (rx := true) (th := fun _ => none) mixed Tryz.func87 rfl (by kernel_rfl) (by kernel_rfl) (ac := ?_) ?_ g0 ?_
 rotate_left
 · simp only [strip, stripOps, stripOp, hoist, List.filter_cons, List.filter_nil, List.nil_append, List.cons_append, isFree, anyPre, Region.binds, Bool.not_true, Bool.not_false, Bool.false_eq_true, if_true, if_false, Option.isNone_none, Option.isNone_some, Bool.true_and, Bool.false_and, List.map_nil, List.map_cons, List.isEmpty_nil, List.isEmpty_cons, List.append_nil, ckOf, preIs, isMade, isApp, List.getElem?_toArray, List.getElem?_cons_zero, List.getElem?_cons_succ, Bool.or_false, Bool.or_true, Bool.true_or, Bool.false_or, beq_self_eq_true, Option.some_beq_some, Nat.reduceBEq, hasApp, lateOn, isStore, isRd, List.any_cons, List.any_nil, Bool.or_self, Bool.and_self, mode_gc, mode_text]
   rfl
 · generalize hR : ((resV (tText (Lib.itoa a.n), 0)) : AV) = R
   simp -implicitDefEqProofs (disch := omega) only [Tryz.f87, go_sem, List.replicate, simprocAttr, avt, List.flatMap_cons, List.flatMap_nil, termCells_eq, List.cons_append, List.nil_append, List.append_nil, List.length_cons, List.length_nil, Nat.reduceAdd]
   have h1 := int_le h
   have m0 : ¬ x = nneg := by rw [hx]; decide
   have m1 : ¬ x = neq := by rw [hx]; decide
   have m2 : ¬ x = nne := by rw [hx]; decide
   have m3 : ¬ x = nand := by rw [hx]; decide
   have m4 : ¬ x = nor := by rw [hx]; decide
   have m5 : ¬ x = nnot := by rw [hx]; decide
   have m6 : ¬ x = npick := by rw [hx]; decide
   have m7 : ¬ x = ncat := by rw [hx]; decide
   have m8 : ¬ x = nlength := by rw [hx]; decide
   simp -implicitDefEqProofs (disch := omega) only [zf m0, zf m1, zf m2, zf m3, zf m4, zf m5, zf m6, zf m7, zf m8, zt hx, go_sem, simprocAttr]
   (repeat' (first | refine gT ?_ ?_ | refine gF ?_ ?_ | refine gC ?_ ?_ | ((refine c_ctrE (ctr275 a.n (by omega) (by omega)) ?_ ?_; (focus (simp -implicitDefEqProofs (disch := omega) only [zf m0, zf m1, zf m2, zf m3, zf m4, zf m5, zf m6, zf m7, zf m8, zt hx, avs, avb, avi, avo, sigCells, opCells, pairCells, elT, avt, termCells_eq, go_sem, simprocAttr]; done))); simp -implicitDefEqProofs (disch := omega) only [zf m0, zf m1, zf m2, zf m3, zf m4, zf m5, zf m6, zf m7, zf m8, zt hx, go_sem, simprocAttr]) | refine And.intro (by omega) ?_ | (intro hr; have hc := hr; (try simp only [zda, zdb, zdc, zdd] at hc); simp -implicitDefEqProofs (disch := omega) only [hr, zf m0, zf m1, zf m2, zf m3, zf m4, zf m5, zf m6, zf m7, zf m8, zt hx, go_sem, simprocAttr]; (try clear hr))))
   all_goals subst hR
   all_goals exact fin_res rfl rd6_e0 rd6_e0
theorem ctr254cat (s : LSig) (x : Str) (a b : LTerm) (h1 : isText a.text = true) (h2 : isText b.text = true) (hx : x = ncat): CT 87 [.agg (sigCells s), .s x, avt [a, b]] (resV (if isText (a.text ++ b.text) = true then (tText (a.text ++ b.text), 0) else (tZ, 20))) := by
 refine sem_intro (rx := true) (th := fun _ => none) mixed Tryz.func87 rfl (by kernel_rfl) (by kernel_rfl) (ac := ?_) ?_ g0 ?_
 rotate_left
 · simp only [strip, stripOps, stripOp, hoist, List.filter_cons, List.filter_nil, List.nil_append, List.cons_append, isFree, anyPre, Region.binds, Bool.not_true, Bool.not_false, Bool.false_eq_true, if_true, if_false, Option.isNone_none, Option.isNone_some, Bool.true_and, Bool.false_and, List.map_nil, List.map_cons, List.isEmpty_nil, List.isEmpty_cons, List.append_nil, ckOf, preIs, isMade, isApp, List.getElem?_toArray, List.getElem?_cons_zero, List.getElem?_cons_succ, Bool.or_false, Bool.or_true, Bool.true_or, Bool.false_or, beq_self_eq_true, Option.some_beq_some, Nat.reduceBEq, hasApp, lateOn, isStore, isRd, List.any_cons, List.any_nil, Bool.or_self, Bool.and_self, mode_gc, mode_text]
   rfl
 · generalize hR : ((resV (if isText (a.text ++ b.text) = true then (tText (a.text ++ b.text), 0) else (tZ, 20))) : AV) = R
   simp -implicitDefEqProofs (disch := omega) only [Tryz.f87, go_sem, List.replicate, simprocAttr, avt, List.flatMap_cons, List.flatMap_nil, termCells_eq, List.cons_append, List.nil_append, List.append_nil, List.length_cons, List.length_nil, Nat.reduceAdd]
   have l1 := text_len h1
   have l2 := text_len h2
   have m0 : ¬ x = nneg := by rw [hx]; decide
   have m1 : ¬ x = neq := by rw [hx]; decide
   have m2 : ¬ x = nne := by rw [hx]; decide
   have m3 : ¬ x = nand := by rw [hx]; decide
   have m4 : ¬ x = nor := by rw [hx]; decide
   have m5 : ¬ x = nnot := by rw [hx]; decide
   have m6 : ¬ x = npick := by rw [hx]; decide
   simp -implicitDefEqProofs (disch := omega) only [zf m0, zf m1, zf m2, zf m3, zf m4, zf m5, zf m6, zt hx, go_sem, simprocAttr]
   (repeat' (first | refine gT ?_ ?_ | refine gF ?_ ?_ | refine gC ?_ ?_ | refine And.intro (by omega) ?_ | (intro hr; have hc := hr; (try simp only [zda, zdb, zdc, zdd] at hc); simp -implicitDefEqProofs (disch := omega) only [hr, zf m0, zf m1, zf m2, zf m3, zf m4, zf m5, zf m6, zt hx, go_sem, simprocAttr]; (try clear hr))))
   all_goals subst hR
   · have e : isText (a.text ++ b.text) = false := by rw [text_app h1 h2]; exact zf (by omega)
     exact fin_res (by rw [e]; rfl) rd6_e0 rd6_e0
   · have e : isText (a.text ++ b.text) = true := by rw [text_app h1 h2]; exact zt (by omega)
     exact fin_res (by rw [e]; rfl) rd6_e0 rd6_e0

theorem ctr254is_y (s : LSig) (x : Str) (a b : LTerm) (hm : Small s) (hs : OkS s) (hv : validB s = true) (hp : plainV s a = true) (hx : x = nis): CT 87 [.agg (sigCells s), .s x, avt [a, b]] (resV (if existsB s b.text = true then (tBool (atMost s (sortP s a) b.text), 0) else (tZ, 13))) := by
 refine sem_intro (rx := true) (th := fun _ => none) mixed Tryz.func87 rfl (by kernel_rfl) (by kernel_rfl) (ac := ?_) ?_ g0 ?_
 rotate_left
 · simp only [strip, stripOps, stripOp, hoist, List.filter_cons, List.filter_nil, List.nil_append, List.cons_append, isFree, anyPre, Region.binds, Bool.not_true, Bool.not_false, Bool.false_eq_true, if_true, if_false, Option.isNone_none, Option.isNone_some, Bool.true_and, Bool.false_and, List.map_nil, List.map_cons, List.isEmpty_nil, List.isEmpty_cons, List.append_nil, ckOf, preIs, isMade, isApp, List.getElem?_toArray, List.getElem?_cons_zero, List.getElem?_cons_succ, Bool.or_false, Bool.or_true, Bool.true_or, Bool.false_or, beq_self_eq_true, Option.some_beq_some, Nat.reduceBEq, hasApp, lateOn, isStore, isRd, List.any_cons, List.any_nil, Bool.or_self, Bool.and_self, mode_gc, mode_text]
   rfl
 · generalize hR : ((resV (if existsB s b.text = true then (tBool (atMost s (sortP s a) b.text), 0) else (tZ, 13))) : AV) = R
   simp -implicitDefEqProofs (disch := omega) only [Tryz.f87, go_sem, List.replicate, simprocAttr, avt, List.flatMap_cons, List.flatMap_nil, termCells_eq, List.cons_append, List.nil_append, List.append_nil, List.length_cons, List.length_nil, Nat.reduceAdd]
   have m0 : ¬ x = nneg := by rw [hx]; decide
   have m1 : ¬ x = neq := by rw [hx]; decide
   have m2 : ¬ x = nne := by rw [hx]; decide
   have m3 : ¬ x = nand := by rw [hx]; decide
   have m4 : ¬ x = nor := by rw [hx]; decide
   have m5 : ¬ x = nnot := by rw [hx]; decide
   have m6 : ¬ x = npick := by rw [hx]; decide
   have m7 : ¬ x = ncat := by rw [hx]; decide
   have m8 : ¬ x = nlength := by rw [hx]; decide
   have m9 : ¬ x = ntext := by rw [hx]; decide
   have m10 : ¬ x = njoin := by rw [hx]; decide
   have m11 : ¬ x = nget := by rw [hx]; decide
   have m12 : ¬ x = nput := by rw [hx]; decide
   have m13 : ¬ x = nhas := by rw [hx]; decide
   have m14 : ¬ x = ndel := by rw [hx]; decide
   have m15 : ¬ x = nkeys := by rw [hx]; decide
   have m16 : ¬ x = nsize := by rw [hx]; decide
   simp -implicitDefEqProofs (disch := omega) only [zf m0, zf m1, zf m2, zf m3, zf m4, zf m5, zf m6, zf m7, zf m8, zf m9, zf m10, zf m11, zf m12, zf m13, zf m14, zf m15, zf m16, zt hx, go_sem, simprocAttr]
   (repeat' (first | refine gT ?_ ?_ | refine gF ?_ ?_ | refine gC ?_ ?_ | ((first | (refine c_ctrE (ctr78) ?_ ?_; (focus (simp -implicitDefEqProofs (disch := omega) only [zf m0, zf m1, zf m2, zf m3, zf m4, zf m5, zf m6, zf m7, zf m8, zf m9, zf m10, zf m11, zf m12, zf m13, zf m14, zf m15, zf m16, zt hx, avs, avb, avi, avo, sigCells, opCells, pairCells, elT, avt, termCells_eq, go_sem, simprocAttr]; done))) | (refine c_ctrE (ctr27 alwaysB b.text (by decide)) ?_ ?_; (focus (simp -implicitDefEqProofs (disch := omega) only [zf m0, zf m1, zf m2, zf m3, zf m4, zf m5, zf m6, zf m7, zf m8, zf m9, zf m10, zf m11, zf m12, zf m13, zf m14, zf m15, zf m16, zt hx, avs, avb, avi, avo, sigCells, opCells, pairCells, elT, avt, termCells_eq, go_sem, simprocAttr]; done))) | (refine c_ctrE (ctr27 s.sorts b.text hs.sorts) ?_ ?_; (focus (simp -implicitDefEqProofs (disch := omega) only [zf m0, zf m1, zf m2, zf m3, zf m4, zf m5, zf m6, zf m7, zf m8, zf m9, zf m10, zf m11, zf m12, zf m13, zf m14, zf m15, zf m16, zt hx, avs, avb, avi, avo, sigCells, opCells, pairCells, elT, avt, termCells_eq, go_sem, simprocAttr]; done))) | (refine c_ctrE (ctr226 s a b.text hm hs hv hp) ?_ ?_; (focus (simp -implicitDefEqProofs (disch := omega) only [zf m0, zf m1, zf m2, zf m3, zf m4, zf m5, zf m6, zf m7, zf m8, zf m9, zf m10, zf m11, zf m12, zf m13, zf m14, zf m15, zf m16, zt hx, avs, avb, avi, avo, sigCells, opCells, pairCells, elT, avt, termCells_eq, go_sem, simprocAttr]; done))) | (refine c_ctrE (ctr223 (atMost s (sortP s a) b.text)) ?_ ?_; (focus (simp -implicitDefEqProofs (disch := omega) only [zf m0, zf m1, zf m2, zf m3, zf m4, zf m5, zf m6, zf m7, zf m8, zf m9, zf m10, zf m11, zf m12, zf m13, zf m14, zf m15, zf m16, zt hx, avs, avb, avi, avo, sigCells, opCells, pairCells, elT, avt, termCells_eq, go_sem, simprocAttr]; done)))); simp -implicitDefEqProofs (disch := omega) only [zf m0, zf m1, zf m2, zf m3, zf m4, zf m5, zf m6, zf m7, zf m8, zf m9, zf m10, zf m11, zf m12, zf m13, zf m14, zf m15, zf m16, zt hx, go_sem, simprocAttr]) | refine And.intro (by omega) ?_ | (intro hr; have hc := hr; (try simp only [zda, zdb, zdc, zdd] at hc); simp -implicitDefEqProofs (disch := omega) only [hr, zf m0, zf m1, zf m2, zf m3, zf m4, zf m5, zf m6, zf m7, zf m8, zf m9, zf m10, zf m11, zf m12, zf m13, zf m14, zf m15, zf m16, zt hx, go_sem, simprocAttr]; (try clear hr))))
   all_goals subst hR
   · have e : existsB s b.text = false := by simp only [existsB, hc, Bool.or_false]; assumption
     exact fin_res (by rw [e]; rfl) rd6_e0 rd6_e0
   · have e : existsB s b.text = true := by simp only [existsB, hc, Bool.or_true]
     exact fin_res (by rw [e]; rfl) (rd6_sl (l := [])) (rd6_sl (l := []))
   · have e : existsB s b.text = true := by simp only [existsB, hc, Bool.true_or]
     exact fin_res (by rw [e]; rfl) (rd6_sl (l := [])) (rd6_sl (l := []))
theorem ctr254isvalue (s : LSig) (x : Str) (a : LTerm) (hm : Small s) (hs : OkS s) (hv : validB s = true) (hp : plainV s a = true) (hx : x = nisvalue): CT 87 [.agg (sigCells s), .s x, avt [a]] (resV (tBool (isValue s (sortP s a)), 0)) := by
 refine sem_intro (rx := true) (th := fun _ => none) mixed Tryz.func87 rfl (by kernel_rfl) (by kernel_rfl) (ac := ?_) ?_ g0 ?_
 rotate_left
 · simp only [strip, stripOps, stripOp, hoist, List.filter_cons, List.filter_nil, List.nil_append, List.cons_append, isFree, anyPre, Region.binds, Bool.not_true, Bool.not_false, Bool.false_eq_true, if_true, if_false, Option.isNone_none, Option.isNone_some, Bool.true_and, Bool.false_and, List.map_nil, List.map_cons, List.isEmpty_nil, List.isEmpty_cons, List.append_nil, ckOf, preIs, isMade, isApp, List.getElem?_toArray, List.getElem?_cons_zero, List.getElem?_cons_succ, Bool.or_false, Bool.or_true, Bool.true_or, Bool.false_or, beq_self_eq_true, Option.some_beq_some, Nat.reduceBEq, hasApp, lateOn, isStore, isRd, List.any_cons, List.any_nil, Bool.or_self, Bool.and_self, mode_gc, mode_text]
   rfl
 · generalize hR : ((resV (tBool (isValue s (sortP s a)), 0)) : AV) = R
   simp -implicitDefEqProofs (disch := omega) only [Tryz.f87, go_sem, List.replicate, simprocAttr, avt, List.flatMap_cons, List.flatMap_nil, termCells_eq, List.cons_append, List.nil_append, List.append_nil, List.length_cons, List.length_nil, Nat.reduceAdd]
   have m0 : ¬ x = nneg := by rw [hx]; decide
   have m1 : ¬ x = neq := by rw [hx]; decide
   have m2 : ¬ x = nne := by rw [hx]; decide
   have m3 : ¬ x = nand := by rw [hx]; decide
   have m4 : ¬ x = nor := by rw [hx]; decide
   have m5 : ¬ x = nnot := by rw [hx]; decide
   have m6 : ¬ x = npick := by rw [hx]; decide
   have m7 : ¬ x = ncat := by rw [hx]; decide
   have m8 : ¬ x = nlength := by rw [hx]; decide
   have m9 : ¬ x = ntext := by rw [hx]; decide
   have m10 : ¬ x = njoin := by rw [hx]; decide
   have m11 : ¬ x = nget := by rw [hx]; decide
   have m12 : ¬ x = nput := by rw [hx]; decide
   have m13 : ¬ x = nhas := by rw [hx]; decide
   have m14 : ¬ x = ndel := by rw [hx]; decide
   have m15 : ¬ x = nkeys := by rw [hx]; decide
   have m16 : ¬ x = nsize := by rw [hx]; decide
   have m17 : ¬ x = nis := by rw [hx]; decide
   simp -implicitDefEqProofs (disch := omega) only [zf m0, zf m1, zf m2, zf m3, zf m4, zf m5, zf m6, zf m7, zf m8, zf m9, zf m10, zf m11, zf m12, zf m13, zf m14, zf m15, zf m16, zf m17, zt hx, go_sem, simprocAttr]
   (repeat' (first | refine gT ?_ ?_ | refine gF ?_ ?_ | refine gC ?_ ?_ | ((first | (refine c_ctrE (ctr277 s a hm hs hv hp) ?_ ?_; (focus (simp -implicitDefEqProofs (disch := omega) only [zf m0, zf m1, zf m2, zf m3, zf m4, zf m5, zf m6, zf m7, zf m8, zf m9, zf m10, zf m11, zf m12, zf m13, zf m14, zf m15, zf m16, zf m17, zt hx, avs, avb, avi, avo, sigCells, opCells, pairCells, elT, avt, termCells_eq, go_sem, simprocAttr]; done))) | (refine c_ctrE (ctr223 (isValue s (sortP s a))) ?_ ?_; (focus (simp -implicitDefEqProofs (disch := omega) only [zf m0, zf m1, zf m2, zf m3, zf m4, zf m5, zf m6, zf m7, zf m8, zf m9, zf m10, zf m11, zf m12, zf m13, zf m14, zf m15, zf m16, zf m17, zt hx, avs, avb, avi, avo, sigCells, opCells, pairCells, elT, avt, termCells_eq, go_sem, simprocAttr]; done)))); simp -implicitDefEqProofs (disch := omega) only [zf m0, zf m1, zf m2, zf m3, zf m4, zf m5, zf m6, zf m7, zf m8, zf m9, zf m10, zf m11, zf m12, zf m13, zf m14, zf m15, zf m16, zf m17, zt hx, go_sem, simprocAttr]) | refine And.intro (by omega) ?_ | (intro hr; have hc := hr; (try simp only [zda, zdb, zdc, zdd] at hc); simp -implicitDefEqProofs (disch := omega) only [hr, zf m0, zf m1, zf m2, zf m3, zf m4, zf m5, zf m6, zf m7, zf m8, zf m9, zf m10, zf m11, zf m12, zf m13, zf m14, zf m15, zf m16, zf m17, zt hx, go_sem, simprocAttr]; (try clear hr))))
   all_goals subst hR
   all_goals first
     | exact fin_res rfl (rd6_sl (l := [])) (rd6_sl (l := []))
     | (refine fin_res ?_ (rd6_sl (l := [])) (rd6_sl (l := [])); simp only [hc, decide_true, decide_false, Bool.true_and, Bool.false_and, Bool.or_true, Bool.true_or, Bool.false_or, if_true, if_false, Bool.false_eq_true, reduceIte]; done)
     | (refine fin_res ?_ (rd6_sl (l := [])) (rd6_sl (l := [])); rw [zf hc]; rfl)
     | (refine fin_res ?_ (rd6_sl (l := [])) (rd6_sl (l := [])); rw [zt hc]; rfl)
     | (refine fin_res ?_ rd6_e0 rd6_e0; simp only [hc, decide_true, decide_false, if_true, if_false, Bool.false_eq_true, reduceIte]; done)

theorem ctr254join (s : LSig) (x : Str) (a b : LTerm) (ha : a.kids.length ≤ 2000) (hb : b.kids.length ≤ 2000) (hx : x = njoin): CT 87 [.agg (sigCells s), .s x, avt [a, b]] (resV (.mk 7 0 [] [] (a.kids ++ b.kids) [], 0)) := by
 refine sem_intro (rx := true) (th := fun _ => none) mixed Tryz.func87 rfl (by kernel_rfl) (by kernel_rfl) (ac := ?_) ?_ g0 ?_
 rotate_left
 · simp only [strip, stripOps, stripOp, hoist, List.filter_cons, List.filter_nil, List.nil_append, List.cons_append, isFree, anyPre, Region.binds, Bool.not_true, Bool.not_false, Bool.false_eq_true, if_true, if_false, Option.isNone_none, Option.isNone_some, Bool.true_and, Bool.false_and, List.map_nil, List.map_cons, List.isEmpty_nil, List.isEmpty_cons, List.append_nil, ckOf, preIs, isMade, isApp, List.getElem?_toArray, List.getElem?_cons_zero, List.getElem?_cons_succ, Bool.or_false, Bool.or_true, Bool.true_or, Bool.false_or, beq_self_eq_true, Option.some_beq_some, Nat.reduceBEq, hasApp, lateOn, isStore, isRd, List.any_cons, List.any_nil, Bool.or_self, Bool.and_self, mode_gc, mode_text]
   rfl
 · generalize hR : ((resV (.mk 7 0 [] [] (a.kids ++ b.kids) [], 0)) : AV) = R
   simp -implicitDefEqProofs (disch := omega) only [Tryz.f87, go_sem, List.replicate, simprocAttr, avt, List.flatMap_cons, List.flatMap_nil, termCells_eq, List.cons_append, List.nil_append, List.append_nil, List.length_cons, List.length_nil, Nat.reduceAdd]
   have m0 : ¬ x = nneg := by rw [hx]; decide
   have m1 : ¬ x = neq := by rw [hx]; decide
   have m2 : ¬ x = nne := by rw [hx]; decide
   have m3 : ¬ x = nand := by rw [hx]; decide
   have m4 : ¬ x = nor := by rw [hx]; decide
   have m5 : ¬ x = nnot := by rw [hx]; decide
   have m6 : ¬ x = npick := by rw [hx]; decide
   have m7 : ¬ x = ncat := by rw [hx]; decide
   have m8 : ¬ x = nlength := by rw [hx]; decide
   have m9 : ¬ x = ntext := by rw [hx]; decide
   simp -implicitDefEqProofs (disch := omega) only [zf m0, zf m1, zf m2, zf m3, zf m4, zf m5, zf m6, zf m7, zf m8, zf m9, zt hx, go_sem, simprocAttr]
   (repeat' (first | refine gT ?_ ?_ | refine gF ?_ ?_ | refine gC ?_ ?_ | refine And.intro (by omega) ?_ | (intro hr; have hc := hr; (try simp only [zda, zdb, zdc, zdd] at hc); simp -implicitDefEqProofs (disch := omega) only [hr, zf m0, zf m1, zf m2, zf m3, zf m4, zf m5, zf m6, zf m7, zf m8, zf m9, zt hx, go_sem, simprocAttr]; (try clear hr))))
   subst hR
   exact fin_res rfl (rd_own (rest := []) (by rw [List.append_nil, List.flatMap_append]; rfl) (by simp)) rd6_e0
theorem ctr254map (s : LSig) (x : Str) (l : List LTerm) (p : Res) (c : CT 136 [.s x, avt l] (resV p)) (m0 : ¬ x = nneg) (m1 : ¬ x = neq) (m2 : ¬ x = nne) (m3 : ¬ x = nand) (m4 : ¬ x = nor) (m5 : ¬ x = nnot) (m6 : ¬ x = npick) (m7 : ¬ x = ncat) (m8 : ¬ x = nlength) (m9 : ¬ x = ntext) (m10 : ¬ x = njoin) (hor : x = nget ∨ x = nput ∨ x = nhas ∨ x = ndel ∨ x = nkeys ∨ x = nsize): CT 87 [.agg (sigCells s), .s x, avt l] (resV p) := by
 refine sem_intro (rx := true) (th := fun _ => none) mixed Tryz.func87 rfl (by kernel_rfl) (by kernel_rfl) (ac := ?_) ?_ g0 ?_
 rotate_left
 · simp only [strip, stripOps, stripOp, hoist, List.filter_cons, List.filter_nil, List.nil_append, List.cons_append, isFree, anyPre, Region.binds, Bool.not_true, Bool.not_false, Bool.false_eq_true, if_true, if_false, Option.isNone_none, Option.isNone_some, Bool.true_and, Bool.false_and, List.map_nil, List.map_cons, List.isEmpty_nil, List.isEmpty_cons, List.append_nil, ckOf, preIs, isMade, isApp, List.getElem?_toArray, List.getElem?_cons_zero, List.getElem?_cons_succ, Bool.or_false, Bool.or_true, Bool.true_or, Bool.false_or, beq_self_eq_true, Option.some_beq_some, Nat.reduceBEq, hasApp, lateOn, isStore, isRd, List.any_cons, List.any_nil, Bool.or_self, Bool.and_self, mode_gc, mode_text]
   rfl
 · generalize hR : ((resV p) : AV) = R
   simp -implicitDefEqProofs (disch := omega) only [Tryz.f87, go_sem, List.replicate, simprocAttr, avt]
   simp -implicitDefEqProofs (disch := omega) only [zf m0, zf m1, zf m2, zf m3, zf m4, zf m5, zf m6, zf m7, zf m8, zf m9, zf m10, go_sem, simprocAttr]
   (repeat' (first | refine gT ?_ ?_ | refine gF ?_ ?_ | refine gC ?_ ?_ | ((refine c_ctrE (c) ?_ ?_; (focus (simp -implicitDefEqProofs (disch := omega) only [avs, avb, avi, avo, sigCells, opCells, pairCells, elT, avt, termCells_eq, go_sem, simprocAttr]; done))); simp -implicitDefEqProofs (disch := omega) only [go_sem, simprocAttr]) | refine And.intro (by omega) ?_ | (intro hr; have hc := hr; (try simp only [zda, zdb, zdc, zdd] at hc); simp -implicitDefEqProofs (disch := omega) only [hr, go_sem, simprocAttr]; (try clear hr))))
   all_goals subst hR
   all_goals first
     | exact fin_resP rfl
     | (exfalso; rcases hor with h | h | h | h | h | h <;> contradiction)
theorem ctr254num (s : LSig) (x : Str) (a b : LTerm) (ha : isInt a.n = true) (hb : isInt b.n = true) (p : Res) (hp : p = numV x a.n b.n) (m0 : ¬ x = nneg) (m1 : ¬ x = neq) (m2 : ¬ x = nne) (m3 : ¬ x = nand) (m4 : ¬ x = nor) (m5 : ¬ x = nnot) (m6 : ¬ x = npick) (m7 : ¬ x = ncat) (m8 : ¬ x = nlength) (m9 : ¬ x = ntext) (m10 : ¬ x = njoin) (m11 : ¬ x = nget) (m12 : ¬ x = nput) (m13 : ¬ x = nhas) (m14 : ¬ x = ndel) (m15 : ¬ x = nkeys) (m16 : ¬ x = nsize) (m17 : ¬ x = nis) (m18 : ¬ x = nisvalue): CT 87 [.agg (sigCells s), .s x, avt [a, b]] (resV p) := by
 refine sem_intro (rx := true) (th := fun _ => none) mixed Tryz.func87 rfl (by kernel_rfl) (by kernel_rfl) (ac := ?_) ?_ g0 ?_
 rotate_left
 · simp only [strip, stripOps, stripOp, hoist, List.filter_cons, List.filter_nil, List.nil_append, List.cons_append, isFree, anyPre, Region.binds, Bool.not_true, Bool.not_false, Bool.false_eq_true, if_true, if_false, Option.isNone_none, Option.isNone_some, Bool.true_and, Bool.false_and, List.map_nil, List.map_cons, List.isEmpty_nil, List.isEmpty_cons, List.append_nil, ckOf, preIs, isMade, isApp, List.getElem?_toArray, List.getElem?_cons_zero, List.getElem?_cons_succ, Bool.or_false, Bool.or_true, Bool.true_or, Bool.false_or, beq_self_eq_true, Option.some_beq_some, Nat.reduceBEq, hasApp, lateOn, isStore, isRd, List.any_cons, List.any_nil, Bool.or_self, Bool.and_self, mode_gc, mode_text]
   rfl
 · generalize hR : ((resV p) : AV) = R
   simp -implicitDefEqProofs (disch := omega) only [Tryz.f87, go_sem, List.replicate, simprocAttr, avt, List.flatMap_cons, List.flatMap_nil, termCells_eq, List.cons_append, List.nil_append, List.append_nil, List.length_cons, List.length_nil, Nat.reduceAdd]
   have c : CT 138 [.s x, .i .i64 a.n, .i .i64 b.n] (resV p) := hp ▸ ctr278 x a.n b.n ha hb
   simp -implicitDefEqProofs (disch := omega) only [zf m0, zf m1, zf m2, zf m3, zf m4, zf m5, zf m6, zf m7, zf m8, zf m9, zf m10, zf m11, zf m12, zf m13, zf m14, zf m15, zf m16, zf m17, zf m18, go_sem, simprocAttr]
   (repeat' (first | refine gT ?_ ?_ | refine gF ?_ ?_ | refine gC ?_ ?_ | ((refine c_ctrE (c) ?_ ?_; (focus (simp -implicitDefEqProofs (disch := omega) only [avs, avb, avi, avo, sigCells, opCells, pairCells, elT, avt, termCells_eq, go_sem, simprocAttr]; done))); simp -implicitDefEqProofs (disch := omega) only [go_sem, simprocAttr]) | refine And.intro (by omega) ?_ | (intro hr; have hc := hr; (try simp only [zda, zdb, zdc, zdd] at hc); simp -implicitDefEqProofs (disch := omega) only [hr, go_sem, simprocAttr]; (try clear hr))))
   all_goals subst hR
   all_goals exact fin_resP rfl

theorem ctr230 (s : LSig) (t : LTerm) (hs : Small s) (ht : OkT t): CT 36 [elT t, .box [bookAV s] 0] (.b (!plainV s t)) := by
 refine sem_introB mixed Tryz.func36 g0 ?_
 · skip
   (repeat' (first | refine gT ?_ ?_ | refine gF ?_ ?_ | refine gC ?_ ?_ | ((refine c_ctrE (ctr231 s t hs ht) ?_ ?_; (focus (simp -implicitDefEqProofs (disch := omega) only [avs, avb, avi, avo, sigCells, opCells, pairCells, elT, avt, termCells_eq, go_sem, ↓reduceIte, reduceAdd, reduceSub, reduceMul, reduceLeDiff, reduceLT, reduceEqDiff, reduceNeg, Nat.reduceBEq]; done))); simp -implicitDefEqProofs (disch := omega) only [go_sem, ↓reduceIte, reduceAdd, reduceSub, reduceMul, reduceLeDiff, reduceLT, reduceEqDiff, reduceNeg, Nat.reduceBEq]) | refine And.intro (by omega) ?_ | (intro hr; have hc := hr; (try simp only [zda, zdb, zdc, zdd] at hc); simp -implicitDefEqProofs (disch := omega) only [hr, go_sem, ↓reduceIte, reduceAdd, reduceSub, reduceMul, reduceLeDiff, reduceLT, reduceEqDiff, reduceNeg, Nat.reduceBEq]; (try clear hr))))
   all_goals exact fin_eq rfl rfl
theorem ctr241 (l : List LTerm) (f : FuncId) (a b : List AV) (p : LTerm → Bool) (hl : l.length ≤ 1466015503701) (ha : persL a = true) (hb : persL b = true) (hw : ∀ k, k < l.length → CT f (a ++ [elT (l.getD k default)] ++ b) (.b (p (l.getD k default)))): CT 68 [avt l, .fn f a b] (.i .i64 (idx p l)) := by
 refine sem_introB mixed Tryz.func68 g0 ?_
 · skip
   refine x_loopJ (fun (k : Nat) => [.k, .k, .k, .k, .j, .j, .k, .k, .v (.i .i64 k), .j, .j, .j, .j, .j, .j, .j, .j, .j, .j]) (fun k => []) (fun k => k ≤ l.length ∧ ∀ j, j < k → p (l.getD j default) = false) (fun k => l.length - k) (0) ⟨Nat.zero_le _, fun j h => by omega⟩ rfl (by simp [Fits]) ?_
   rintro k j ⟨hk, hn⟩
   simp -implicitDefEqProofs (disch := omega) only [go_sem, ↓reduceIte, reduceAdd, reduceSub, reduceMul, reduceLeDiff, reduceLT, reduceEqDiff, reduceNeg, Nat.reduceBEq]
   (repeat' (first | refine gT ?_ ?_ | refine gF ?_ ?_ | refine gC ?_ ?_ | refine And.intro (by omega) ?_ | (intro hr; have hc := hr; (try simp only [zda, zdb, zdc, zdd] at hc); simp -implicitDefEqProofs (disch := omega) only [hr, go_sem, ↓reduceIte, reduceAdd, reduceSub, reduceMul, reduceLeDiff, reduceLT, reduceEqDiff, reduceNeg, Nat.reduceBEq]; (try clear hr))))
   · refine c_ctrE (hw k (by omega)) ?_ ?_
     · simp -implicitDefEqProofs (disch := omega) only [List.map_append, snapL ha, snapL hb, elT, termCells_eq, go_sem, ↓reduceIte, reduceAdd, reduceSub, reduceMul, reduceLeDiff, reduceLT, reduceEqDiff, reduceNeg, Nat.reduceBEq]
     · simp -implicitDefEqProofs (disch := omega) only [go_sem, ↓reduceIte, reduceAdd, reduceSub, reduceMul, reduceLeDiff, reduceLT, reduceEqDiff, reduceNeg, Nat.reduceBEq]
       (repeat' (first | refine gT ?_ ?_ | refine gF ?_ ?_ | refine gC ?_ ?_ | refine And.intro (by omega) ?_ | (intro hr; have hc := hr; (try simp only [zda, zdb, zdc, zdd] at hc); simp -implicitDefEqProofs (disch := omega) only [hr, go_sem, ↓reduceIte, reduceAdd, reduceSub, reduceMul, reduceLeDiff, reduceLT, reduceEqDiff, reduceNeg, Nat.reduceBEq]; (try clear hr))))
       · refine fin_eq ?_ (by rfl)
         rw [idx_some (d := default) (k := k) (by omega) hc hn]
       · exact ⟨k + 1, ⟨by omega, below_succ hn hc⟩, by omega, by simp⟩
   · refine fin_eq ?_ (by rfl)
     have h1 : k = l.length := by omega
     rw [idx_none (h1 ▸ hn)]
theorem ctr229 (l : List LTerm) (f : FuncId) (a b : List AV) (p : LTerm → Bool) (hl : l.length ≤ 1466015503701) (ha : persL a = true) (hb : persL b = true) (hw : ∀ k, k < l.length → CT f (a ++ [elT (l.getD k default)] ++ b) (.b (p (l.getD k default)))): CT 35 [avt l, .fn f a b] (.b (l.any p)) := by
 refine sem_introB mixed Tryz.func35 g0 ?_
 · skip
   refine c_ctrE (ctr241 l f a b p hl ha hb hw) ?_ ?_
   · simp -implicitDefEqProofs (disch := omega) only [ha, hb, avt, go_sem, ↓reduceIte, reduceAdd, reduceSub, reduceMul, reduceLeDiff, reduceLT, reduceEqDiff, reduceNeg, Nat.reduceBEq]
   · simp -implicitDefEqProofs (disch := omega) only [go_sem, ↓reduceIte, reduceAdd, reduceSub, reduceMul, reduceLeDiff, reduceLT, reduceEqDiff, reduceNeg, Nat.reduceBEq]
     refine fin_eq ?_ (by rfl)
     rw [idx_any]

theorem ctr247 (x : Str) (l : List LTerm) (p : Res) (c : CT 76 [.s x, avt l] (resV p)): CT 75 [.box [.s x] 0, .box [avt l] 0] (resV p) := by
 refine sem_introA mixed Tryz.func75 g0 ?_
 · generalize hR : ((resV p) : AV) = R
   simp -implicitDefEqProofs (disch := omega) only [Tryz.f75, go_sem, List.replicate, ↓reduceIte, reduceAdd, reduceSub, reduceMul, reduceLeDiff, reduceLT, reduceEqDiff, reduceNeg, Nat.reduceBEq, avt]
   (repeat' (first | refine gT ?_ ?_ | refine gF ?_ ?_ | refine gC ?_ ?_ | ((refine c_ctrE (c) ?_ ?_; (focus (simp -implicitDefEqProofs (disch := omega) only [avs, avb, avi, avo, sigCells, opCells, pairCells, elT, avt, termCells_eq, go_sem, ↓reduceIte, reduceAdd, reduceSub, reduceMul, reduceLeDiff, reduceLT, reduceEqDiff, reduceNeg, Nat.reduceBEq]; done))); simp -implicitDefEqProofs (disch := omega) only [go_sem, ↓reduceIte, reduceAdd, reduceSub, reduceMul, reduceLeDiff, reduceLT, reduceEqDiff, reduceNeg, Nat.reduceBEq]) | refine And.intro (by omega) ?_ | (intro hr; have hc := hr; (try simp only [zda, zdb, zdc, zdd] at hc); simp -implicitDefEqProofs (disch := omega) only [hr, go_sem, ↓reduceIte, reduceAdd, reduceSub, reduceMul, reduceLeDiff, reduceLT, reduceEqDiff, reduceNeg, Nat.reduceBEq]; (try clear hr))))
   all_goals subst hR
   all_goals exact fin_resP rfl
theorem ctr249 (x : Str) (l : List LTerm) (p : Res) (c : CT 78 [.s x, avt l] (resV p)): CT 77 [.box [.s x] 0, .box [avt l] 0] (resV p) := by
 refine sem_introA mixed Tryz.func77 g0 ?_
 · generalize hR : ((resV p) : AV) = R
   simp -implicitDefEqProofs (disch := omega) only [Tryz.f77, go_sem, List.replicate, ↓reduceIte, reduceAdd, reduceSub, reduceMul, reduceLeDiff, reduceLT, reduceEqDiff, reduceNeg, Nat.reduceBEq, avt]
   (repeat' (first | refine gT ?_ ?_ | refine gF ?_ ?_ | refine gC ?_ ?_ | ((refine c_ctrE (c) ?_ ?_; (focus (simp -implicitDefEqProofs (disch := omega) only [avs, avb, avi, avo, sigCells, opCells, pairCells, elT, avt, termCells_eq, go_sem, ↓reduceIte, reduceAdd, reduceSub, reduceMul, reduceLeDiff, reduceLT, reduceEqDiff, reduceNeg, Nat.reduceBEq]; done))); simp -implicitDefEqProofs (disch := omega) only [go_sem, ↓reduceIte, reduceAdd, reduceSub, reduceMul, reduceLeDiff, reduceLT, reduceEqDiff, reduceNeg, Nat.reduceBEq]) | refine And.intro (by omega) ?_ | (intro hr; have hc := hr; (try simp only [zda, zdb, zdc, zdd] at hc); simp -implicitDefEqProofs (disch := omega) only [hr, go_sem, ↓reduceIte, reduceAdd, reduceSub, reduceMul, reduceLeDiff, reduceLT, reduceEqDiff, reduceNeg, Nat.reduceBEq]; (try clear hr))))
   all_goals subst hR
   all_goals exact fin_resP rfl
theorem ctr245 (s : LSig) (x : Str) (l : List LTerm) (p : Res) (c : CT 74 [bookAV s, .s x, avt l] (resV p)): CT 73 [.box [bookAV s] 0, .box [.s x] 0, .box [avt l] 0] (resV p) := by
 refine sem_introA mixed Tryz.func73 g0 ?_
 · generalize hR : ((resV p) : AV) = R
   simp -implicitDefEqProofs (disch := omega) only [Tryz.f73, go_sem, List.replicate, ↓reduceIte, reduceAdd, reduceSub, reduceMul, reduceLeDiff, reduceLT, reduceEqDiff, reduceNeg, Nat.reduceBEq, avt]
   (repeat' (first | refine gT ?_ ?_ | refine gF ?_ ?_ | refine gC ?_ ?_ | ((refine c_ctrE (c) ?_ ?_; (focus (simp -implicitDefEqProofs (disch := omega) only [avs, avb, avi, avo, sigCells, opCells, pairCells, elT, avt, termCells_eq, go_sem, ↓reduceIte, reduceAdd, reduceSub, reduceMul, reduceLeDiff, reduceLT, reduceEqDiff, reduceNeg, Nat.reduceBEq]; done))); simp -implicitDefEqProofs (disch := omega) only [go_sem, ↓reduceIte, reduceAdd, reduceSub, reduceMul, reduceLeDiff, reduceLT, reduceEqDiff, reduceNeg, Nat.reduceBEq]) | refine And.intro (by omega) ?_ | (intro hr; have hc := hr; (try simp only [zda, zdb, zdc, zdd] at hc); simp -implicitDefEqProofs (disch := omega) only [hr, go_sem, ↓reduceIte, reduceAdd, reduceSub, reduceMul, reduceLeDiff, reduceLT, reduceEqDiff, reduceNeg, Nat.reduceBEq]; (try clear hr))))
   all_goals subst hR
   all_goals exact fin_resP rfl

theorem ctr232_n (s : LSig) (x : Str) (l : List LTerm) (hb : builtIns.contains x = false): CT 38 [bookAV s, .s x, avt l] (resV (tZ, 4)) := by
 refine sem_introA mixed Tryz.func38 g0 ?_
 · generalize hR : ((resV (tZ, 4)) : AV) = R
   simp -implicitDefEqProofs (disch := omega) only [Tryz.f38, go_sem, List.replicate, simprocAttr, avt]
   have c := ctr237 x
   rw [built_no hb] at c
   (repeat' (first | refine gT ?_ ?_ | refine gF ?_ ?_ | refine gC ?_ ?_ | ((refine c_ctrE (c) ?_ ?_; (focus (simp -implicitDefEqProofs (disch := omega) only [avs, avb, avi, avo, sigCells, opCells, pairCells, elT, avt, termCells_eq, go_sem, simprocAttr]; done))); simp -implicitDefEqProofs (disch := omega) only [go_sem, simprocAttr]) | refine And.intro (by omega) ?_ | (intro hr; have hc := hr; (try simp only [zda, zdb, zdc, zdd] at hc); simp -implicitDefEqProofs (disch := omega) only [hr, go_sem, simprocAttr]; (try clear hr))))
   all_goals subst hR
   all_goals exact fin_res rfl rd6_e0 rd6_e0
theorem ctr232_l (s : LSig) (x : Str) (l : List LTerm) (hl : l.length ≤ 1466015503701) (hb : builtIns.contains x = true) (hn : ¬ l.length = (argsP x).length): CT 38 [bookAV s, .s x, avt l] (resV (tZ, 15)) := by
 refine sem_introA mixed Tryz.func38 g0 ?_
 · generalize hR : ((resV (tZ, 15)) : AV) = R
   simp -implicitDefEqProofs (disch := omega) only [Tryz.f38, go_sem, List.replicate, simprocAttr, avt]
   have c := ctr237 x
   rw [built_yes hb] at c
   (repeat' (first | refine gT ?_ ?_ | refine gF ?_ ?_ | refine gC ?_ ?_ | ((refine c_ctrE (c) ?_ ?_; (focus (simp -implicitDefEqProofs (disch := omega) only [avs, avb, avi, avo, sigCells, opCells, pairCells, elT, avt, termCells_eq, go_sem, simprocAttr]; done))); simp -implicitDefEqProofs (disch := omega) only [go_sem, simprocAttr]) | refine And.intro (by omega) ?_ | (intro hr; have hc := hr; (try simp only [zda, zdb, zdc, zdd] at hc); simp -implicitDefEqProofs (disch := omega) only [hr, go_sem, simprocAttr]; (try clear hr))))
   all_goals first
     | (subst hR; exact fin_res rfl rd6_e0 rd6_e0)
     | (exfalso; omega)
def calcFit (s : LSig) (x : Str) (l : List LTerm) : Bool := allN l.length (fun i => atMost s (sortP s (l.getD i default)) ((argsP x).getD i []))
theorem args_cons {x : Str} (hb : builtIns.contains x = true) : ∃ a m, argsP x = a :: m := by
 have h : ∀ y ∈ builtIns, (argsP y).length ≠ 0 := by decide +kernel
 have h := h x (by simpa using hb)
 cases hA : argsP x with
 | nil => rw [hA] at h; exact absurd rfl h
 | cons a m => exact ⟨a, m, rfl⟩
def limV (p : Res) : Res := if p.2 = 0 ∧ validT nodeB p.1 = false then (tZ, 3) else p
theorem ctr232_all (s : LSig) (x : Str) (l : List LTerm) (p : Res) (hs : Small s) (hl : l.length ≤ 1466015503701) (hb : builtIns.contains x = true) (hn : l.length = (argsP x).length) (ci : calcFit s x l = true → (argsP x).getD 0 [] = intS → CT 76 [.s x, avt l] (resV p)) (cm : calcFit s x l = true → (argsP x).getD 0 [] = mapS → CT 78 [.s x, avt l] (resV p)) (co : calcFit s x l = true → ¬ (argsP x).getD 0 [] = intS → ¬ (argsP x).getD 0 [] = mapS → CT 74 [bookAV s, .s x, avt l] (resV p)) (op : calcFit s x l = true → OkT p.1) (r : Res) (hp : r = if calcFit s x l = true then limV p else (tZ, 16)): CT 38 [bookAV s, .s x, avt l] (resV r) := by
 refine sem_introA mixed Tryz.func38 g0 ?_
 · generalize hR : ((resV r) : AV) = R
   simp -implicitDefEqProofs (disch := omega) only [Tryz.f38, go_sem, List.replicate, simprocAttr, avt]
   have c := ctr237 x
   rw [built_yes hb] at c
   (repeat' (first | refine gT ?_ ?_ | refine gF ?_ ?_ | refine gC ?_ ?_ | ((refine c_ctrE (c) ?_ ?_; (focus (simp -implicitDefEqProofs (disch := omega) only [avs, avb, avi, avo, sigCells, opCells, pairCells, elT, avt, termCells_eq, go_sem, simprocAttr]; done))); simp -implicitDefEqProofs (disch := omega) only [go_sem, simprocAttr]) | refine And.intro (by omega) ?_ | (intro hr; have hc := hr; (try simp only [zda, zdb, zdc, zdd] at hc); simp -implicitDefEqProofs (disch := omega) only [hr, go_sem, simprocAttr]; (try clear hr))))
   all_goals try (exfalso; omega)
   refine x_loopG (fun (k : Nat) => [.k, .k, .k, .k, .k, .k, .k, .j, .k, .k, .j, .j, .k, .k, .k, .k, .k, .k, .k, .k, .k, .k, .k, .k, .k, .k, .k, .k, .k, .k, .k, .k, .k, .k, .v (.i .i64 k), .j, .j, .j, .j, .j, .j, .j, .j, .j, .j, .j, .j, .j, .j, .j, .j, .j, .k, .k, .k, .k, .k, .k, .k, .k, .k, .k, .k, .k, .k, .k, .k, .k, .k, .k, .k, .k, .k, .k, .k, .k, .k, .k, .k, .k, .k, .k]) (fun k => [.box false [.box (bookCells s) 0], .box false [.s x], .box false [.sl (l.flatMap termCells) l.length], .box false [.i .i64 0, .i .i64 0, .s [], .s [], .e0, .e0], .box false (opCells ⟨x, argsP x, resultP x, [], 0, 0, []⟩)]) (fun k => k ≤ l.length ∧ ∀ j, j < k → atMost s (sortP s (l.getD j default)) ((argsP x).getD j []) = true) (fun k => l.length - k) (0) _ ⟨Nat.zero_le _, fun j h => by omega⟩ rfl (by simp [Fits]) ?_
   rintro k g j ⟨hk, ha⟩
   simp -implicitDefEqProofs (disch := omega) only [go_sem, simprocAttr]
   (repeat' (first | refine gT ?_ ?_ | refine gF ?_ ?_ | refine gC ?_ ?_ | ((first | (refine c_ctrE (ctr244 s (l.getD k default)) ?_ ?_; (focus (simp -implicitDefEqProofs (disch := omega) only [bookAV, avs, avb, avi, avo, sigCells, opCells, pairCells, elT, avt, termCells_eq, go_sem, simprocAttr]; done))) | (refine c_ctrE (ctr71 s (sortP s (l.getD k default)) ((argsP x).getD k []) hs) ?_ ?_; (focus (simp -implicitDefEqProofs (disch := omega) only [bookAV, avs, avb, avi, avo, sigCells, opCells, pairCells, elT, avt, termCells_eq, go_sem, simprocAttr]; done)))); simp -implicitDefEqProofs (disch := omega) only [bookAV, go_sem, simprocAttr]) | refine And.intro (by omega) ?_ | (intro hr; have hc := hr; (try simp only [zda, zdb, zdc, zdd] at hc); simp -implicitDefEqProofs (disch := omega) only [hr, bookAV, go_sem, simprocAttr]; (try clear hr))))
   · subst hR
     have e : calcFit s x l = false := allN_false k (by omega) hc
     exact fin_res (by rw [hp, e]; rfl) rd6_e0 rd6_e0
   · exact ⟨k + 1, _, ⟨by omega, below_succ ha hc⟩, by omega, rfl, by simp⟩
   · have e : calcFit s x l = true := allN_true (fun j hj => ha j (by omega))
     rw [e, if_pos rfl] at hp
     have ci := ci e
     have cm := cm e
     have co := co e
     have op := op e
     obtain ⟨a0, am, hA⟩ := args_cons hb
     rw [hA] at hn ci cm co ⊢
     refine ⟨by simp, ?_⟩
     simp -implicitDefEqProofs (disch := omega) only [List.map_cons, List.getElem?_cons_zero, go_sem, simprocAttr]
     (repeat' (first | refine gT ?_ ?_ | refine gF ?_ ?_ | refine gC ?_ ?_ | refine And.intro (by omega) ?_ | (intro hr; have hc := hr; (try simp only [zda, zdb, zdc, zdd] at hc); simp -implicitDefEqProofs (disch := omega) only [hr, go_sem, simprocAttr]; (try clear hr))))
     · refine c_ctrE (ctr247 x l p (ci (by rw [List.getD_cons_zero]; exact hc))) ?_ ?_
       · simp -implicitDefEqProofs (disch := omega) only [avt, bookAV, go_sem, simprocAttr]
       · rcases bool_em (Vo.flat (resV p)) with hf | hf
         all_goals first | rw [hA_y hf] | rw [hA_n hf]
         all_goals simp -implicitDefEqProofs (disch := omega) only [go_sem, simprocAttr]
         all_goals (repeat' (first | refine gT ?_ ?_ | refine gF ?_ ?_ | refine gC ?_ ?_ | ((refine c_ctrE (ctr242 p.1 op) ?_ ?_; (focus (simp -implicitDefEqProofs (disch := omega) only [avs, avb, avi, avo, sigCells, opCells, pairCells, elT, avt, termCells_eq, go_sem, simprocAttr]; done))); simp -implicitDefEqProofs (disch := omega) only [go_sem, simprocAttr]) | refine And.intro (by omega) ?_ | (intro hr; have hc := hr; (try simp only [zda, zdb, zdc, zdd] at hc); simp -implicitDefEqProofs (disch := omega) only [hr, go_sem, simprocAttr]; (try clear hr))))
         all_goals subst hR
         all_goals first
           | exact fin_res (hp.trans (if_pos ⟨‹p.2 = 0›, hc⟩)) rd6_e0 rd6_e0
           | exact fin_resP (hp.trans (if_neg (fun h => absurd h.1 hc)))
           | exact fin_resP (hp.trans (if_neg (fun h => Bool.noConfusion (hc.symm.trans h.2))))
     · refine c_ctrE (ctr249 x l p (cm (by rw [List.getD_cons_zero]; exact hc))) ?_ ?_
       · simp -implicitDefEqProofs (disch := omega) only [avt, bookAV, go_sem, simprocAttr]
       · rcases bool_em (Vo.flat (resV p)) with hf | hf
         all_goals first | rw [hA_y hf] | rw [hA_n hf]
         all_goals simp -implicitDefEqProofs (disch := omega) only [go_sem, simprocAttr]
         all_goals (repeat' (first | refine gT ?_ ?_ | refine gF ?_ ?_ | refine gC ?_ ?_ | ((refine c_ctrE (ctr242 p.1 op) ?_ ?_; (focus (simp -implicitDefEqProofs (disch := omega) only [avs, avb, avi, avo, sigCells, opCells, pairCells, elT, avt, termCells_eq, go_sem, simprocAttr]; done))); simp -implicitDefEqProofs (disch := omega) only [go_sem, simprocAttr]) | refine And.intro (by omega) ?_ | (intro hr; have hc := hr; (try simp only [zda, zdb, zdc, zdd] at hc); simp -implicitDefEqProofs (disch := omega) only [hr, go_sem, simprocAttr]; (try clear hr))))
         all_goals subst hR
         all_goals first
           | exact fin_res (hp.trans (if_pos ⟨‹p.2 = 0›, hc⟩)) rd6_e0 rd6_e0
           | exact fin_resP (hp.trans (if_neg (fun h => absurd h.1 hc)))
           | exact fin_resP (hp.trans (if_neg (fun h => Bool.noConfusion (hc.symm.trans h.2))))
     · refine c_ctrE (ctr245 s x l p (co (by rw [List.getD_cons_zero]; assumption) (by rw [List.getD_cons_zero]; exact hc))) ?_ ?_
       · simp -implicitDefEqProofs (disch := omega) only [avt, bookAV, go_sem, simprocAttr]
       · rcases bool_em (Vo.flat (resV p)) with hf | hf
         all_goals first | rw [hA_y hf] | rw [hA_n hf]
         all_goals simp -implicitDefEqProofs (disch := omega) only [go_sem, simprocAttr]
         all_goals (repeat' (first | refine gT ?_ ?_ | refine gF ?_ ?_ | refine gC ?_ ?_ | ((refine c_ctrE (ctr242 p.1 op) ?_ ?_; (focus (simp -implicitDefEqProofs (disch := omega) only [avs, avb, avi, avo, sigCells, opCells, pairCells, elT, avt, termCells_eq, go_sem, simprocAttr]; done))); simp -implicitDefEqProofs (disch := omega) only [go_sem, simprocAttr]) | refine And.intro (by omega) ?_ | (intro hr; have hc := hr; (try simp only [zda, zdb, zdc, zdd] at hc); simp -implicitDefEqProofs (disch := omega) only [hr, go_sem, simprocAttr]; (try clear hr))))
         all_goals subst hR
         all_goals first
           | exact fin_res (hp.trans (if_pos ⟨‹p.2 = 0›, hc⟩)) rd6_e0 rd6_e0
           | exact fin_resP (hp.trans (if_neg (fun h => absurd h.1 hc)))
           | exact fin_resP (hp.trans (if_neg (fun h => Bool.noConfusion (hc.symm.trans h.2))))

def limR (s : LSig) (p : Res) : Res := if p.2 = 0 then (if plainV s p.1 = true then p else (tZ, 3)) else (tZ, p.2)
theorem built_fst {x : Str} (h : builtIns.contains x = true) : (builtR x).1 = argsP x := by rw [← args_eq h]
theorem ctr235_n (s : LSig) (x : Str) (l : List LTerm) (hb : builtIns.contains x = false): CT 42 [.agg (sigCells s), .s x, avt l] (resV (tZ, 4)) := by
 refine sem_introA mixed Tryz.func42 g0 ?_
 · generalize hR : ((resV (tZ, 4)) : AV) = R
   simp -implicitDefEqProofs (disch := omega) only [Tryz.f42, go_sem, List.replicate, simprocAttr, avt]
   (repeat' (first | refine gT ?_ ?_ | refine gF ?_ ?_ | refine gC ?_ ?_ | ((refine c_ctrE (ctr219 x) ?_ ?_; (focus (simp -implicitDefEqProofs (disch := omega) only [hb, avs, avb, avi, avo, sigCells, opCells, pairCells, elT, avt, termCells_eq, go_sem, simprocAttr]; done))); simp -implicitDefEqProofs (disch := omega) only [hb, go_sem, simprocAttr]) | refine And.intro (by omega) ?_ | (intro hr; have hc := hr; (try simp only [zda, zdb, zdc, zdd] at hc); simp -implicitDefEqProofs (disch := omega) only [hr, hb, go_sem, simprocAttr]; (try clear hr))))
   all_goals subst hR
   all_goals exact fin_res rfl rd6_e0 rd6_e0
theorem ctr235_l (s : LSig) (x : Str) (l : List LTerm) (hl : l.length ≤ 1466015503701) (hb : builtIns.contains x = true) (hn : ¬ l.length = (argsP x).length): CT 42 [.agg (sigCells s), .s x, avt l] (resV (tZ, 15)) := by
 refine sem_introA mixed Tryz.func42 g0 ?_
 · generalize hR : ((resV (tZ, 15)) : AV) = R
   simp -implicitDefEqProofs (disch := omega) only [Tryz.f42, go_sem, List.replicate, simprocAttr, avt]
   have c := ctr238 x
   rw [built_fst hb] at c
   (repeat' (first | refine gT ?_ ?_ | refine gF ?_ ?_ | refine gC ?_ ?_ | ((first | (refine c_ctrE (ctr219 x) ?_ ?_; (focus (simp -implicitDefEqProofs (disch := omega) only [hb, avs, avb, avi, avo, sigCells, opCells, pairCells, elT, avt, termCells_eq, go_sem, simprocAttr]; done))) | (refine c_ctrE (c) ?_ ?_; (focus (simp -implicitDefEqProofs (disch := omega) only [hb, avs, avb, avi, avo, sigCells, opCells, pairCells, elT, avt, termCells_eq, go_sem, simprocAttr]; done)))); simp -implicitDefEqProofs (disch := omega) only [hb, go_sem, simprocAttr]) | refine And.intro (by omega) ?_ | (intro hr; have hc := hr; (try simp only [zda, zdb, zdc, zdd] at hc); simp -implicitDefEqProofs (disch := omega) only [hr, hb, go_sem, simprocAttr]; (try clear hr))))
   all_goals first
     | (subst hR; exact fin_res rfl rd6_e0 rd6_e0)
     | (exfalso; omega)
theorem ctr235 (s : LSig) (x : Str) (l : List LTerm) (p : Res) (hm : Small s) (hs : OkS s) (hv : validB s = true) (hpl : ∀ t ∈ l, plainV s t = true) (hl : l.length ≤ 1466015503701) (hb : builtIns.contains x = true) (hn : l.length = (argsP x).length) (c : calcFit s x l = true → CT 87 [.agg (sigCells s), .s x, avt l] (resV p)) (op : calcFit s x l = true → OkT p.1) (r : Res) (hp : r = if calcFit s x l = true then limR s p else (tZ, 16)): CT 42 [.agg (sigCells s), .s x, avt l] (resV r) := by
 refine sem_introA mixed Tryz.func42 g0 ?_
 · generalize hR : ((resV r) : AV) = R
   simp -implicitDefEqProofs (disch := omega) only [Tryz.f42, go_sem, List.replicate, simprocAttr, avt]
   have cb := ctr238 x
   rw [built_fst hb] at cb
   (repeat' (first | refine gT ?_ ?_ | refine gF ?_ ?_ | refine gC ?_ ?_ | ((first | (refine c_ctrE (ctr219 x) ?_ ?_; (focus (simp -implicitDefEqProofs (disch := omega) only [hb, avs, avb, avi, avo, sigCells, opCells, pairCells, elT, avt, termCells_eq, go_sem, simprocAttr]; done))) | (refine c_ctrE (cb) ?_ ?_; (focus (simp -implicitDefEqProofs (disch := omega) only [hb, avs, avb, avi, avo, sigCells, opCells, pairCells, elT, avt, termCells_eq, go_sem, simprocAttr]; done)))); simp -implicitDefEqProofs (disch := omega) only [hb, go_sem, simprocAttr]) | refine And.intro (by omega) ?_ | (intro hr; have hc := hr; (try simp only [zda, zdb, zdc, zdd] at hc); simp -implicitDefEqProofs (disch := omega) only [hr, hb, go_sem, simprocAttr]; (try clear hr))))
   · exfalso; omega
   refine x_loopG (fun (k : Nat) => [.k, .k, .k, .k, .k, .k, .k, .j, .k, .k, .j, .j, .k, .k, .k, .k, .k, .k, .k, .k, .k, .k, .k, .k, .k, .k, .k, .k, .k, .k, .k, .v (.i .i64 k), .j, .j, .j, .j, .j, .j, .j, .j, .j, .j, .j, .j, .j, .j, .k, .k, .k, .k, .k, .k, .k, .k, .k, .k, .k, .k, .k, .k, .k, .k, .k]) (fun k => [.box false (sigCells s), .box false [.i .i64 0, .i .i64 0, .s [], .s [], .e0, .e0]]) (fun k => k ≤ l.length ∧ ∀ j, j < k → atMost s (sortP s (l.getD j default)) ((argsP x).getD j []) = true) (fun k => l.length - k) (0) _ ⟨Nat.zero_le _, fun j h => by omega⟩ rfl (by simp [Fits]) ?_
   rintro k g j ⟨hk, ha⟩
   have o1 : k < l.length → _ := fun h => ctr226 s (l.getD k default) ((argsP x).getD k []) hm hs hv (hpl _ (mem_getD h))
   simp -implicitDefEqProofs (disch := omega) only [go_sem, simprocAttr]
   (repeat' (first | refine gT ?_ ?_ | refine gF ?_ ?_ | refine gC ?_ ?_ | ((refine c_ctrE ((o1 (by omega))) ?_ ?_; (focus (simp -implicitDefEqProofs (disch := omega) only [avs, avb, avi, avo, sigCells, opCells, pairCells, elT, avt, termCells_eq, go_sem, simprocAttr]; done))); simp -implicitDefEqProofs (disch := omega) only [go_sem, simprocAttr]) | refine And.intro (by omega) ?_ | (intro hr; have hc := hr; (try simp only [zda, zdb, zdc, zdd] at hc); simp -implicitDefEqProofs (disch := omega) only [hr, go_sem, simprocAttr]; (try clear hr))))
   · subst hR
     have e : calcFit s x l = false := allN_false k (by omega) hc
     exact fin_res (by rw [hp, e]; rfl) rd6_e0 rd6_e0
   · exact ⟨k + 1, _, ⟨by omega, below_succ ha hc⟩, by omega, rfl, by simp⟩
   · have e : calcFit s x l = true := allN_true (fun j hj => ha j (by omega))
     rw [e, if_pos rfl] at hp
     have op := op e
     refine c_ctrE (c e) ?_ ?_
     · simp -implicitDefEqProofs (disch := omega) only [avt, go_sem, simprocAttr]
     · rcases bool_em (Vo.flat (resV p)) with hf | hf
       all_goals first | rw [hA_y hf] | rw [hA_n hf]
       all_goals simp -implicitDefEqProofs (disch := omega) only [go_sem, simprocAttr]
       all_goals (repeat' (first | refine gT ?_ ?_ | refine gF ?_ ?_ | refine gC ?_ ?_ | ((refine c_ctrE (ctr234 s p.1 hm hs hv op) ?_ ?_; (focus (simp -implicitDefEqProofs (disch := omega) only [avs, avb, avi, avo, sigCells, opCells, pairCells, elT, avt, termCells_eq, go_sem, simprocAttr]; done))); simp -implicitDefEqProofs (disch := omega) only [go_sem, simprocAttr]) | refine And.intro (by omega) ?_ | (intro hr; have hc := hr; (try simp only [zda, zdb, zdc, zdd] at hc); simp -implicitDefEqProofs (disch := omega) only [hr, go_sem, simprocAttr]; (try clear hr))))
       all_goals subst hR
       all_goals first
         | exact fin_res (hp.trans (if_neg hc)) rd6_e0 rd6_e0
         | exact fin_res (hp.trans ((if_pos ‹p.2 = 0›).trans (if_neg (fun h => Bool.noConfusion (hc.symm.trans h))))) rd6_e0 rd6_e0
         | exact fin_resP (q := (p.1, 0)) (hp.trans ((if_pos ‹p.2 = 0›).trans ((if_pos hc).trans (Prod.ext rfl ‹p.2 = 0›))))

def plainA (s : LSig) (l : List LTerm) : Bool := l.all (plainV s)
theorem any_all {s : LSig} {l : List LTerm} : (l.any fun t => !plainV s t) = !plainA s l := by
 rw [plainA, List.all_eq_not_any_not, Bool.not_not]
theorem persL_bk0 {s : LSig} : persL [.box [bookAV s] 0] = true := by
 show (persL [bookAV s] && true) = true
 have hb : persL [bookAV s] = true := by
   show (pers (bookAV s) && true) = true
   rw [pers_book]; rfl
 rw [hb]; rfl
theorem ctr209_n (s : LSig) (x : Str) (l : List LTerm) (hs : Small s) (ho : OkS s) (hv : validB s = false): CT 12 [.agg (sigCells s), .s x, avt l] (resV (tZ, 2)) := by
 refine sem_introA mixed Tryz.func12 g0 ?_
 · generalize hR : ((resV (tZ, 2)) : AV) = R
   simp -implicitDefEqProofs (disch := omega) only [Tryz.f12, go_sem, List.replicate, simprocAttr, avt]
   (repeat' (first | refine gT ?_ ?_ | refine gF ?_ ?_ | refine gC ?_ ?_ | ((refine c_ctrE (ctr12 s hs ho) ?_ ?_; (focus (simp -implicitDefEqProofs (disch := omega) only [hv, avs, avb, avi, avo, sigCells, opCells, pairCells, elT, avt, termCells_eq, go_sem, simprocAttr]; done))); simp -implicitDefEqProofs (disch := omega) only [hv, go_sem, simprocAttr]) | refine And.intro (by omega) ?_ | (intro hr; have hc := hr; (try simp only [zda, zdb, zdc, zdd] at hc); simp -implicitDefEqProofs (disch := omega) only [hr, hv, go_sem, simprocAttr]; (try clear hr))))
   all_goals subst hR
   all_goals exact fin_res rfl rd6_e0 rd6_e0
theorem ctr209 (s : LSig) (x : Str) (l : List LTerm) (r : Res) (hs : Small s) (ho : OkS s) (hv : validB s = true) (hl : l.length ≤ 1466015503701) (ol : ∀ t ∈ l, OkT t) (or1 : plainA s l = true → OkT r.1) (c : plainA s l = true → CT 38 [bookAV s, .s x, avt l] (resV r)) (q : Res) (hq : q = if plainA s l = true then r else (tZ, 2)): CT 12 [.agg (sigCells s), .s x, avt l] (resV q) := by
 refine sem_introA mixed Tryz.func12 g0 ?_
 · generalize hR : ((resV q) : AV) = R
   simp -implicitDefEqProofs (disch := omega) only [Tryz.f12, go_sem, List.replicate, simprocAttr, avt]
   (repeat' (first | refine gT ?_ ?_ | refine gF ?_ ?_ | refine gC ?_ ?_ | ((first | (refine c_ctrE (ctr12 s hs ho) ?_ ?_; (focus (simp -implicitDefEqProofs (disch := omega) only [hv, avs, avb, avi, avo, sigCells, opCells, pairCells, elT, avt, termCells_eq, go_sem, simprocAttr]; done))) | (refine c_ctrE (ctr51 s hs (valid_distinct hv)) ?_ ?_; (focus (simp -implicitDefEqProofs (disch := omega) only [hv, avs, avb, avi, avo, sigCells, opCells, pairCells, elT, avt, termCells_eq, go_sem, simprocAttr]; done)))); simp -implicitDefEqProofs (disch := omega) only [hv, go_sem, simprocAttr]) | refine And.intro (by omega) ?_ | (intro hr; have hc := hr; (try simp only [zda, zdb, zdc, zdd] at hc); simp -implicitDefEqProofs (disch := omega) only [hr, hv, go_sem, simprocAttr]; (try clear hr))))
   refine c_ctrE (ctr229 l 36 [] [.box [bookAV s] 0] (fun t => !plainV s t) hl rfl persL_bk0 (fun k hk => ctr230 s (l.getD k default) hs (ol _ (mem_getD hk)))) ?_ ?_
   · simp -implicitDefEqProofs (disch := omega) only [avt, bookAV, go_sem, simprocAttr]
   · simp -implicitDefEqProofs (disch := omega) only [go_sem, simprocAttr]
     rw [any_all]
     rcases bool_em (plainA s l) with hp | hp
     · rw [hp] at hq ⊢
       simp -implicitDefEqProofs (disch := omega) only [go_sem, simprocAttr]
       refine c_ctrE (c hp) ?_ ?_
       · simp -implicitDefEqProofs (disch := omega) only [avt, bookAV, go_sem, simprocAttr]
       · rcases bool_em (Vo.flat (resV r)) with hf | hf
         all_goals first | rw [hA_y hf] | rw [hA_n hf]
         all_goals simp -implicitDefEqProofs (disch := omega) only [go_sem, simprocAttr]
         all_goals refine c_ctrE (ctr233 r.1 (or1 hp)) ?_ ?_
         all_goals try simp -implicitDefEqProofs (disch := omega) only [go_sem, simprocAttr]
         all_goals subst hR
         all_goals exact fin_resP (hq.trans (if_pos rfl))
     · rw [hp] at hq ⊢
       simp -implicitDefEqProofs (disch := omega) only [go_sem, simprocAttr]
       subst hR
       exact fin_res (hq.trans (if_neg (by simp))) rd6_e0 rd6_e0
theorem ctr210_n (s : LSig) (x : Str) (l : List LTerm) (hm : Small s) (ho : OkS s) (hv : validB s = false): CT 13 [.agg (sigCells s), .s x, avt l] (resV (tZ, 2)) := by
 refine sem_introA mixed Tryz.func13 g0 ?_
 · generalize hR : ((resV (tZ, 2)) : AV) = R
   simp -implicitDefEqProofs (disch := omega) only [Tryz.f13, go_sem, List.replicate, simprocAttr, avt]
   (repeat' (first | refine gT ?_ ?_ | refine gF ?_ ?_ | refine gC ?_ ?_ | ((refine c_ctrE (ctr13 s hm ho) ?_ ?_; (focus (simp -implicitDefEqProofs (disch := omega) only [hv, avs, avb, avi, avo, sigCells, opCells, pairCells, elT, avt, termCells_eq, go_sem, simprocAttr]; done))); simp -implicitDefEqProofs (disch := omega) only [hv, go_sem, simprocAttr]) | refine And.intro (by omega) ?_ | (intro hr; have hc := hr; (try simp only [zda, zdb, zdc, zdd] at hc); simp -implicitDefEqProofs (disch := omega) only [hr, hv, go_sem, simprocAttr]; (try clear hr))))
   all_goals subst hR
   all_goals exact fin_res rfl rd6_e0 rd6_e0
theorem ctr210 (s : LSig) (x : Str) (l : List LTerm) (r : Res) (hm : Small s) (ho : OkS s) (hv : validB s = true) (hl : l.length ≤ 1466015503701) (ol : ∀ t ∈ l, OkT t) (c : plainA s l = true → CT 42 [.agg (sigCells s), .s x, avt l] (resV r)) (q : Res) (hq : q = if plainA s l = true then r else (tZ, 2)): CT 13 [.agg (sigCells s), .s x, avt l] (resV q) := by
 refine sem_introA mixed Tryz.func13 g0 ?_
 · generalize hR : ((resV q) : AV) = R
   simp -implicitDefEqProofs (disch := omega) only [Tryz.f13, go_sem, List.replicate, simprocAttr, avt]
   (repeat' (first | refine gT ?_ ?_ | refine gF ?_ ?_ | refine gC ?_ ?_ | ((refine c_ctrE (ctr13 s hm ho) ?_ ?_; (focus (simp -implicitDefEqProofs (disch := omega) only [hv, avs, avb, avi, avo, sigCells, opCells, pairCells, elT, avt, termCells_eq, go_sem, simprocAttr]; done))); simp -implicitDefEqProofs (disch := omega) only [hv, go_sem, simprocAttr]) | refine And.intro (by omega) ?_ | (intro hr; have hc := hr; (try simp only [zda, zdb, zdc, zdd] at hc); simp -implicitDefEqProofs (disch := omega) only [hr, hv, go_sem, simprocAttr]; (try clear hr))))
   refine x_loopG (fun (k : Nat) => [.k, .k, .k, .k, .k, .k, .k, .j, .k, .j, .k, .k, .k, .k, .k, .k, .v (.i .i64 k), .j, .j, .j, .j, .j, .j, .j, .j, .j, .k, .k, .k, .k, .k, .k]) (fun k => [.box false (sigCells s), .box false [.i .i64 0, .i .i64 0, .s [], .s [], .e0, .e0]]) (fun k => k ≤ l.length ∧ ∀ j, j < k → plainV s (l.getD j default) = true) (fun k => l.length - k) (0) _ ⟨Nat.zero_le _, fun j h => by omega⟩ rfl (by simp [Fits]) ?_
   rintro k g j ⟨hk, ha⟩
   have o1 : k < l.length → _ := fun h => ctr234 s (l.getD k default) hm ho hv (ol _ (mem_getD h))
   simp -implicitDefEqProofs (disch := omega) only [go_sem, simprocAttr]
   (repeat' (first | refine gT ?_ ?_ | refine gF ?_ ?_ | refine gC ?_ ?_ | ((refine c_ctrE ((o1 (by omega))) ?_ ?_; (focus (simp -implicitDefEqProofs (disch := omega) only [avs, avb, avi, avo, sigCells, opCells, pairCells, elT, avt, termCells_eq, go_sem, simprocAttr]; done))); simp -implicitDefEqProofs (disch := omega) only [go_sem, simprocAttr]) | refine And.intro (by omega) ?_ | (intro hr; have hc := hr; (try simp only [zda, zdb, zdc, zdd] at hc); simp -implicitDefEqProofs (disch := omega) only [hr, go_sem, simprocAttr]; (try clear hr))))
   · subst hR
     have e : plainA s l = false := all_false k (by omega) hc
     exact fin_res (hq.trans (if_neg (by rw [e]; simp))) rd6_e0 rd6_e0
   · exact ⟨k + 1, _, ⟨by omega, below_succ ha hc⟩, by omega, rfl, by simp⟩
   · have e : plainA s l = true := all_true (fun j hj => ha j (by omega))
     refine c_ctrE (c e) ?_ ?_
     · simp -implicitDefEqProofs (disch := omega) only [avt, go_sem, simprocAttr]
     · rcases bool_em (Vo.flat (resV r)) with hf | hf
       all_goals first | rw [hA_y hf] | rw [hA_n hf]
       all_goals simp -implicitDefEqProofs (disch := omega) only [go_sem, simprocAttr]
       all_goals subst hR
       all_goals exact fin_resP (hq.trans (if_pos e))
end Go.Proofs.YtpilgabbgflbhaaGreatDoor

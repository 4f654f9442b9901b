/-
  What functions of the chapter return, as plain functions of what they are given; no condition beyond those that each theorem names.
-/
import Derived.Test.YtifefbhllfdmlaaGreatDoorVaP67
set_option maxRecDepth 100000
set_option linter.unusedSimpArgs false
set_option linter.unusedVariables false
set_option maxHeartbeats 4000000
namespace Go.Proofs.YtifefbhllfdmlaaGreatDoor
open Go Go.Vo
open Nat (reduceAdd reduceSub reduceMul reduceLeDiff reduceLT reduceEqDiff)
open Int (reduceNeg)

theorem aLg {pre g : List AObj} {sz n : Nat} {out : AV} {cells : List AV} {e : Int} (ho : eP sz pre.length g out cells n) (hp : persL cells = true) : Fin (pre ++ g) (.tup [out, .i .i64 e]) (.tup [.sl cells n, .i .i64 e]) := by
 rcases ho with ⟨rfl, rfl, rfl⟩ | ⟨i, rfl, hi, hl⟩
 · exact .inr ⟨⟨rfl, rfl, trivial⟩, by simp [bS, finIdsL], by simp [bS, finIdsL]⟩
 · have e1 : mH (pre ++ g) (.hs (i + pre.length) 0 n false) (.sl cells n) := by
     show AV.sl cells n = gG dep (pre ++ g) (.hs (i + pre.length) 0 n false)
     have hg : (pre ++ g)[i + pre.length]? = some (.arr false sz cells) := by
       rw [aI (by omega)]; simpa using hi
     have hd : (cells.drop 0).take (n * sz) = cells := by rw [dG, aJ (by omega)]
     simp only [iT, pers, zW, hg, hd, hp, if_true, aP, if_false]
     rw [if_pos (by omega)]
   exact .inr ⟨⟨e1, rfl, trivial⟩, by simp [bS, finIdsL], by simp [bS, finIdsL]⟩
theorem P3 {s : cC} {l : List LTerm} (h : iR s l = true) : cU s = true ∧ l.length ≤ 100 ∧ ∀ p ∈ l, wM s p = true := by
 simp only [iR, aB, decide_eq_true_eq, aL] at h
 exact h
theorem aJv (s : cC) (p t : LTerm) (hm : Small s) (hp : OkT p) (ht : OkT t) (hv : wM s p = true) : CT 59 [ava (cM p []), .fn 60 [] [.box [cN s] 0, .box (aC t) 0]] (.b (!Y7 s t p)) := by
 have hh := qL (lJ hv)
 have hok := M9 p hp [] (by simp only [bD]; omega) (by simp)
 have c := bGh (cM p []) 60 [] [.box [cN s] 0, .box (aC t) 0] (fun a => !kN s a t) (dT (nL p []) (by omega)) rfl (by simp only [persL, pers, xS, aYo, Bool.and_true]) (fun k hk => bGg s _ t hm (hok _ (bB hk)).k ht)
 have e : ((cM p []).any fun a => !kN s a t) = !Y7 s t p := List.not_all_eq_any_not.symm
 rw [e] at c
 exact c
theorem bGo (s : cC) (l : List LTerm) (t : LTerm) (hm : Small s) (hs : OkS s) (hl : l.length ≤ 1466015503701) (ho : ∀ p ∈ l, OkT p) (ht : OkT t): CT 18 [.agg (aN s), avt l, elT t] (U1 (mI s l t)) := by
 refine bM mixed Tryz.func18 g0 ?_
 · generalize hR : ((U1 (mI s l t)) : AV) = R
   simp -implicitDefEqProofs (disch := omega) only [Tryz.f18, go_sem, List.replicate, ↓reduceIte, reduceAdd, reduceSub, reduceMul, reduceLeDiff, reduceLT, reduceEqDiff, reduceNeg, Nat.reduceBEq, avt]
   have c1 := bGi s l hm hs hl ho
   have c2 := aVu s t hm hs ht
   simp only [avt] at c1
   rcases eQ (iR s l) with h1 | h1
   · rw [h1] at c1
     obtain ⟨hv, h100, hpl⟩ := P3 h1
     rcases eQ (cU s && kK s t) with h2 | h2
     · rw [h2] at c2
       have c3 := aGi s hm (iQ hv)
       (refine zt3 c1 c2 c3 ?_; repeat' first | exact trivial | refine zJ ?_ ?_ | refine zH fun hc => ?_)
       refine bP (fun (q : Nat × AV × List AObj) => [.k, .k, .k, .k, .k, .k, .k, .k, .k, .v (q.2.1), .j, .j, .k, .k, .k, .k, .k, .k, .k, .k, .k, .k, .k, .k, .k, .k, .v (.i .i64 (q.1 : Nat)), .j, .j, .j, .j, .j, .j, .j, .j, .j, .j, .j, .j, .j, .j, .k]) (fun q => (.box false (aN s) :: .box false [.i .i64 (t).kind, .i .i64 (t).n, .s (t).text, .s (t).sort, .sl ((t).kids.flatMap aC) (t).kids.length, .sl ((t).rest.flatMap aC) (t).rest.length] :: .box false [cN s] :: q.2.2)) (fun q => q.1 ≤ l.length ∧ eP 1 3 q.2.2 q.2.1 (ints (qG s t (l.take q.1) 0)) (qG s t (l.take q.1) 0).length) (fun q => l.length - q.1) ((0, .e0, [])) ⟨aG _, kY⟩ rfl (by simp [eN]) ?_
       rintro ⟨k, out, g⟩ j ⟨hk, hout⟩
       dsimp only at hk hout
       by_cases hlt : k < l.length
       · have hki : (k : Int) < ((l.length : Nat) : Int) := by omega
         have hmm := bB (d := default) hlt
         have hp := hpl _ hmm
         have hpo := ho _ hmm
         have hh := qL (lJ hp)
         have c4 := T2 (l.getD k default) hpo (by omega) (dT (nL _ []) (by omega))
         have c5 := aJv s (l.getD k default) t hm hpo ht hp
         have hlen := tU (s := s) (t := t) (l := l.take k) (i := 0)
         have htk := uU (s := s) (t := t) (i := 0) hlt
         rw [bX] at htk
         rw [jV] at hlen
         generalize Y7 s t (l.getD k default) = ok at *
         generalize cM (l.getD k default) [] = T at *
         simp only [ava, elT, bA, avt] at c4 c5
         refine zh (zt hki) ?_
         (refine zy2 (zt hki) c4 c5 ?_; repeat' first | exact trivial | refine zJ ?_ ?_ | refine zH fun hc => ?_)
         · refine eV (pre := [_, _, _]) (news := [.i .i64 (k : Nat)]) (m := 1) hout rfl rfl bPo zo3 sz3 by3 rfl (by decide) (by simp -implicitDefEqProofs (disch := omega) only [go_sem, ↓reduceIte, reduceAdd, reduceSub, reduceMul, reduceLeDiff, reduceLT, reduceEqDiff, reduceNeg, Nat.reduceBEq]) (by simp -implicitDefEqProofs (disch := omega) only [go_sem, ↓reduceIte, reduceAdd, reduceSub, reduceMul, reduceLeDiff, reduceLT, reduceEqDiff, reduceNeg, Nat.reduceBEq]) ⟨by omega, by omega⟩ ?_
           intro out' g' ho' _
           refine zg ?_
           refine ⟨(k + 1, out', g'), ⟨by dsimp only; omega, ?_⟩, by dsimp only; omega, rfl, by simp⟩
           dsimp only
           rw [htk, if_pos hc, ints, aT, aH]
           exact ho'
         · refine ⟨(k + 1, out, _), ⟨by dsimp only; omega, ?_⟩, by dsimp only; omega, rfl, by simp⟩
           dsimp only
           rw [htk, if_neg (by rw [hc]; simp), List.append_nil]
           exact hout.more _
       · have hki : ¬ (k : Int) < ((l.length : Nat) : Int) := by omega
         have hkt : l.take k = l := aJ (by omega)
         rw [hkt] at hout
         refine zh (zf hki) ?_
         subst hR
         have he : mI s l t = (qG s t l 0, 0) := by rw [mI, h1, h2, dN, if_pos rfl]
         rw [he]
         exact aLg (pre := [_, _, _]) hout fI
     · rw [h2] at c2
       (refine zt2 c1 c2 ?_; repeat' first | exact trivial | refine zJ ?_ ?_ | refine zH fun hc => ?_)
       subst hR
       all_goals exact .inr ⟨by rw [mI, h2, Bool.and_false, if_neg (by simp)]; exact ⟨rfl, rfl, trivial⟩, dC, fun i hi => absurd hi (by show ¬ i ∈ []; simp)⟩
   · rw [h1] at c1
     (refine zt1 c1 ?_; repeat' first | exact trivial | refine zJ ?_ ?_ | refine zH fun hc => ?_)
     subst hR
     all_goals exact .inr ⟨by rw [mI, h1, Bool.false_and, if_neg (by simp)]; exact ⟨rfl, rfl, trivial⟩, dC, fun i hi => absurd hi (by show ¬ i ∈ []; simp)⟩
theorem bGl (s : cC) (l : List LTerm) (hm : Small s) (hs : OkS s) (hl : l.length ≤ 1466015503701) (ho : ∀ t ∈ l, OkT t): CT 27 [.agg (aN s), avt l] (.b (iR s l)) := by
 refine bM mixed Tryz.func27 g0 ?_
 · simp -implicitDefEqProofs (disch := omega) only [Tryz.f27, go_sem, List.replicate, ↓reduceIte, reduceAdd, reduceSub, reduceMul, reduceLeDiff, reduceLT, reduceEqDiff, reduceNeg, Nat.reduceBEq, avt]
   have c2 := aMc s hm hs
   (refine zs0 ?_; repeat' first | exact trivial | refine zJ ?_ ?_ | refine zH fun hc => ?_)
   refine eJ (fun (k : Nat) => [.k, .k, .k, .k, .j, .k, .j, .k, .k, .v (.i .i64 (k : Nat)), .j, .j, .j, .j, .j, .j, .j, .j, .k, .k, .k, .k, .k, .k, .k]) (fun k => [.box false (aN s)]) (fun k => k ≤ l.length ∧ ∀ j, j < k → wM s (l.getD j default) = true) (fun k => l.length - k) (0) [] ⟨aG _, fun j h => by omega⟩ (by simp [avs, avb, avi, avo, bI, aN]) (by simp [eN]) ?_
   rintro k g j ⟨hk, hn⟩
   by_cases hlt : k < l.length
   · have hki : (k : Int) < ((l.length : Nat) : Int) := by omega
     have hmm := bB (d := default) hlt
     have c1 := aVp s (l.getD k default) hm hs (ho _ hmm) (aLe s _ hm hs (ho _ hmm))
     refine zh (zt hki) ?_
     (refine zy1 (zt hki) c1 ?_; repeat' first | exact trivial | refine zJ ?_ ?_ | refine zH fun hc => ?_)
     · exact aE (by
         have : l.all (wM s) = false := by rw [jD]; exact ⟨_, hmm, by rw [hc]; simp⟩
         rw [iR, this, Bool.and_false, Bool.and_false]) rfl
     · exact ⟨k + 1, _, ⟨by omega, aY hn hc⟩, by omega, rfl, by simp⟩
   · have hki : ¬ (k : Int) < ((l.length : Nat) : Int) := by omega
     have ha : l.all (wM s) = true := lG (fun j hj => hn j (by omega))
     rw [iR, ha, Bool.and_true]
     generalize cU s = A at *
     refine zh (zf hki) ?_
     (refine zy1 (zf hki) c2 ?_; repeat' first | exact trivial | refine zJ ?_ ?_ | refine zH fun hc => ?_)
     all_goals clear c2
     all_goals exact aE (by (simp_all) <;> (intros; omega)) rfl
theorem bGf (s : cC) (l : List gD) (t : LTerm) (hm : Small s) (hs : OkS s) (hv : cU s = true) (hl : l.length ≤ 1000000) (ho : ∀ a ∈ l, OkP a) (ht : OkT t) (hp : kK s t = true): CT 61 [.agg (aN s), ava l, elT t] (.b (l.all fun a => kN s a t)) := by
 refine bM mixed Tryz.func61 g0 ?_
 · simp -implicitDefEqProofs (disch := omega) only [Tryz.f61, go_sem, List.replicate, ↓reduceIte, reduceAdd, reduceSub, reduceMul, reduceLeDiff, reduceLT, reduceEqDiff, reduceNeg, Nat.reduceBEq, ava]
   (refine zs0 ?_; repeat' first | exact trivial | refine zJ ?_ ?_ | refine zH fun hc => ?_)
   refine eJ (fun (k : Nat) => [.k, .k, .k, .k, .k, .k, .j, .k, .j, .k, .k, .v (.i .i64 (k : Nat)), .j, .j, .j, .j, .j, .j, .j, .j, .j]) (fun k => [.box false (aN s), .box false [.i .i64 (t).kind, .i .i64 (t).n, .s (t).text, .s (t).sort, .sl ((t).kids.flatMap aC) (t).kids.length, .sl ((t).rest.flatMap aC) (t).rest.length]]) (fun k => k ≤ l.length ∧ ∀ j, j < k → kN s (l.getD j default) t = true) (fun k => l.length - k) (0) [] ⟨aG _, fun j h => by omega⟩ (by simp [avs, avb, avi, avo, bI, aN]) (by simp [eN]) ?_
   rintro k g j ⟨hk, hn⟩
   by_cases hlt : k < l.length
   · have hki : (k : Int) < ((l.length : Nat) : Int) := by omega
     have hmm := bB (d := default) hlt
     have oa := ho _ hmm
     have c1 := aVm s (l.getD k default) t hm hs hv oa.test oa.path ht hp
     simp only [aS, avt] at c1
     refine zh (zA2 (zt hki) (zA2 @aS.eq_1 @avt.eq_1)) ?_
     (refine zy1 (zA2 (zt hki) (zA2 @aS.eq_1 @avt.eq_1)) c1 ?_; repeat' first | exact trivial | refine zJ ?_ ?_ | refine zH fun hc => ?_)
     all_goals first
       | exact ⟨k + 1, _, ⟨by omega, aY hn hc⟩, by omega, rfl, by simp⟩
       | exact aE (by
           have : (l.all fun a => kN s a t) = false := by rw [jD]; exact ⟨_, hmm, by rw [hc]; simp⟩
           rw [this]) rfl
   · have hki : ¬ (k : Int) < ((l.length : Nat) : Int) := by omega
     have ha : (l.all fun a => kN s a t) = true := by
       rw [aL]
       intro x hx
       obtain ⟨j, hj, rfl⟩ := bL.1 hx
       have := hn j (by omega)
       simpa [List.getD, hj] using this
     refine zh (zf hki) ?_
     (refine zx0 (zf hki) ?_; repeat' first | exact trivial | refine zJ ?_ ?_ | refine zH fun hc => ?_)
     all_goals exact aE (by rw [ha]) rfl
theorem bGm (l m : List Int) (hl : l.length ≤ 1000000) (hm : m.length ≤ 1000000): CT 20 [.sl (ints l) l.length, .sl (ints m) m.length] (.b (decide (l = m))) := by
 refine dK (rx := true) (th := fun _ => none) mixed Tryz.func20 g0 ?_
 · simp -implicitDefEqProofs (disch := omega) only [Tryz.f20, go_sem, List.replicate, ↓reduceIte, reduceAdd, reduceSub, reduceMul, reduceLeDiff, reduceLT, reduceEqDiff, reduceNeg, Nat.reduceBEq]
   by_cases he : l.length = m.length
   · have hei : ((l.length : Nat) : Int) = ((m.length : Nat) : Int) := by omega
     refine zh (zt hei) ?_
     (refine zx0 (zt hei) ?_; repeat' first | exact trivial | refine zJ ?_ ?_ | refine zH fun hc => ?_)
     refine bP (fun (k : Nat) => [.k, .k, .k, .k, .j, .j, .k, .k, .k, .k, .k, .k, .k, .v (.i .i64 (k : Nat)), .j, .j, .j, .j, .j, .j, .j, .j, .j, .j, .j, .j]) (fun k => []) (fun k => k ≤ l.length ∧ ∀ j, j < k → l.getD j 0 = m.getD j 0) (fun k => l.length - k) (0) ⟨aG _, fun j h => by omega⟩ rfl (by simp [eN]) ?_
     rintro k j ⟨hk, ha2⟩
     refine zg ?_
     (refine zs0 ?_; repeat' first | exact trivial | refine zJ ?_ ?_ | refine zH fun hc => ?_)
     all_goals first
       | exact aE (by rw [aJh (by omega) hc]) rfl
       | exact ⟨k + 1, ⟨by omega, aY ha2 hc⟩, by omega, rfl⟩
       | exact aE (by rw [P2 he (fun j hj => ha2 j (by omega))]) rfl
   · have hei : ¬ ((l.length : Nat) : Int) = ((m.length : Nat) : Int) := by omega
     refine zh (zf hei) ?_
     (refine zx0 (zf hei) ?_; repeat' first | exact trivial | refine zJ ?_ ?_ | refine zH fun hc => ?_)
     all_goals exact aE (by rw [zf (fun e => he (by rw [e]))]) rfl

theorem bGn (s : cC) (l : List LTerm) (t : LTerm) (hm : Small s) (hs : OkS s) (hl : l.length ≤ 1466015503701) (ho : ∀ p ∈ l, OkT p) (ht : OkT t): CT 19 [.agg (aN s), avt l, elT t] (U1 (mI s l t)) := by
 refine dK (rx := true) (th := fun _ => none) mixed Tryz.func19 g0 ?_
 · generalize hR : ((U1 (mI s l t)) : AV) = R
   simp -implicitDefEqProofs (disch := omega) only [Tryz.f19, go_sem, List.replicate, ↓reduceIte, reduceAdd, reduceSub, reduceMul, reduceLeDiff, reduceLT, reduceEqDiff, reduceNeg, Nat.reduceBEq, avt]
   have c1 := bGl s l hm hs hl ho
   have c2 := aWi s t hm hs ht
   simp only [avt] at c1
   rcases eQ (iR s l) with h1 | h1
   · rw [h1] at c1
     obtain ⟨hv, h100, hpl⟩ := P3 h1
     rcases eQ (cU s && kK s t) with h2 | h2
     · rw [h2] at c2
       have hpv := ((aB _ _).mp h2).2
       (refine zt2 c1 c2 ?_; repeat' first | exact trivial | refine zJ ?_ ?_ | refine zH fun hc => ?_)
       refine bP (fun (q : Nat × AV × List AObj) => [.k, .k, .k, .k, .k, .k, .k, .k, .v (q.2.1), .j, .j, .k, .k, .k, .k, .k, .k, .k, .k, .k, .k, .k, .k, .v (.i .i64 (q.1 : Nat)), .j, .j, .j, .j, .j, .j, .j, .j, .j, .j, .j, .j, .j, .j, .k]) (fun q => (.box false (aN s) :: .box false [.i .i64 (t).kind, .i .i64 (t).n, .s (t).text, .s (t).sort, .sl ((t).kids.flatMap aC) (t).kids.length, .sl ((t).rest.flatMap aC) (t).rest.length] :: q.2.2)) (fun q => q.1 ≤ l.length ∧ eP 1 2 q.2.2 q.2.1 (ints (qG s t (l.take q.1) 0)) (qG s t (l.take q.1) 0).length) (fun q => l.length - q.1) ((0, .e0, [])) ⟨aG _, kY⟩ rfl (by simp [eN]) ?_
       rintro ⟨k, out, g⟩ j ⟨hk, hout⟩
       dsimp only at hk hout
       by_cases hlt : k < l.length
       · have hki : (k : Int) < ((l.length : Nat) : Int) := by omega
         have hmm := bB (d := default) hlt
         have hp := hpl _ hmm
         have hpo := ho _ hmm
         have hh := qL (lJ hp)
         have htl : (cM (l.getD k default) []).length ≤ 1000000 := dT (nL _ []) (by omega)
         have c4 := aVo (l.getD k default) hpo [] (by simp only [bD]; omega) htl
         have c5 := bGf s (cM (l.getD k default) []) t hm hs hv htl (M9 _ hpo [] (by simp only [bD]; omega) (by simp)) ht hpv
         have e : ((cM (l.getD k default) []).all fun a => kN s a t) = Y7 s t (l.getD k default) := rfl
         rw [e] at c5
         simp only [bN, bD] at c4
         have hlen := tU (s := s) (t := t) (l := l.take k) (i := 0)
         have htk := uU (s := s) (t := t) (i := 0) hlt
         rw [bX] at htk
         rw [jV] at hlen
         clear e
         generalize Y7 s t (l.getD k default) = ok at *
         generalize cM (l.getD k default) [] = T at *
         simp only [ava, elT, bA, avt] at c4 c5
         refine zh (zt hki) ?_
         (refine zy2 (zt hki) c4 c5 ?_; repeat' first | exact trivial | refine zJ ?_ ?_ | refine zH fun hc => ?_)
         all_goals first
           | (refine ⟨(k + 1, out, _), ⟨by dsimp only; omega, ?_⟩, by dsimp only; omega, rfl, by simp⟩
              dsimp only
              rw [htk, if_neg (by rw [hc]; simp), List.append_nil]
              exact hout.more _)
           | skip
         · refine eV (pre := [_, _]) (news := [.i .i64 (k : Nat)]) (m := 1) hout rfl rfl bPo zo3 sz3 by3 rfl (by decide) (by simp -implicitDefEqProofs (disch := omega) only [go_sem, ↓reduceIte, reduceAdd, reduceSub, reduceMul, reduceLeDiff, reduceLT, reduceEqDiff, reduceNeg, Nat.reduceBEq]) (by simp -implicitDefEqProofs (disch := omega) only [go_sem, ↓reduceIte, reduceAdd, reduceSub, reduceMul, reduceLeDiff, reduceLT, reduceEqDiff, reduceNeg, Nat.reduceBEq]) ⟨by omega, by omega⟩ ?_
           intro out' g' ho' _
           refine zg ?_
           refine ⟨(k + 1, out', g'), ⟨by dsimp only; omega, ?_⟩, by dsimp only; omega, rfl, by simp⟩
           dsimp only
           rw [htk, if_pos hc, ints, aT, aH]
           exact ho'
       · have hki : ¬ (k : Int) < ((l.length : Nat) : Int) := by omega
         have hkt : l.take k = l := aJ (by omega)
         rw [hkt] at hout
         refine zh (zf hki) ?_
         subst hR
         have he : mI s l t = (qG s t l 0, 0) := by rw [mI, h1, h2, dN, if_pos rfl]
         rw [he]
         exact aLg (pre := [_, _]) hout fI
     · rw [h2] at c2
       (refine zt2 c1 c2 ?_; repeat' first | exact trivial | refine zJ ?_ ?_ | refine zH fun hc => ?_)
       subst hR
       all_goals exact .inr ⟨by rw [mI, h2, Bool.and_false, if_neg (by simp)]; exact ⟨rfl, rfl, trivial⟩, dC, fun i hi => absurd hi (by show ¬ i ∈ []; simp)⟩
   · rw [h1] at c1
     (refine zt1 c1 ?_; repeat' first | exact trivial | refine zJ ?_ ?_ | refine zH fun hc => ?_)
     subst hR
     all_goals exact .inr ⟨by rw [mI, h1, Bool.false_and, if_neg (by simp)]; exact ⟨rfl, rfl, trivial⟩, dC, fun i hi => absurd hi (by show ¬ i ∈ []; simp)⟩
theorem bGt (s : cC) (l : List LTerm) (t : LTerm) (hs : OkS s) (hl : l.length ≤ 1466015503700) (ho : ∀ p ∈ l, OkT p) (ht : OkT t): CT 4 [.agg (aN s), avt l, elT t] (.b true) := by
 refine dK (rx := true) (th := fun i => if i = 1 then some ⟨none, [], true, true, false, [22], []⟩ else none) mixed Tryz.func4 g0 ?_
 · generalize hR : ((.b true) : AV) = R
   simp -implicitDefEqProofs (disch := omega) only [Tryz.f4, go_sem, List.replicate, ↓reduceIte, reduceAdd, reduceSub, reduceMul, reduceLeDiff, reduceLT, reduceEqDiff, reduceNeg, Nat.reduceBEq, avt]
   subst hR
   have hlt : (l ++ [t]).length ≤ 1466015503701 := by simp; omega
   have hot : ∀ p ∈ l ++ [t], OkT p := by
     intro p hp
     rcases bJ.1 hp with hp | hp
     · exact ho p hp
     · rw [bC] at hp; exact hp ▸ ht
   have c1 := aVt s (l ++ [t]) hs hlt hot
   have ca := aVs
   have e1 : (l ++ [t]).flatMap aC = l.flatMap aC ++ [.i .i64 (t).kind, .i .i64 (t).n, .s (t).text, .s (t).sort, .sl ((t).kids.flatMap aC) (t).kids.length, .sl ((t).rest.flatMap aC) (t).rest.length] := by rw [fU, cV, jW, List.append_nil, bA]; rfl
   have e2 : (l ++ [t]).length = l.length + 1 := by simp
   have b1 : (l.length * 96 ≤ 140737488355328) = True := eq_true (by omega)
   have b2 : (l.length ≤ 140737488355328) = True := eq_true (by omega)
   have b3 : ((l.length + 1) * 96 ≤ 140737488355328) = True := eq_true (by omega)
   have b4 : (l.length + 1 ≤ 140737488355328) = True := eq_true (by omega)
   have b5 : (l.length ≤ 140737488355327) = True := eq_true (by omega)
   have b6 : ∀ n : Nat, (n ≤ n) = True := fun n => eq_true (aZ n)
   have q1 : (l.flatMap aC).length = l.length * 6 := sK
   have tl1 : List.take (l.length * 6) (l.flatMap aC) = l.flatMap aC := aJ (by omega)
   have tl2 : List.take ((l.length + 1) * 6) (l.flatMap aC ++ [.i .i64 (t).kind, .i .i64 (t).n, .s (t).text, .s (t).sort, .sl ((t).kids.flatMap aC) (t).kids.length, .sl ((t).rest.flatMap aC) (t).rest.length]) = l.flatMap aC ++ [.i .i64 (t).kind, .i .i64 (t).n, .s (t).text, .s (t).sort, .sl ((t).kids.flatMap aC) (t).kids.length, .sl ((t).rest.flatMap aC) (t).rest.length] := aJ (by rw [aH, q1]; simp only [aQ, bD]; omega)
   have hps : persL (l.flatMap aC ++ [.i .i64 (t).kind, .i .i64 (t).n, .s (t).text, .s (t).sort, .sl ((t).kids.flatMap aC) (t).kids.length, .sl ((t).rest.flatMap aC) (t).rest.length]) = true := by simp [fO, lQ, persL, pers]
   simp only [avt, e1, e2] at c1
   have b7 : ((l.length + 1) * 6 ≤ l.length * 6 + 6) = True := eq_true (by omega)
   rcases eQ (few s && aOe 1500 (l ++ [t])) with h1 | h1
   · rw [h1] at c1
     have hm := S5 ((aB _ _).mp h1).1
     have d1 := bGo s l t hm hs (by omega) ho ht
     have d2 := bGn s l t hm hs (by omega) ho ht
     have hcl : l.length ≤ 110 → (mI s l t).1.length ≤ 1000000 := fun h => by
       have := tU (s := s) (t := t) (l := l) (i := 0)
       rw [mI]; split
       · show (qG s t l 0).length ≤ _; omega
       · simp
     have d3 : l.length ≤ 110 → CT 20 [.sl (ints (mI s l t).1) (mI s l t).1.length, .sl (ints (mI s l t).1) (mI s l t).1.length] (.b true) := fun h => by
       have := bGm (mI s l t).1 (mI s l t).1 (hcl h) (hcl h)
       rwa [zt rfl] at this
     simp only [U1, avt] at d1 d2
     generalize (mI s l t).1 = C at *
     generalize (mI s l t).2 = E at *
     refine zh (zA2 @b1 (zA2 @b2 (zA2 b3 (zA2 b4 (zA2 b5 (zA2 b6 (zA2 b7 (zA2 @q1 (zA2 tl1 (zA2 tl2 (zA2 hps (zA2 @dS (zA2 @dP.{0} (zA2 @eY.{0} @List.append_nil.{0})))))))))))))) ?_
     (repeat' (first | refine gT ?_ ?_ | refine gF ?_ ?_ | refine gC ?_ ?_ | ((first | (refine aW (c1) ?_ ?_; (focus (simp -implicitDefEqProofs (disch := omega) only [b1, b2, b3, b4, b5, b6, b7, q1, tl1, tl2, hps, dS, dP, eY, List.append_nil, eq_self, decide_true, zdB, go_sem, ↓reduceIte, reduceAdd, reduceSub, reduceMul, reduceLeDiff, reduceLT, reduceEqDiff, reduceNeg, Nat.reduceBEq]; done))) | (refine aW (ca) ?_ ?_; (focus (simp -implicitDefEqProofs (disch := omega) only [b1, b2, b3, b4, b5, b6, b7, q1, tl1, tl2, hps, dS, dP, eY, List.append_nil, eq_self, decide_true, zdB, go_sem, ↓reduceIte, reduceAdd, reduceSub, reduceMul, reduceLeDiff, reduceLT, reduceEqDiff, reduceNeg, Nat.reduceBEq]; done))) | (refine aW (d1) ?_ ?_; (focus (simp -implicitDefEqProofs (disch := omega) only [b1, b2, b3, b4, b5, b6, b7, q1, tl1, tl2, hps, dS, dP, eY, List.append_nil, eq_self, decide_true, zdB, go_sem, ↓reduceIte, reduceAdd, reduceSub, reduceMul, reduceLeDiff, reduceLT, reduceEqDiff, reduceNeg, Nat.reduceBEq]; done))) | (refine aW (d2) ?_ ?_; (focus (simp -implicitDefEqProofs (disch := omega) only [b1, b2, b3, b4, b5, b6, b7, q1, tl1, tl2, hps, dS, dP, eY, List.append_nil, eq_self, decide_true, zdB, go_sem, ↓reduceIte, reduceAdd, reduceSub, reduceMul, reduceLeDiff, reduceLT, reduceEqDiff, reduceNeg, Nat.reduceBEq]; done))) | (refine aW ((d3 (by omega))) ?_ ?_; (focus (simp -implicitDefEqProofs (disch := omega) only [b1, b2, b3, b4, b5, b6, b7, q1, tl1, tl2, hps, dS, dP, eY, List.append_nil, eq_self, decide_true, zdB, go_sem, ↓reduceIte, reduceAdd, reduceSub, reduceMul, reduceLeDiff, reduceLT, reduceEqDiff, reduceNeg, Nat.reduceBEq]; done)))); simp -implicitDefEqProofs (disch := omega) only [b1, b2, b3, b4, b5, b6, b7, q1, tl1, tl2, hps, dS, dP, eY, List.append_nil, eq_self, decide_true, go_sem, ↓reduceIte, reduceAdd, reduceSub, reduceMul, reduceLeDiff, reduceLT, reduceEqDiff, reduceNeg, Nat.reduceBEq]) | refine aV (by omega) ?_ | (intro hr; have hc := hr; (try simp only [zdz] at hc); simp -implicitDefEqProofs (disch := omega) only [hr, b1, b2, b3, b4, b5, b6, b7, q1, tl1, tl2, hps, dS, dP, eY, List.append_nil, eq_self, decide_true, go_sem, ↓reduceIte, reduceAdd, reduceSub, reduceMul, reduceLeDiff, reduceLT, reduceEqDiff, reduceNeg, Nat.reduceBEq]; (try clear hr))))
     all_goals exact aE rfl rfl
   · rw [h1] at c1
     refine zh (zA2 @b1 (zA2 @b2 (zA2 b3 (zA2 b4 (zA2 b5 (zA2 b6 (zA2 b7 (zA2 @q1 (zA2 tl1 (zA2 tl2 (zA2 hps (zA2 @dS (zA2 @dP.{0} (zA2 @eY.{0} @List.append_nil.{0})))))))))))))) ?_
     (refine zy2 (zA2 @b1 (zA2 @b2 (zA2 b3 (zA2 b4 (zA2 b5 (zA2 b6 (zA2 b7 (zA2 @q1 (zA2 tl1 (zA2 tl2 (zA2 hps (zA2 @dS (zA2 @dP.{0} (zA2 @eY.{0} @List.append_nil.{0})))))))))))))) c1 ca ?_; repeat' first | exact trivial | refine zJ ?_ ?_ | refine zH fun hc => ?_)
     all_goals exact aE rfl rfl
end Go.Proofs.YtifefbhllfdmlaaGreatDoor

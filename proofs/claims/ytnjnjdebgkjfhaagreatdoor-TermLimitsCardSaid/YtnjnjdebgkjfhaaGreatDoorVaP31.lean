/-
  What functions of the chapter return, as plain functions of what they are given; no condition beyond those that each theorem names.
-/
import Derived.Test.YtnjnjdebgkjfhaaGreatDoorVaP25
import Derived.Test.YtnjnjdebgkjfhaaGreatDoorVaP26
import Derived.Test.YtnjnjdebgkjfhaaGreatDoorVaP27
import Derived.Test.YtnjnjdebgkjfhaaGreatDoorTeP24
import Derived.Test.YtnjnjdebgkjfhaaGreatDoorVoP29
import Derived.Test.YtnjnjdebgkjfhaaGreatDoorVoP26
import Derived.Test.YtnjnjdebgkjfhaaGreatDoorTeP28
set_option maxRecDepth 100000
set_option linter.unusedSimpArgs false
set_option linter.unusedVariables false
set_option maxHeartbeats 4000000
namespace Go.Vo
section
variable {P : Program} {G : Glob} {Q : Exit → List AV → List AObj → Prop} {env : List AV} {h : List AObj}
theorem aw_seqK {x y : Code} (k : ∀ K : Exit → List AV → List AObj → Prop, (∀ env h, AW P G y Q env h → K .normal env h) → AW P G x K env h) : AW P G (.seq x y) Q env h := aw_seq (k _ (fun _ _ e => e))
theorem aw_block {id : Nat} {c : Code} (k : ∀ K : Exit → List AV → List AObj → Prop, (∀ env h, Q .normal env h → K (.exit id) env h) → AW P G c K env h) : AW P G (.block id c) Q env h := by
 intro X w a g r
 refine wp_block (wp_mono (k (blockX id Q) (fun env h q => by simp [blockX, q]) X w a g r) ?_)
 intro e' a' w' k
 cases e' with
 | exit i =>
   simp only [Exit.inBlock]
   obtain ⟨env', h', X', k1, k2, k3, k4⟩ := k
   simp only [blockX] at k1
   split
   · rename_i hi; rw [if_pos hi] at k1; exact ⟨env', h', X', k1, k2, k3, k4⟩
   · rename_i hi; rw [if_neg hi] at k1; exact ⟨env', h', X', k1, k2, k3, k4⟩
 | _ => exact k
def Turn (G : Glob) (K : List AV → List AObj → Prop) (env : List AV) (h : List AObj) : Prop := ∀ (X : Ctx) (w : World) (a : Act), GH G X w h → EnvOK X w h env a → Holds G X w h K a w
theorem aw_loop {c : Code} {S : Type} (I : S → List AV → List AObj → Prop) (μ : S → Nat) (s0 : S) (h0 : I s0 env h)
   (round : ∀ s env h, I s env h → ∀ K : Exit → List AV → List AObj → Prop, (∀ env' h', Turn G (fun e2 h2 => ∃ s', I s' e2 h2 ∧ μ s' < μ s) env' h' → K .normal env' h') → (∀ i env' h', Q (.exit i) env' h' → K (.exit i) env' h') → AW P G c K env h) : AW P G (.loop c) Q env h := by
 intro X w a g r
 refine wp_loop_st (S := S × List AV × List AObj × Ctx) (fun s a' w' => I s.1 s.2.1 s.2.2.1 ∧ GH G s.2.2.2 w' s.2.2.1 ∧ EnvOK s.2.2.2 w' s.2.2.1 s.2.1 a' ∧ Tr X w h s.2.2.2 w' s.2.2.1) (fun s => μ s.1) (s0, env, h, X) ⟨h0, g, r, .refl _ _ _⟩ ?_
 rintro ⟨s1, env1, h1, X1⟩ a1 w1 ⟨i1, g1, r1, t1⟩
 refine wp_mono (round s1 env1 h1 i1 (thenX (Turn G (fun e2 h2 => ∃ s', I s' e2 h2 ∧ μ s' < μ s1)) Q) (fun _ _ e => e) (fun _ _ _ e => e) X1 w1 a1 g1 r1) ?_
 intro e' a' w' k
 cases e' with
 | normal =>
   obtain ⟨env', h', X', k1, k2, k3, k4⟩ := k
   obtain ⟨env2, h2, X2, ⟨s', m1, m2⟩, m3, m4, m5⟩ := k1 X' w' a' k2 k3
   exact ⟨(s', env2, h2, X2), ⟨m1, m3, m4, t1.trans (k4.trans m5)⟩, m2⟩
 | _ => exact k.trans t1
theorem Turn.trans {K : List AV → List AObj → Prop} (t : Turn G (fun e h' => Turn G K e h') env h) : Turn G K env h := by
 intro X w a g r
 obtain ⟨e1, h1, X1, k1, k2, k3, k4⟩ := t X w a g r
 obtain ⟨e2, h2, X2, m1, m2, m3, m4⟩ := k1 X1 w a k2 k3
 exact ⟨e2, h2, X2, m1, m2, m3, k4.trans m4⟩
theorem Turn.refl {K : List AV → List AObj → Prop} (k : K env h) : Turn G K env h := fun X w a g r => ⟨env, h, X, k, g, r, .refl _ _ _⟩
theorem aw_loopJ {c : Code} {S : Type} (ps : S → List Slot) (hp : S → List AObj) (I : S → Prop) (μ : S → Nat) (s0 : S) (h0 : I s0) (hh : h = hp s0) (k0 : Fits (ps s0) env env)
   (round : ∀ (s : S) (j : Nat → AV), I s → ∀ K : Exit → List AV → List AObj → Prop, (∀ env' h', Turn G (fun e2 h2 => ∃ s', I s' ∧ μ s' < μ s ∧ h2 = hp s' ∧ Fits (ps s') env e2) env' h' → K .normal env' h') → (∀ i env' h', Q (.exit i) env' h' → K (.exit i) env' h') → AW P G c K (mkEnv j 0 (ps s) env) (hp s)) : AW P G (.loop c) Q env h := by
 refine aw_loop (fun s e h' => I s ∧ h' = hp s ∧ Fits (ps s) env e) μ s0 ⟨h0, hh, k0⟩ ?_
 rintro s e h' ⟨hI, rfl, hf⟩ K hK1 hK2
 have he : mkEnv (fun n => e.getD n .u) 0 (ps s) env = e := mk_fits _ env e 0 _ (fun m v hv => by simp [List.getD, hv]) hf
 have r := round s (fun n => e.getD n .u) hI K (fun env' h' t => hK1 env' h' (by
   have mono : (fun e2 h2 => ∃ s', I s' ∧ μ s' < μ s ∧ h2 = hp s' ∧ Fits (ps s') env e2) = fun e2 h2 => ∃ s', (I s' ∧ h2 = hp s' ∧ Fits (ps s') env e2) ∧ μ s' < μ s := by
     funext e2 h2
     exact propext ⟨fun ⟨s', a, b, c, d⟩ => ⟨s', ⟨a, c, d⟩, b⟩, fun ⟨s', ⟨a, c, d⟩, b⟩ => ⟨s', a, b, c, d⟩⟩
   rw [mono] at t
   exact t)) hK2
 rw [he] at r
 exact r
theorem turn_cell {K : List AV → List AObj → Prop} {b k i : Nat} {cells : List AV} {x : AV} (hb : h[b]? = some (.box false cells)) (hi : env[i]? = some (.ptr b 0)) (hk : cells[k]? = some x) (hn : b ∉ reach dep h x)
   (q : K env ((freeze (reach dep h x) h).set b (.box false (cells.set k (snap dep h x))))) : Turn G K env h := by
 intro X w a g r
 have hlt := lt_of_some hi
 have hlti := lt_of_some hi
 obtain ⟨v, hv⟩ : ∃ v, a.tmps[i]? = some v := ⟨_, Array.getElem?_eq_getElem (by have := r.size; omega)⟩
 have rp := r.rel i _ v hi hv
 obtain ⟨b1, o1, hι, rfl⟩ : ∃ b1 o1, X.ι b = some (b1, o1) ∧ v = .pointer (some ⟨b1, o1 + 0, Option.none⟩) := by
   cases rp with
   | ptr _ _ h3 => exact ⟨_, _, h3, rfl⟩
   | dead hr hd _ => simp only [AV.refs, Option.some.injEq] at hr; subst hr; rw [hb] at hd; cases hd
 obtain ⟨cs, T, fr, hw, hle, hc1, hcr⟩ : ∃ cs T fr, w.heap[b1]? = some (.cells cs T fr) ∧ o1 + cells.length ≤ cs.size ∧ (∀ (j : Nat) (v : Value), j < cells.length → cs[o1 + j]? = some v → v.oneCell' = true) ∧ (∀ (j : Nat) (a : AV) (v : Value), cells[j]? = some a → cs[o1 + j]? = some v → RV X w h a v) := by
   have ok := g.objs _ _ hb
   cases ok with
   | absent h0 => rw [h0] at hι; cases hι
   | box h0 h1 h2 h3 h4 h5 h6 => rw [h0] at hι; cases hι; exact ⟨_, _, _, h1, h4, h5, h6⟩
 have hkl := lt_of_some hk
 obtain ⟨u, hu⟩ : ∃ u, cs[o1 + k]? = some u := ⟨_, Array.getElem?_eq_getElem (by omega)⟩
 obtain ⟨X1, g1, r1, t1⟩ := keep_ok g (hcr k x u hk hu)
 have hb' : (freeze (reach dep h x) h)[b]? = some (.box false cells) := by rw [freeze_get, hb, Option.map_some, if_neg hn]
 have rp1 := rp.mono t1.ext
 have hι1 : X1.ι b = some (b1, o1) := by
   cases rp1 with
   | ptr _ _ h3 => exact h3
   | dead hr hd _ => simp only [AV.refs, Option.some.injEq] at hr; subst hr; rw [hb'] at hd; cases hd
 have ok1 := g1.objs _ _ hb'
 cases ok1 with
 | absent h0 => rw [h0] at hι1; cases hι1
 | box h0 h1 h2 h3 h4 h5 h6 =>
 rw [h0] at hι1; cases hι1
 rw [hw] at h1; cases h1
 obtain ⟨hnF, rfl⟩ := h3 rfl
 obtain ⟨g2, t2⟩ := gh_store (w' := w) (ob' := .box false (cells.set k (snap dep h x))) g1 hb' h0 hnF (by simp [AObj.like]) rfl rfl rfl rfl (fun _ _ => rfl) (fun s hs => hs) (fun ee => by
   refine .box h0 hw (fun f => by cases f) (fun _ => ⟨hnF, rfl⟩) (by simpa using h4) (fun j v hj hv => h5 j v (by simpa using hj) hv) ?_
   intro j a v ha hv
   by_cases hjk : k = j
   · subst hjk
     rw [List.getElem?_set_self hkl] at ha
     cases ha
     rw [hu] at hv; cases hv
     exact r1.mono ee
   · rw [List.getElem?_set_ne hjk] at ha
     exact (h6 j a v ha hv).mono ee)
 exact ⟨_, _, X1, q, g2, (r.mono t1.ext).mono t2.ext, t1.trans t2⟩
end
end Go.Vo
namespace Go.Proofs.YtnjnjdebgkjfhaaGreatDoor
open Go Go.Vo
open Nat (reduceAdd reduceSub reduceMul reduceLeDiff reduceLT reduceEqDiff)
open Int (reduceNeg)
theorem ctr353j (n : Int): CT 45 [.i .i64 n] (.agg (termCells (tInt n))) := by
 refine sem_introA mixed Tryz.func45 g0 ?_
 · generalize hR : ((.agg (termCells (tInt n))) : AV) = R
   simp -implicitDefEqProofs (disch := omega) only [Tryz.f45, go_sem, List.replicate, ↓reduceIte, reduceAdd, reduceSub, reduceMul, reduceLeDiff, reduceLT, reduceEqDiff, reduceNeg, Nat.reduceBEq]
   subst hR
   exact fin_t (t := tInt n) rd6_e0 rd6_e0
def deepT : Nat → LTerm
 | 0 => tInt 1
 | d + 1 => .mk 7 0 [] [] [deepT d] []
def limT (m : Nat) (v : Int) : LTerm := .mk 7 0 [] [] (List.replicate m (tInt v)) []
theorem int_ok (v : Int) (h0 : 0 ≤ v) (h1 : v ≤ 255) : OkT (tInt v) := .mk (by simp [LTerm.text]) (by simp [LTerm.sort]) (by simp only [LTerm.n]; omega) (by simp only [LTerm.n]; omega) (by simp [LTerm.kids]) (by simp [LTerm.rest]) (by simp [LTerm.kids]) (by simp [LTerm.rest])
theorem int_node (v : Int) (h0 : 0 ≤ v) (h1 : v ≤ 255) : nodeB (tInt v) = true := by
 have : isInt v = true := by simp only [isInt, Bool.and_eq_true, decide_eq_true_eq]; omega
 rw [nodeB_1 rfl]; simp only [LTerm.n, this]; rfl
theorem lim_ok (m : Nat) (v : Int) (h0 : 0 ≤ v) (h1 : v ≤ 255) (hm : m ≤ 2000) : OkT (limT m v) :=
 .mk (by simp [limT, LTerm.text]) (by simp [limT, LTerm.sort]) (by simp [limT, LTerm.n]) (by simp [limT, LTerm.n]) (by simp only [limT, LTerm.kids, List.length_replicate]; omega) (by simp [limT, LTerm.rest])
   (fun k hk => by simp only [limT, LTerm.kids, List.mem_replicate] at hk; rw [hk.2]; exact int_ok v h0 h1) (by simp [limT, LTerm.rest])
theorem lim_valid (m : Nat) (v : Int) (h0 : 0 ≤ v) (h1 : v ≤ 255) : validT nodeB (limT m v) = decide (m + 1 ≤ 2000) := by
 have hl : ∀ m : Nat, wfL nodeB (List.replicate m (tInt v)) = true ∧ highL (List.replicate m (tInt v)) ≤ 1 ∧ nodesL (List.replicate m (tInt v)) = m := by
   intro m
   induction m with
   | zero => exact ⟨rfl, Nat.zero_le _, rfl⟩
   | succ m ih =>
     rw [List.replicate_succ]
     have e1 : nodesT (tInt v) = 1 := rfl
     have e2 : highT (tInt v) = 1 := rfl
     refine ⟨?_, ?_, ?_⟩
     · rw [wfL, ih.1, wfT, int_node v h0 h1]; rfl
     · rw [highL, e2]; omega
     · rw [nodesL, e1, ih.2.2]; omega
 have hn : nodeB (limT m v) = true := rfl
 have hw : wfT nodeB (limT m v) = true := by rw [limT, wfT, (hl m).1]; exact hn
 have hh : highT (limT m v) ≤ 60 := by rw [limT, highT]; have := (hl m).2.1; simp only [List.length_nil]; omega
 have hs : nodesT (limT m v) = m + 1 := by rw [limT, nodesT, (hl m).2.2]; simp only [List.length_nil]; omega
 rw [validT, hw, hs, zt hh]; simp
theorem deep_kinds : ∀ d : Nat, OkT (deepT d) ∧ wfT nodeB (deepT d) = true ∧ highT (deepT d) = d + 1 ∧ nodesT (deepT d) = d + 1
 | 0 => ⟨int_ok 1 (by decide) (by decide), by rw [deepT, wfT, int_node 1 (by decide) (by decide)]; rfl, rfl, rfl⟩
 | d + 1 => by
   obtain ⟨h1, h2, h3, h4⟩ := deep_kinds d
   refine ⟨.mk (by simp [deepT, LTerm.text]) (by simp [deepT, LTerm.sort]) (by simp [deepT, LTerm.n]) (by simp [deepT, LTerm.n]) (by simp [deepT, LTerm.kids]) (by simp [deepT, LTerm.rest]) (fun k hk => by simp only [deepT, LTerm.kids, List.mem_singleton] at hk; rw [hk]; exact h1) (by simp [deepT, LTerm.rest]), ?_, ?_, ?_⟩
   · rw [deepT, wfT, wfL, h2]; rfl
   · rw [deepT, highT, highL, h3]; simp only [List.length_nil, highL]; omega
   · rw [deepT, nodesT, nodesL, h4]; simp only [List.length_nil, nodesL]; omega
theorem deep_valid (d : Nat) (hd : d ≤ 1000) : validT nodeB (deepT d) = decide (d + 1 ≤ 60) := by
 obtain ⟨h1, h2, h3, h4⟩ := deep_kinds d
 rw [validT, h2, h3, h4, zt (show d + 1 ≤ 2000 by omega)]; simp
theorem ctr321 (s0 s1 : Int) (h0 : 0 ≤ s0) (h0' : s0 ≤ 255) (h1 : 0 ≤ s1) (h1' : s1 ≤ 255) : CT 7 [.i .u8 s0, .i .u8 s1] (.b true) := by
 have m0 : 0 ≤ s0.tmod 3 ∧ s0.tmod 3 ≤ 2 := by have := Int.emod_nonneg s0 (b := 3) (by decide); have := Int.emod_lt_of_pos s0 (b := 3) (by decide); rw [Int.tmod_eq_emod_of_nonneg h0]; omega
 have m1 : 0 ≤ s1.tmod 3 ∧ s1.tmod 3 ≤ 2 := by have := Int.emod_nonneg s1 (b := 3) (by decide); have := Int.emod_lt_of_pos s1 (b := 3) (by decide); rw [Int.tmod_eq_emod_of_nonneg h1]; omega
 refine sem_aw Tryz.func7 rfl (by kernel_rfl) g0 ?_
 generalize hM0 : s0.tmod 3 = M0 at m0
 generalize hM1 : s1.tmod 3 = M1 at m1
 refine aw_seqK fun K1 hK1 => ?_
 refine awx_ok (rx := false) (th := fun _ => none) mixed _ (ac := ?_) (by kernel_rfl) ?_ _ _ _ ?_
 rotate_left
 · simp only [strip, splitQ, stripOps, stripOp, hoist, List.filter_cons, List.filter_nil, List.nil_append, List.cons_append, isFree, anyPre, Region.binds, Bool.not_true, Bool.not_false, Bool.false_eq_true, if_true, if_false, Option.isNone_none, Option.isNone_some, Bool.true_and, Bool.false_and, List.map_nil, List.map_cons, List.isEmpty_nil, List.isEmpty_cons, List.append_nil]
   rfl
 simp -implicitDefEqProofs (disch := omega) only [Tryz.f7, go_sem, List.replicate, ↓reduceIte, reduceAdd, reduceSub, reduceMul, reduceLeDiff, reduceLT, reduceEqDiff, reduceNeg, Nat.reduceBEq]
 refine hK1 _ _ ?_
 refine aw_seqK fun K2 hK2 => ?_
 refine awx_ok (rx := false) (th := fun _ => none) mixed _ (ac := ?_) (by kernel_rfl) ?_ _ _ _ ?_
 rotate_left
 · simp only [strip, splitQ, stripOps, stripOp, hoist, List.filter_cons, List.filter_nil, List.nil_append, List.cons_append, isFree, anyPre, Region.binds, Bool.not_true, Bool.not_false, Bool.false_eq_true, if_true, if_false, Option.isNone_none, Option.isNone_some, Bool.true_and, Bool.false_and, List.map_nil, List.map_cons, List.isEmpty_nil, List.isEmpty_cons, List.append_nil]
   rfl
 simp -implicitDefEqProofs (disch := omega) only [hM0, Int.reduceEq, go_sem, ↓reduceIte, reduceAdd, reduceSub, reduceMul, reduceLeDiff, reduceLT, reduceEqDiff, reduceNeg, Nat.reduceBEq]
 refine hK2 _ _ ?_
 refine aw_seqK fun K3 hK3 => ?_
 refine awx_ok (rx := false) (th := fun _ => none) mixed _ (ac := ?_) (by kernel_rfl) ?_ _ _ _ ?_
 rotate_left
 · simp only [strip, splitQ, stripOps, stripOp, hoist, List.filter_cons, List.filter_nil, List.nil_append, List.cons_append, isFree, anyPre, Region.binds, Bool.not_true, Bool.not_false, Bool.false_eq_true, if_true, if_false, Option.isNone_none, Option.isNone_some, Bool.true_and, Bool.false_and, List.map_nil, List.map_cons, List.isEmpty_nil, List.isEmpty_cons, List.append_nil]
   rfl
 simp -implicitDefEqProofs (disch := omega) only [go_sem, ↓reduceIte, reduceAdd, reduceSub, reduceMul, reduceLeDiff, reduceLT, reduceEqDiff, reduceNeg, Nat.reduceBEq]
 refine hK3 _ _ ?_
 refine aw_seqK fun K4 hK4 => ?_
 refine awx_ok (rx := false) (th := fun _ => none) mixed _ (ac := ?_) (by kernel_rfl) ?_ _ _ _ ?_
 rotate_left
 · simp only [strip, splitQ, stripOps, stripOp, hoist, List.filter_cons, List.filter_nil, List.nil_append, List.cons_append, isFree, anyPre, Region.binds, Bool.not_true, Bool.not_false, Bool.false_eq_true, if_true, if_false, Option.isNone_none, Option.isNone_some, Bool.true_and, Bool.false_and, List.map_nil, List.map_cons, List.isEmpty_nil, List.isEmpty_cons, List.append_nil]
   rfl
 simp -implicitDefEqProofs (disch := omega) only [go_sem, ↓reduceIte, reduceAdd, reduceSub, reduceMul, reduceLeDiff, reduceLT, reduceEqDiff, reduceNeg, Nat.reduceBEq]
 obtain ⟨N, hN, hN2⟩ : ∃ N : Nat, 1999 + M0 = (N : Int) + 1 ∧ N ≤ 2000 := ⟨(1998 + M0).toNat, by omega, by omega⟩
 clear hK1 hK2 hK3
 refine x_loopJ (fun (s : Nat × AV × List AObj) => [.k, .k, .k, .k, .k, .k, .k, .k, .k, .k, .k, .k, .k, .k, .j, .j, .j, .j, .j, .j, .j, .j, .j, .j, .j, .j, .j, .j, .k, .k, .k, .k, .k, .k, .k, .k, .k, .k, .k, .k, .k, .k, .k, .k, .k, .k, .k, .k, .k, .k, .k, .k, .k, .k, .k, .k]) (fun s => (.box false [.i .i64 7, .i .i64 0, .s [], .s [], s.2.1, .e0] :: s.2.2)) (fun s => s.1 ≤ N ∧ OutIs 6 1 s.2.2 s.2.1 ((List.replicate s.1 (tInt s0)).flatMap termCells) s.1) (fun s => N - s.1) ((0, .e0, [])) ⟨Nat.zero_le _, outIs_e0⟩ rfl (by simp [Fits]) ?_
 rintro ⟨k, out, g⟩ j ⟨hk, ho⟩
 dsimp only at hk ho
 have tc : termCells (tInt s0) = [.i .i64 1, .i .i64 s0, .s [], .s [], .sl [] 0, .sl [] 0] := by rw [termCells_eq]; rfl
 have rep : (List.replicate (k + 1) (tInt s0)).flatMap termCells = (List.replicate k (tInt s0)).flatMap termCells ++ [.i .i64 1, .i .i64 s0, .s [], .s [], .sl [] 0, .sl [] 0] := by
   rw [List.replicate_succ', List.flatMap_append, ← tc]; simp
 rcases ho with ⟨rfl, hc, rfl⟩ | ⟨i, rfl, hi, hil⟩
 · have hp : (0 : Int) < 1999 + M0 - 1 := by omega
   simp -implicitDefEqProofs (disch := omega) only [zt hp, go_sem, ↓reduceIte, reduceAdd, reduceSub, reduceMul, reduceLeDiff, reduceLT, reduceEqDiff, reduceNeg, Nat.reduceBEq]
   (repeat' (first | refine gT ?_ ?_ | refine gF ?_ ?_ | refine gC ?_ ?_ | ((refine c_ctrE (ctr353j s0) ?_ ?_; (focus (simp -implicitDefEqProofs (disch := omega) only [zt hp, rep1t, avs, avb, avi, avo, sigCells, opCells, pairCells, elT, avt, termCells_eq, go_sem, ↓reduceIte, reduceAdd, reduceSub, reduceMul, reduceLeDiff, reduceLT, reduceEqDiff, reduceNeg, Nat.reduceBEq]; done))); simp -implicitDefEqProofs (disch := omega) only [zt hp, rep1t, go_sem, ↓reduceIte, reduceAdd, reduceSub, reduceMul, reduceLeDiff, reduceLT, reduceEqDiff, reduceNeg, Nat.reduceBEq]) | refine And.intro (by omega) ?_ | (intro hr; have hc := hr; (try simp only [zda, zdb, zdc, zdd] at hc); simp -implicitDefEqProofs (disch := omega) only [hr, zt hp, rep1t, go_sem, ↓reduceIte, reduceAdd, reduceSub, reduceMul, reduceLeDiff, reduceLT, reduceEqDiff, reduceNeg, Nat.reduceBEq]; (try clear hr))))
   exact ⟨(1, .hs (g.length + 1 + 1) 0 1 false, _), ⟨by dsimp only; omega, .inr ⟨g.length + 1, rfl, by simp only [get_off]; rw [rep]; rfl, by rw [rep]; rfl⟩⟩, by dsimp only; omega, rfl⟩
 · generalize hC : (List.replicate k (tInt s0)).flatMap termCells = C at hi hil rep
   by_cases hlt : k < N
   · have hp : (k : Int) < 1999 + M0 - 1 := by omega
     have hb1 : (k + 1) * 96 ≤ 140737488355328 := by omega
     have hb2 : k ≤ 140737488355327 := by omega
     have hi2 : (g ++ [AObj.arr false 6 [.i .i64 1, .i .i64 s0, .s [], .s [], .sl [] 0, .sl [] 0]])[i]? = some (.arr false 6 C) := by rw [List.getElem?_append_left (lt_of_some hi)]; exact hi
     simp -implicitDefEqProofs (disch := omega) only [zt hp, hi, go_sem, ↓reduceIte, reduceAdd, reduceSub, reduceMul, reduceLeDiff, reduceLT, reduceEqDiff, reduceNeg, Nat.reduceBEq]
     (repeat' (first | refine gT ?_ ?_ | refine gF ?_ ?_ | refine gC ?_ ?_ | ((refine c_ctrE (ctr353j s0) ?_ ?_; (focus (simp -implicitDefEqProofs (disch := omega) only [zt hp, rep1t, hi, hi2, hil, hb1, hb2, Nat.le_refl, true_and, and_true, avs, avb, avi, avo, sigCells, opCells, pairCells, elT, avt, termCells_eq, go_sem, ↓reduceIte, reduceAdd, reduceSub, reduceMul, reduceLeDiff, reduceLT, reduceEqDiff, reduceNeg, Nat.reduceBEq]; done))); simp -implicitDefEqProofs (disch := omega) only [zt hp, rep1t, hi, hi2, hil, hb1, hb2, Nat.le_refl, true_and, and_true, go_sem, ↓reduceIte, reduceAdd, reduceSub, reduceMul, reduceLeDiff, reduceLT, reduceEqDiff, reduceNeg, Nat.reduceBEq]) | refine And.intro (by omega) ?_ | (intro hr; have hc := hr; (try simp only [zda, zdb, zdc, zdd] at hc); simp -implicitDefEqProofs (disch := omega) only [hr, zt hp, rep1t, hi, hi2, hil, hb1, hb2, Nat.le_refl, true_and, and_true, go_sem, ↓reduceIte, reduceAdd, reduceSub, reduceMul, reduceLeDiff, reduceLT, reduceEqDiff, reduceNeg, Nat.reduceBEq]; (try clear hr))))
     refine ⟨(k + 1, .hs (g.length + 1 + 1) 0 (k + 1) false, _), ⟨by dsimp only; omega, .inr ⟨g.length + 1, rfl, ?_, ?_⟩⟩, by dsimp only; omega, rfl⟩
     · dsimp only
       rw [rep, List.getElem?_append_right (by simp)]; simp
     · dsimp only
       rw [rep, List.length_append, hil]; simp; omega
   · have hp : ¬ (k : Int) < 1999 + M0 - 1 := by omega
     have hkN : k = N := by omega
     subst hkN
     simp -implicitDefEqProofs (disch := omega) only [zf hp, hi, go_sem, ↓reduceIte, reduceAdd, reduceSub, reduceMul, reduceLeDiff, reduceLT, reduceEqDiff, reduceNeg, Nat.reduceBEq]
     refine hK4 _ _ ?_
     clear hK4
     refine aw_seqK fun K5 hK5 => ?_
     refine awx_ok (rx := false) (th := fun _ => none) mixed _ (ac := ?_) (by kernel_rfl) ?_ _ _ _ ?_
     rotate_left
     · simp only [strip, splitQ, stripOps, stripOp, hoist, List.filter_cons, List.filter_nil, List.nil_append, List.cons_append, isFree, anyPre, Region.binds, Bool.not_true, Bool.not_false, Bool.false_eq_true, if_true, if_false, Option.isNone_none, Option.isNone_some, Bool.true_and, Bool.false_and, List.map_nil, List.map_cons, List.isEmpty_nil, List.isEmpty_cons, List.append_nil]
       rfl
     simp -implicitDefEqProofs (disch := omega) only [hM1, Int.reduceEq, go_sem, ↓reduceIte, reduceAdd, reduceSub, reduceMul, reduceLeDiff, reduceLT, reduceEqDiff, reduceNeg, Nat.reduceBEq]
     refine hK5 _ _ ?_
     clear hK5
     refine aw_seqK fun K6 hK6 => ?_
     refine awx_ok (rx := false) (th := fun _ => none) mixed _ (ac := ?_) (by kernel_rfl) ?_ _ _ _ ?_
     rotate_left
     · simp only [strip, splitQ, stripOps, stripOp, hoist, List.filter_cons, List.filter_nil, List.nil_append, List.cons_append, isFree, anyPre, Region.binds, Bool.not_true, Bool.not_false, Bool.false_eq_true, if_true, if_false, Option.isNone_none, Option.isNone_some, Bool.true_and, Bool.false_and, List.map_nil, List.map_cons, List.isEmpty_nil, List.isEmpty_cons, List.append_nil]
       rfl
     simp -implicitDefEqProofs (disch := omega) only [go_sem, ↓reduceIte, reduceAdd, reduceSub, reduceMul, reduceLeDiff, reduceLT, reduceEqDiff, reduceNeg, Nat.reduceBEq]
     (repeat' (first | refine gT ?_ ?_ | refine gF ?_ ?_ | refine gC ?_ ?_ | ((refine c_ctrE (ctr353j 1) ?_ ?_; (focus (simp -implicitDefEqProofs (disch := omega) only [avs, avb, avi, avo, sigCells, opCells, pairCells, elT, avt, termCells_eq, go_sem, ↓reduceIte, reduceAdd, reduceSub, reduceMul, reduceLeDiff, reduceLT, reduceEqDiff, reduceNeg, Nat.reduceBEq]; done))); simp -implicitDefEqProofs (disch := omega) only [go_sem, ↓reduceIte, reduceAdd, reduceSub, reduceMul, reduceLeDiff, reduceLT, reduceEqDiff, reduceNeg, Nat.reduceBEq]) | refine And.intro (by omega) ?_ | (intro hr; have hc := hr; (try simp only [zda, zdb, zdc, zdd] at hc); simp -implicitDefEqProofs (disch := omega) only [hr, go_sem, ↓reduceIte, reduceAdd, reduceSub, reduceMul, reduceLeDiff, reduceLT, reduceEqDiff, reduceNeg, Nat.reduceBEq]; (try clear hr))))
     refine hK6 _ _ ?_
     clear hK6
     refine aw_seqK fun K7 hK7 => ?_
     refine aw_seqK fun K8 hK8 => ?_
     refine awx_ok (rx := false) (th := fun _ => none) mixed _ (ac := ?_) (by kernel_rfl) ?_ _ _ _ ?_
     rotate_left
     · simp only [strip, splitQ, stripOps, stripOp, hoist, List.filter_cons, List.filter_nil, List.nil_append, List.cons_append, isFree, anyPre, Region.binds, Bool.not_true, Bool.not_false, Bool.false_eq_true, if_true, if_false, Option.isNone_none, Option.isNone_some, Bool.true_and, Bool.false_and, List.map_nil, List.map_cons, List.isEmpty_nil, List.isEmpty_cons, List.append_nil]
       rfl
     simp -implicitDefEqProofs (disch := omega) only [go_sem, ↓reduceIte, reduceAdd, reduceSub, reduceMul, reduceLeDiff, reduceLT, reduceEqDiff, reduceNeg, Nat.reduceBEq]
     refine hK8 _ _ ?_
     clear hK8
     refine aw_block fun K9 hK9 => ?_
     obtain ⟨D, hD, hD2⟩ : ∃ D : Nat, 59 + M1 = (D : Int) + 1 ∧ D ≤ 60 := ⟨(58 + M1).toNat, by omega, by omega⟩
     refine aw_loopJ (fun (s : Nat × List AObj) => [.k, .k, .k, .k, .k, .k, .k, .k, .k, .k, .k, .k, .k, .k, .k, .k, .k, .k, .k, .k, .k, .k, .k, .k, .k, .k, .k, .k, .k, .k, .k, .k, .k, .k, .k, .v (.i .i64 (s.1 : Nat)), .j, .j, .j, .j, .j, .k, .k, .k, .k, .k, .k, .k, .k, .k, .k, .k, .k, .k, .k, .k]) (fun s => (.box false [.i .i64 7, .i .i64 0, .s [], .s [], .hs (i + 1) 0 k false, .e0] :: (g ++ (.box false [.i .i64 (deepT s.1).kind, .i .i64 (deepT s.1).n, .s (deepT s.1).text, .s (deepT s.1).sort, .sl ((deepT s.1).kids.flatMap termCells) (deepT s.1).kids.length, .sl ((deepT s.1).rest.flatMap termCells) (deepT s.1).rest.length] :: s.2)))) (fun s => s.1 ≤ D) (fun s => D - s.1) ((0, [])) (Nat.zero_le _) rfl (by simp [Fits]) ?_
     rintro ⟨d, jk⟩ j2 hd K hKn hKe
     dsimp only at hd
     refine awx_ok (rx := false) (th := fun _ => none) mixed _ (ac := ?_) (by kernel_rfl) ?_ _ _ _ ?_
     rotate_left
     · simp only [strip, splitQ, stripOps, stripOp, hoist, List.filter_cons, List.filter_nil, List.nil_append, List.cons_append, isFree, anyPre, Region.binds, Bool.not_true, Bool.not_false, Bool.false_eq_true, if_true, if_false, Option.isNone_none, Option.isNone_some, Bool.true_and, Bool.false_and, List.map_nil, List.map_cons, List.isEmpty_nil, List.isEmpty_cons, List.append_nil]
       rfl
     by_cases hlt : d < D
     · have hp : (d : Int) < 59 + M1 - 1 := by omega
       simp -implicitDefEqProofs (disch := omega) only [zt hp, rep1t, go_sem, ↓reduceIte, reduceAdd, reduceSub, reduceMul, reduceLeDiff, reduceLT, reduceEqDiff, reduceNeg, Nat.reduceBEq]
       (repeat' (first | refine gT ?_ ?_ | refine gF ?_ ?_ | refine gC ?_ ?_ | refine And.intro (by omega) ?_ | (intro hr; have hc := hr; (try simp only [zda, zdb, zdc, zdd] at hc); simp -implicitDefEqProofs (disch := omega) only [hr, zt hp, rep1t, go_sem, ↓reduceIte, reduceAdd, reduceSub, reduceMul, reduceLeDiff, reduceLT, reduceEqDiff, reduceNeg, Nat.reduceBEq]; (try clear hr))))
       refine hKn _ _ (Turn.trans (turn_cell (b := g.length + 1) (k := 4) (i := 8) (cells := [.i .i64 7, .i .i64 0, .s [], .s [], .hs (g.length + (jk.length + 1) + 1) 0 1 false, .e0]) (x := .hs (g.length + (jk.length + 1) + 1) 0 1 false) (by simp -implicitDefEqProofs (disch := omega) only [go_sem, ↓reduceIte, reduceAdd, reduceSub, reduceMul, reduceLeDiff, reduceLT, reduceEqDiff, reduceNeg, Nat.reduceBEq]) rfl rfl (by simp -implicitDefEqProofs (disch := omega) only [List.mem_singleton, go_sem, ↓reduceIte, reduceAdd, reduceSub, reduceMul, reduceLeDiff, reduceLT, reduceEqDiff, reduceNeg, Nat.reduceBEq]; omega) ?_))
       simp -implicitDefEqProofs (disch := omega) only [go_sem, ↓reduceIte, reduceAdd, reduceSub, reduceMul, reduceLeDiff, reduceLT, reduceEqDiff, reduceNeg, Nat.reduceBEq]
       refine turn_cell (b := g.length + 1) (k := 5) (i := 8) (cells := [.i .i64 7, .i .i64 0, .s [], .s [], .sl [.i .i64 (deepT d).kind, .i .i64 (deepT d).n, .s (deepT d).text, .s (deepT d).sort, .sl ((deepT d).kids.flatMap termCells) (deepT d).kids.length, .sl ((deepT d).rest.flatMap termCells) (deepT d).rest.length] 1, .e0]) (x := .e0) (by simp -implicitDefEqProofs (disch := omega) only [go_sem, ↓reduceIte, reduceAdd, reduceSub, reduceMul, reduceLeDiff, reduceLT, reduceEqDiff, reduceNeg, Nat.reduceBEq]) rfl rfl (by rw [reach_e0ok rfl]; simp) ?_
       rw [reach_e0ok rfl]
       simp -implicitDefEqProofs (disch := omega) only [go_sem, ↓reduceIte, reduceAdd, reduceSub, reduceMul, reduceLeDiff, reduceLT, reduceEqDiff, reduceNeg, Nat.reduceBEq]
       refine ⟨(d + 1, jk ++ [AObj.arr true 6 [.i .i64 (deepT d).kind, .i .i64 (deepT d).n, .s (deepT d).text, .s (deepT d).sort, .sl ((deepT d).kids.flatMap termCells) (deepT d).kids.length, .sl ((deepT d).rest.flatMap termCells) (deepT d).rest.length]]), hlt, by dsimp only; omega, ?_, ?_⟩
       · dsimp only
         simp [deepT, LTerm.kind, LTerm.n, LTerm.text, LTerm.sort, LTerm.kids, LTerm.rest, termCells_eq, avt]
       · simp [Fits]
     · have hp : ¬ (d : Int) < 59 + M1 - 1 := by omega
       simp -implicitDefEqProofs (disch := omega) only [zf hp, go_sem, ↓reduceIte, reduceAdd, reduceSub, reduceMul, reduceLeDiff, reduceLT, reduceEqDiff, reduceNeg, Nat.reduceBEq]
       refine hKe _ _ _ (hK9 _ _ (hK7 _ _ ?_))
       have hdD : d = D := by omega
       subst hdD
       have c1 : CT 16 [.agg [.i .i64 7, .i .i64 0, .s [], .s [], .sl C k, .sl [] 0]] (.b (decide (1999 + M0 ≤ 2000))) := by
         have c := ctr242 (limT k s0) (lim_ok k s0 h0 h0' (by omega))
         rw [lim_valid k s0 h0 h0', elT, termCells_eq] at c
         have e : decide (k + 1 ≤ 2000) = decide (1999 + M0 ≤ 2000) := decide_eq_decide.2 (by omega)
         rw [e] at c
         have e2 : avt (limT k s0).kids = .sl C k := by rw [avt, ← hC]; simp [limT, LTerm.kids]
         rw [e2] at c
         exact c
       have c2 : CT 16 [elT (deepT d)] (.b (decide (59 + M1 ≤ 60))) := by
         have c := ctr242 (deepT d) (deep_kinds d).1
         rw [deep_valid d (by omega)] at c
         have e : decide (d + 1 ≤ 60) = decide (59 + M1 ≤ 60) := decide_eq_decide.2 (by omega)
         rw [e] at c
         exact c
       refine aw_seqK fun K10 hK10 => ?_
       refine awx_ok (rx := false) (th := fun _ => none) mixed _ (ac := ?_) (by kernel_rfl) ?_ _ _ _ ?_
       rotate_left
       · simp only [strip, splitQ, stripOps, stripOp, hoist, List.filter_cons, List.filter_nil, List.nil_append, List.cons_append, isFree, anyPre, Region.binds, Bool.not_true, Bool.not_false, Bool.false_eq_true, if_true, if_false, Option.isNone_none, Option.isNone_some, Bool.true_and, Bool.false_and, List.map_nil, List.map_cons, List.isEmpty_nil, List.isEmpty_cons, List.append_nil]
         rfl
       have hi3 : (g ++ AObj.box false [.i .i64 (deepT d).kind, .i .i64 (deepT d).n, .s (deepT d).text, .s (deepT d).sort, .sl ((deepT d).kids.flatMap termCells) (deepT d).kids.length, .sl ((deepT d).rest.flatMap termCells) (deepT d).rest.length] :: jk)[i]? = some (.arr false 6 C) := by rw [List.getElem?_append_left (lt_of_some hi)]; exact hi
       have hpC : persL C = true := by rw [← hC]; exact persTs
       have htC : List.take (k * 6) C = C := by rw [← hil, List.take_length]
       simp -implicitDefEqProofs (disch := omega) only [hi3, go_sem, ↓reduceIte, reduceAdd, reduceSub, reduceMul, reduceLeDiff, reduceLT, reduceEqDiff, reduceNeg, Nat.reduceBEq]
       (repeat' (first | refine gT ?_ ?_ | refine gF ?_ ?_ | refine gC ?_ ?_ | ((first | (refine c_ctrE (c1) ?_ ?_; (focus (simp -implicitDefEqProofs (disch := omega) only [hi3, hpC, htC, hil, Nat.le_refl, eq_self, decide_true, avs, avb, avi, avo, sigCells, opCells, pairCells, elT, avt, termCells_eq, go_sem, ↓reduceIte, reduceAdd, reduceSub, reduceMul, reduceLeDiff, reduceLT, reduceEqDiff, reduceNeg, Nat.reduceBEq]; done))) | (refine c_ctrE (c2) ?_ ?_; (focus (simp -implicitDefEqProofs (disch := omega) only [hi3, hpC, htC, hil, Nat.le_refl, eq_self, decide_true, avs, avb, avi, avo, sigCells, opCells, pairCells, elT, avt, termCells_eq, go_sem, ↓reduceIte, reduceAdd, reduceSub, reduceMul, reduceLeDiff, reduceLT, reduceEqDiff, reduceNeg, Nat.reduceBEq]; done))) | (refine c_ctrE (ctr328) ?_ ?_; (focus (simp -implicitDefEqProofs (disch := omega) only [hi3, hpC, htC, hil, Nat.le_refl, eq_self, decide_true, avs, avb, avi, avo, sigCells, opCells, pairCells, elT, avt, termCells_eq, go_sem, ↓reduceIte, reduceAdd, reduceSub, reduceMul, reduceLeDiff, reduceLT, reduceEqDiff, reduceNeg, Nat.reduceBEq]; done)))); simp -implicitDefEqProofs (disch := omega) only [hi3, hpC, htC, hil, Nat.le_refl, eq_self, decide_true, go_sem, ↓reduceIte, reduceAdd, reduceSub, reduceMul, reduceLeDiff, reduceLT, reduceEqDiff, reduceNeg, Nat.reduceBEq]) | refine And.intro (by omega) ?_ | (intro hr; have hc := hr; (try simp only [zda, zdb, zdc, zdd] at hc); simp -implicitDefEqProofs (disch := omega) only [hr, hi3, hpC, htC, hil, Nat.le_refl, eq_self, decide_true, go_sem, ↓reduceIte, reduceAdd, reduceSub, reduceMul, reduceLeDiff, reduceLT, reduceEqDiff, reduceNeg, Nat.reduceBEq]; (try clear hr))))
       refine hK10 _ _ (awx_ok (rx := false) (th := fun _ => none) mixed _ .ret rfl rfl _ _ _ ?_)
       simp -implicitDefEqProofs (disch := omega) only [Tryz.f7, go_sem, ↓reduceIte, reduceAdd, reduceSub, reduceMul, reduceLeDiff, reduceLT, reduceEqDiff, reduceNeg, Nat.reduceBEq]
       exact fin_eq rfl rfl
end Go.Proofs.YtnjnjdebgkjfhaaGreatDoor
namespace Go.Proofs.YtnjnjdebgkjfhaaGreatDoor
open Go Go.Vo
open Nat (reduceAdd reduceSub reduceMul reduceLeDiff reduceLT reduceEqDiff)
open Int (reduceNeg)

theorem one_intJ {t : TypeId} {k : IntKind} {v : Value} {w : World} {base : Nat} (ht : Tryz.prog.underlying t = some (.int k)) (hv : Value.okWide Tryz.prog w .any base t v) : v.cells = #[v] := by
 unfold Value.okWide at hv
 rw [ht] at hv
 simp only [Cell.okWide, ht] at hv
 cases v with
 | agg cs => simp [Cell.ok, ht] at hv
 | _ => rfl
theorem u8_argJ {H : Type} {enc : TypeId × Value → H} {W : World} {base : Nat} {v : Value} {d : DataW H} {p : List MemPlace} (hv : Value.okWide Tryz.prog W .any base 5 v) (hT : DataW.Trod enc Tryz.prog W 0 (fun _ => true) true 5 v d p) (hw : ∀ n ∈ d.weights Tryz.prog 5, n ≤ reachBytes) :
   ∃ n : Int, (0 ≤ n ∧ n ≤ 255) ∧ RV (.none fun b => b < W.heap.size) W [] (.i .u8 n) v := by
 obtain ⟨n, hq, r⟩ := arg_one (X := .none fun b => b < W.heap.size) (h := []) (one_intJ Tryz.underlying5 hv) hT hw (rd_int Tryz.underlying5)
 have q := wf_int hq
 have e1 : IntKind.min .u8 = 0 := by decide +kernel
 have e2 : IntKind.max .u8 = 255 := by decide +kernel
 rw [e1, e2] at q
 exact ⟨n, q, r⟩
def u8VJ : Value := .int .u8 0
def u8DJ {H : Type} : DataW H := .lit (.int .u8 0)
end Go.Proofs.YtnjnjdebgkjfhaaGreatDoor

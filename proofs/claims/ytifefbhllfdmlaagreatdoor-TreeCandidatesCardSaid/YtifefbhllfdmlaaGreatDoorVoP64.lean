/-
  The abstract layer, part Pd: a statement of open order whose last operation comes behind all others: that operation may change what is there. It speaks of any program that mixes its orders; no condition.
-/
import Derived.Test.YtifefbhllfdmlaaGreatDoorVoP63
set_option linter.unusedVariables false
set_option linter.unusedSimpArgs false
set_option linter.constructorNameAsVariable false
namespace Go.Vo
def aFv (pre : Array Oper) (o : Oper) : Bool :=
 ((anyPre o).all fun e => decide (e < pre.size)) &&
 (List.range pre.size).all fun i => (anyPre o).contains i || (List.range pre.size).any fun j => decide (i < j) && match pre[j]? with
   | some p => (anyPre p).contains i
   | Option.none => false
def R0 (pre : Array Oper) : Bool := pre.toList.all fun p => match p.guard with
 | some (j, _) => decide (j < pre.size)
 | Option.none => true
section
variable {P : Program} {pre : Array Oper} {o : Oper} {Q : Exit → Act → World → Prop}
def Cl (pre : Array Oper) (l : Array Bool) : Prop := ∀ i p, pre[i]? = some p → l.getD i false = true → ∀ e ∈ anyPre p, l.getD e false = true
def K8 (P : Program) (pre : Array Oper) (o : Oper) (Q : Exit → Act → World → Prop) : Exit → Act → World → Prop
 | .normal, a, w => wpOp P (pre.push o) Q pre.size (fun a w => Q .normal a w) a w
 | x, a, w => Q x a w
theorem nQ {l : Array Bool} {i : Nat} {d : Bool} (h : i < l.size) : (l.push false).getD i d = l.getD i d := by
 simp [Array.getD, h, Array.getElem_push, Nat.lt_succ_of_lt h]
theorem aJc {l : Array Bool} {d : Bool} : (l.push false).getD l.size d = false := by simp [Array.getD]
theorem H0 {i : Nat} (h : i < pre.size) : (pre.push o)[i]? = pre[i]? := by rw [fV]; rw [if_neg (by omega)]
theorem aJe {l : Array Bool} (hlt : ∀ i p, pre[i]? = some p → ∀ e ∈ anyPre p, e < i) (hl : l.size = pre.size) (hr : Region.ready .any pre l = []) : ∀ i, i < pre.size → l.getD i false = true := by
 intro i
 induction i using Nat.strongRecOn with
 | ind i ih =>
   intro hi
   have ho : pre[i]? = some pre[i] := by simp [hi]
   have hn : i ∉ Region.ready .any pre l := by rw [hr]; simp
   rw [mem_ready] at hn
   have hli : i < l.size := by omega
   cases hc : l[i] with
   | true => simp [Array.getD, hli, hc]
   | false =>
     refine absurd ⟨by simp [Array.getD, hli, hc], pre[i], ho, fun d hd hb => ?_⟩ hn
     have hlt' := hlt i pre[i] ho d.on (kE.2 ⟨d, hd, hb, rfl⟩)
     exact ih d.on hlt' (by omega)
theorem aQw {l : Array Bool} (hL : aFv pre o = true) (hc : Cl pre l) (hd : ∀ e ∈ anyPre o, l.getD e false = true) : ∀ i, i < pre.size → l.getD i false = true := by
 simp only [aFv, aB, aL, gS, bK] at hL
 have key : ∀ k i, pre.size - i ≤ k → i < pre.size → l.getD i false = true := by
   intro k
   induction k with
   | zero => intro i h1 h2; omega
   | succ k ih =>
     intro i h1 h2
     rcases hL.2 i h2 with h | h
     · exact hd i (eK.1 h)
     · rw [mW] at h
       obtain ⟨j, hj, hj2⟩ := h
       rw [gS] at hj
       simp only [aB, decide_eq_true_eq] at hj2
       have hp : pre[j]? = some pre[j] := by simp [hj]
       rw [hp] at hj2
       exact hc j _ hp (ih j (by omega) hj) i (eK.1 hj2.2)
 exact fun i h => key _ i (aZ _) h
theorem B9 {l : Array Bool} {i : Nat} (hlt : ∀ i p, pre[i]? = some p → ∀ e ∈ anyPre p, e < i) (hl : l.size = pre.size) (hi : i < pre.size) : i ∈ Region.ready .any (pre.push o) (l.push false) ↔ i ∈ Region.ready .any pre l := by
 rw [mem_ready, mem_ready, H0 hi, nQ (by omega)]
 have ho : pre[i]? = some pre[i] := by simp [hi]
 rw [ho]
 have h1 : ∀ d ∈ pre[i].after, Region.binds .any d = true → (l.push false).getD d.on false = l.getD d.on false := fun d hd hb => nQ (by have := hlt i _ ho d.on (kE.2 ⟨d, hd, hb, rfl⟩); omega)
 constructor
 · rintro ⟨a, p, hp, hall⟩; cases hp; exact ⟨a, _, rfl, fun d hd hb => (h1 d hd hb).symm.trans (hall d hd hb)⟩
 · rintro ⟨a, p, hp, hall⟩; cases hp; exact ⟨a, _, rfl, fun d hd hb => (h1 d hd hb).trans (hall d hd hb)⟩
theorem aTm {ops : Array Oper} {l : Array Bool} (hl : ∀ i, i < ops.size → l.getD i true = true) {a : Act} {w : World} (q : Q .normal a w) : ∀ fuel, wpAny P .any ops Q fuel l a w := by
 have hr : Region.ready .any ops l = [] := by
   rw [rC]
   intro i hi
   obtain ⟨h1, p, hp, _⟩ := mem_ready.1 hi
   have := hl i (aR.1 hp).1
   rw [h1] at this; cases this
 intro fuel
 cases fuel with
 | zero => exact ⟨hr, q⟩
 | succ f => exact ⟨fun _ => q, fun i hi => by rw [hr] at hi; cases hi⟩
theorem W2 (hg : R0 pre = true) {i : Nat} {p : Oper} (hp : pre[i]? = some p) (ts : Array Value) : Region.wanted p (yielded (pre.push o) ts) = Region.wanted p (yielded pre ts) := by
 simp only [R0, aL] at hg
 have := hg p (Array.mem_toList_iff.2 (aAw hp))
 unfold Region.wanted
 cases hq : p.guard with
 | none => rfl
 | some q =>
   obtain ⟨j, b⟩ := q
   rw [hq] at this
   simp only [decide_eq_true_eq] at this
   simp only [yielded, H0 this]
theorem aEl {o : Oper} {a : Act} {w : World} {K : Act → World → Prop} {Q Q' : Exit → Act → World → Prop} (hQ : ∀ x a w, x ≠ .normal → Q x a w → Q' x a w) (hL : LetsOut Q → LetsOut Q') (h : o.wp P a w K Q) : o.wp P a w K Q' := by
 unfold Oper.wp at *
 generalize (execOp a.eval o).run P w = r at *
 cases r with
 | ok n w' =>
   cases n <;> simp only [Oper.upon] at h ⊢ <;> first
     | exact h
     | exact Calls.mono h (fun e w'' he => by cases e <;> first | exact he | exact hQ _ _ _ (by simp) he | exact hL he)
 | halt x w' => cases x <;> simp only [Oper.upon] at h ⊢ <;> first | exact h | exact hQ _ _ _ (by simp) h
theorem aNk (hlt : ∀ i p, pre[i]? = some p → ∀ e ∈ anyPre p, e < i) (hL : aFv pre o = true) (hg : R0 pre = true) :
   ∀ (fuel : Nat) (l : Array Bool), l.size = pre.size → Cl pre l → ∀ (a : Act) (w : World), wpAny P .any pre (K8 P pre o Q) fuel l a w → wpAny P .any (pre.push o) Q (fuel + 1) (l.push false) a w := by
 have hn : (pre.push o)[pre.size]? = some o := by simp
 have hdl : ∀ e ∈ anyPre o, e < pre.size := by
   simp only [aFv, aB, aL, decide_eq_true_eq] at hL
   exact hL.1
 have fin : ∀ (fuel : Nat) (l : Array Bool), l.size = pre.size → (∀ i, i < pre.size → l.getD i false = true) → ∀ (a : Act) (w : World), K8 P pre o Q .normal a w → wpAny P .any (pre.push o) Q (fuel + 1) (l.push false) a w := by
   intro fuel l hl hall a w hB
   have hmem : pre.size ∈ Region.ready .any (pre.push o) (l.push false) := by
     rw [mem_ready]
     refine ⟨by rw [← hl]; exact aJc, o, hn, fun d hd hb => ?_⟩
     have := hdl d.on (kE.2 ⟨d, hd, hb, rfl⟩)
     rw [nQ (by omega)]
     exact hall _ this
   refine ⟨fun hr => (by rw [hr] at hmem; cases hmem), fun i hi => ?_⟩
   have hlt2 : i < pre.size + 1 := by
     obtain ⟨_, p, hp, _⟩ := mem_ready.1 hi
     have := (aR.1 hp).1
     simpa using this
   by_cases hin : i < pre.size
   · have h1 := (mem_ready.1 hi).1
     rw [nQ (by omega)] at h1
     have h2 := hall i hin
     have hli : i < l.size := by omega
     simp [Array.getD, hli] at h1 h2
     rw [h1] at h2; cases h2
   · obtain rfl : i = pre.size := by omega
     refine wpOp_mono (fun a w q => aTm (fun k hk => ?_) q fuel) hB
     rw [Array.size_push] at hk
     by_cases hk2 : k < pre.size
     · have h2 := hall k hk2
       have hkl : k < l.size := by omega
       have : ((l.push false).setIfInBounds pre.size true).getD k true = l.getD k false := by
         rw [getD_set_ne true (by omega), nQ hkl]
         simp [Array.getD, hkl]
       rw [this]; exact h2
     · obtain rfl : k = pre.size := by omega
       rw [← hl]; simp [Array.getD]
 intro fuel
 induction fuel with
 | zero =>
   intro l hl hc a w h
   exact fin 0 l hl (aJe hlt hl h.1) a w h.2
 | succ fuel ih =>
   intro l hl hc a w h
   by_cases hr : Region.ready .any pre l = []
   · exact fin (fuel + 1) l hl (aJe hlt hl hr) a w (h.1 hr)
   · refine ⟨fun hr' => ?_, fun i hi => ?_⟩
     · obtain ⟨k, hk⟩ := List.exists_mem_of_ne_nil _ hr
       have hkl : k < pre.size := by obtain ⟨_, p, hp, _⟩ := mem_ready.1 hk; exact (aR.1 hp).1
       have := (B9 (o := o) hlt hl hkl).2 hk
       rw [hr'] at this; cases this
     · have hlt2 : i < pre.size + 1 := by
         obtain ⟨_, p, hp, _⟩ := mem_ready.1 hi
         have := (aR.1 hp).1
         simpa using this
       by_cases hin : i < pre.size
       · have hi' := (B9 hlt hl hin).1 hi
         have h2 := h.2 i hi'
         have hp : pre[i]? = some pre[i] := by simp [hin]
         have hli : i < l.size := by omega
         have hset : (l.push false).setIfInBounds i true = (l.setIfInBounds i true).push false := by
           apply Array.ext
           · simp
           · intro k h1 h2
             have q1 := cJ (xs := l.push false) (i := i) (j := k) (a := true)
             rw [bU h1] at q1
             have q2 := fV (xs := l.setIfInBounds i true) (x := false) (i := k)
             rw [bU h2] at q2
             apply dW
             rw [q1, q2, cJ, fV]
             simp only [Array.size_push, Array.size_setIfInBounds]
             by_cases hik : i = k
             · subst hik; rw [if_pos rfl, if_pos (by omega), if_neg (by omega), if_pos rfl, if_pos hli]
             · rw [if_neg hik]
               by_cases hkl : k = l.size
               · rw [if_pos hkl, if_pos hkl]
               · rw [if_neg hkl, if_neg hkl, if_neg hik]
         have K : ∀ a w, wpAny P .any pre (K8 P pre o Q) fuel (l.setIfInBounds i true) a w → wpAny P .any (pre.push o) Q (fuel + 1) ((l.push false).setIfInBounds i true) a w := fun a w q => by
           rw [hset]
           refine ih _ (by simp [hl]) ?_ a w q
           intro k p hp' hk e he
           by_cases hik : i = k
           · subst hik
             obtain ⟨_, p2, hp2, hall⟩ := mem_ready.1 hi'
             rw [hp'] at hp2; cases hp2
             obtain ⟨d, hd1, hd2, rfl⟩ := kE.1 he
             have := hlt _ _ hp' d.on he
             rw [getD_set_ne false (by omega)]
             exact hall d hd1 hd2
           · rw [getD_set_ne false hik] at hk
             have := hc k p hp' hk e he
             by_cases hie : i = e
             · subst hie; simp [Array.getD, hli]
             · rw [getD_set_ne false hie]; exact this
         unfold wpOp at h2 ⊢
         rw [H0 hin, hp]
         rw [hp] at h2
         dsimp only at h2 ⊢
         rw [W2 hg hp]
         by_cases hw : Region.wanted pre[i] (yielded pre a.tmps) = true
         · rw [if_pos hw] at h2 ⊢
           have up : LetsOut (K8 P pre o Q) → LetsOut Q := fun ⟨a, w, q⟩ => ⟨a, w, q⟩
           rcases h2 with h2 | ⟨h2, h3⟩
           · exact .inl (aEl (fun x a w hx q => by cases x <;> first | exact absurd rfl hx | exact q) up (Oper.wp_mono K h2))
           · exact .inr ⟨h2, up h3⟩
         · rw [if_neg hw] at h2 ⊢
           exact K _ _ h2
       · obtain rfl : i = pre.size := by omega
         exfalso
         apply hr
         have hall := aQw hL hc (fun e he => by
           obtain ⟨_, p, hp, hd⟩ := mem_ready.1 hi
           rw [hn] at hp; cases hp
           obtain ⟨d, hd1, hd2, rfl⟩ := kE.1 he
           have := hd d hd1 hd2
           rwa [nQ (by have := hdl _ he; omega)] at this)
         rw [rC]
         intro k hk
         obtain ⟨h1, p, hp, _⟩ := mem_ready.1 hk
         have hkl := (aR.1 hp).1
         have h2 := hall k hkl
         have hkl' : k < l.size := by omega
         simp [Array.getD, hkl'] at h1 h2
         rw [h1] at h2; cases h2
end
section
variable {P : Program} {G : eX} {N : DR} {rx : RX} {pre : Array Oper} {o : Oper}
theorem aLo (hm : P.follows .mixedOrders = true) {id : Nat} (hd : D7 rx pre = true) (hL : aFv pre o = true) (hg : R0 pre = true) {al : List fN} {ao : fN} (hl : dX rx pre (rQ pre) = some al) (ho : jH .off (pre.push o) o = some ao)
   {K : List AV → List AObj → Prop} {env : List AV} {h : List AObj} {X : Ctx} {w : World} {a : Act} {Q : Exit → Act → World → Prop}
   (e : dA P G (some N) al (fun env h => dA P G Option.none [ao] K env h) env h) (g : GH G X w h) (r : EnvOK X w h env a) (hQ : ∀ a' w', V7 G X w h K a' w' → Q .normal a' w') : (Code.region id (pre.push o) true).wp P Q a w := by
 have D := aVj hd
 refine wp_region_any hm ?_
 have e1 : (pre.push o).size = pre.size + 1 := by simp
 have e2 : Array.replicate (pre.size + 1) false = (Array.replicate pre.size false).push false := by
   apply Array.ext
   · simp
   · intro k h1 h2; simp [Array.getElem_push]
 rw [e1, e2]
 refine aNk (fun i p hp => D.lt i p hp) hL hg _ _ (by simp) ?_ a _ (aCy hd hl e g r ?_)
 · intro i p hp hi
   exfalso
   have := (aR.1 hp).1
   simp [Array.getD, this] at hi
 · rintro a' w' ⟨env', h', X', k1, k2, k3, k4⟩
   have hlst : dX .off (pre.push o) [o] = some [ao] := by simp only [dX, ho]
   have wl := J0 (ops := pre.push o) (Q := Q) [o] [ao] hlst env' h' X' w' a' k1 k2 k3 (fun a2 w2 ⟨env2, h2, X2, m1, m2, m3, m4⟩ => hQ a2 w2 ⟨env2, h2, X2, m1, m2, m3, k4.trans m4⟩)
   have hn : (pre.push o)[pre.size]? = some o := by simp
   show wpOp P (pre.push o) Q pre.size (fun a w => Q .normal a w) a' w'
   unfold wpOp
   rw [hn]
   exact wl
end

def sN : Option TH → Bool
 | some t => t.split
 | Option.none => false
def sO : List Oper → Option (List Oper × Oper)
 | [] => Option.none
 | [o] => some ([], o)
 | a :: b :: l => match sO (b :: l) with
   | some (p, o) => some (a :: p, o)
   | Option.none => Option.none
theorem N5 : ∀ {l p : List Oper} {o : Oper}, sO l = some (p, o) → l = p ++ [o]
 | [], _, _, h => by cases h
 | [a], p, o, h => by cases h; rfl
 | a :: b :: l, p, o, h => by
   rw [sO] at h
   cases hs : sO (b :: l) with
   | none => rw [hs] at h; cases h
   | some q =>
     rw [hs] at h
     cases h
     rw [N5 hs]; rfl
def aUw (rx : RX) (ops : Array Oper) : Bool := match sO ops.toList with
 | some (p, o) => D7 rx p.toArray && (aFv p.toArray o && R0 p.toArray)
 | Option.none => false
def strip (rx : Bool) (th : Nat → Option TH) : Code → Option kG
 | .skip => some .skip
 | .region id ops true => match sN (th id) with
   | true => match sO ops.toList with
     | some (p, o) => match dX (aIk rx (th id)) p.toArray (rQ p.toArray), jH .off ops o with
       | some l, some a => some (.seq (.draw (th id) l) (.region [a]))
       | _, _ => Option.none
     | Option.none => Option.none
   | false => match dX (aIk rx (th id)) ops (rQ ops) with
     | some l => some (.draw (th id) l)
     | Option.none => Option.none
 | .region _ ops false => match dX .off ops ops.toList with
   | some l => some (.region l)
   | Option.none => Option.none
 | .seq a b => match strip rx th a, strip rx th b with
   | some x, some y => some (.seq x y)
   | _, _ => Option.none
 | .cond c a b => match strip rx th a, strip rx th b with
   | some x, some y => some (.cond c x y)
   | _, _ => Option.none
 | .block id c => match strip rx th c with
   | some x => some (.block id x)
   | Option.none => Option.none
 | .loop c => match strip rx th c with
   | some x => some (.loop x)
   | Option.none => Option.none
 | .exit id => some (.exit id)
 | .ret => some .ret
 | _ => Option.none

def iD (rx : Bool) (th : Nat → Option TH) : Code → Bool
 | .region id ops true => match sN (th id) with
   | true => aUw (aIk rx (th id)) ops
   | false => D7 (aIk rx (th id)) ops
 | .seq a b | .cond _ a b => iD rx th a && iD rx th b
 | .block _ c | .loop c => iD rx th c
 | _ => true

section
variable {P : Program} {G : eX} {rx : Bool} {th : Nat → Option TH}

theorem aEg {c : Code} {S : Type} (I : S → Act → World → Prop) (μ : S → Nat) {Q : Exit → Act → World → Prop} (s0 : S) {a : Act} {w : World} (h₀ : I s0 a w)
   (round : ∀ s a w, I s a w → c.wp P (Exit.then (fun a' w' => ∃ s', I s' a' w' ∧ μ s' < μ s) Q) a w) : (Code.loop c).wp P Q a w := by
 intro b k cs
 have key : ∀ n s a w, μ s = n → I s a w →
     ∃ e a' w', Q e a' w' ∧ Arrives P (lone (b.at a (.code c :: .inLoop c :: k)) cs w) b k cs e a' w' := by
   intro n
   induction n using Nat.strongRecOn with
   | _ n ih =>
     intro s a w hn hI
     obtain ⟨e, a₁, w₁, hq, harr⟩ := round s a w hI b (.inLoop c :: k) cs
     cases e with
     | normal =>
       obtain ⟨s', hI₁, hlt⟩ := hq
       obtain ⟨e₂, a₂, w₂, hq₂, harr₂⟩ := ih (μ s') (hn ▸ hlt) s' a₁ w₁ rfl hI₁
       exact ⟨e₂, a₂, w₂, hq₂, .of_steps (Steps.trans harr (.one step_inLoop)) harr₂⟩
     | exit id => exact ⟨_, a₁, w₁, hq, .pass (x := .inLoop c) rfl (fun _ _ => .inl (by simp)) harr⟩
     | goto l => exact ⟨_, a₁, w₁, hq, .pass (x := .inLoop c) rfl (fun _ _ => .inl (by simp)) harr⟩
     | ret => exact ⟨_, a₁, w₁, hq, .pass (x := .inLoop c) rfl (fun _ _ => .inl (by simp)) harr⟩
     | panic ch => exact ⟨_, a₁, w₁, hq, .pass (x := .inLoop c) rfl (fun _ _ => .inl (by simp)) harr⟩
     | outgrown => exact ⟨_, a₁, w₁, hq, .pass (x := .inLoop c) rfl (fun _ _ => .inl (by simp)) harr⟩
 obtain ⟨e, a', w', hq, harr⟩ := key _ s0 a w rfl h₀
 exact ⟨e, a', w', hq, .of_steps (.one step_loop) harr⟩

theorem V7.trans {X X1 : Ctx} {w w1 : World} {h h1 : List AObj} {K : List AV → List AObj → Prop} {a' : Act} {w' : World} (t : Tr X w h X1 w1 h1) (k : V7 G X1 w1 h1 K a' w') : V7 G X w h K a' w' := by
 obtain ⟨env', h', X', k1, k2, k3, k4⟩ := k
 exact ⟨env', h', X', k1, k2, k3, t.trans k4⟩

theorem rI (hm : P.follows .mixedOrders = true) : ∀ (c : Code) (ac : kG), iD rx th c = true → strip rx th c = some ac → ∀ (Q : Exit → List AV → List AObj → Prop) (env : List AV) (h : List AObj), awx P G ac Q env h → AW P G c Q env h
 | .skip, ac, hd, hs, Q, env, h, e => by
   simp only [strip, aA] at hs; subst hs
   intro X w a g r
   exact wp_skip ⟨env, h, X, e, g, r, .refl _ _ _⟩
 | .region id ops false, ac, hd, hs, Q, env, h, e => by
   simp only [strip] at hs
   cases hl : dX .off ops ops.toList with
   | none => simp [hl] at hs
   | some al =>
     simp only [hl, aA] at hs
     subst hs
     intro X w a g r
     exact wp_region_list (J0 ops.toList al hl env h X w a e g r (fun a' w' k => k))
 | .region id ops true, ac, hd, hs, Q, env, h, e => by
   simp only [strip] at hs
   simp only [iD] at hd
   cases hq : sN (th id) with
   | true =>
     rw [hq] at hs hd
     simp only [aUw] at hs hd
     cases hb : sO ops.toList with
     | none => simp [hb] at hs
     | some q =>
       obtain ⟨p, o⟩ := q
       rw [hb] at hs hd
       simp only [aB] at hs hd
       have hops : ops = p.toArray.push o := by
         apply Array.ext'
         rw [N5 hb]; simp
       split at hs
       · rename_i l a' h2 h3
         simp only [aA] at hs
         subst hs
         intro X w a g r
         rw [hops]
         exact aLo hm hd.1 hd.2.1 hd.2.2 h2 (hops ▸ h3) e g r (fun a' w' k => k)
       · cases hs
   | false =>
   rw [hq] at hs hd
   simp only at hs hd
   cases hl : dX (aIk rx (th id)) ops (rQ ops) with
   | none => simp [hl] at hs
   | some al =>
     simp only [hl, aA] at hs
     subst hs
     intro X w a g r
     exact bAt hm hd hl e g r (fun a' w' k => k)
 | .seq x y, ac, hd, hs, Q, env, h, e => by
   simp only [iD, aB] at hd
   simp only [strip] at hs
   cases hx : strip rx th x with
   | none => simp [hx] at hs
   | some ax =>
   cases hy : strip rx th y with
   | none => simp [hx, hy] at hs
   | some ay =>
     simp only [hx, hy, aA] at hs
     subst hs
     intro X w a g r
     refine wp_seq (wp_mono (rI hm x ax hd.1 hx _ env h e X w a g r) ?_)
     intro e' a' w' k
     cases e' with
     | normal =>
       obtain ⟨env', h', X', k1, k2, k3, k4⟩ := k
       exact wp_mono (rI hm y ay hd.2 hy _ env' h' k1 X' w' a' k2 k3) (fun e2 a2 w2 k5 => k5.trans k4)
     | _ => exact k
 | .cond c x y, ac, hd, hs, Q, env, h, e => by
   simp only [iD, aB] at hd
   simp only [strip] at hs
   cases hx : strip rx th x with
   | none => simp [hx] at hs
   | some ax =>
   cases hy : strip rx th y with
   | none => simp [hx, hy] at hs
   | some ay =>
     simp only [hx, hy, aA] at hs
     subst hs
     intro X w a g r
     have rc := gB g r c
     simp only [awx] at e
     cases hc : aev G env c with
     | b t =>
       rw [hc] at e rc
       have hv := aAj rc
       cases t with
       | true => exact wp_cond_true hv (rI hm x ax hd.1 hx _ env h (e.1 rfl) X w a g r)
       | false => exact wp_cond_false hv (rI hm y ay hd.2 hy _ env h (e.2 rfl) X w a g r)
     | _ => rw [hc] at e; exact e.elim
 | .block id c, ac, hd, hs, Q, env, h, e => by
   simp only [iD] at hd
   simp only [strip] at hs
   cases hx : strip rx th c with
   | none => simp [hx] at hs
   | some ax =>
     simp only [hx, aA] at hs
     subst hs
     intro X w a g r
     refine wp_block (wp_mono (rI hm c ax hd hx _ env h e X w a g r) ?_)
     intro e' a' w' k
     cases e' with
     | exit i =>
       simp only [Exit.inBlock]
       obtain ⟨env', h', X', k1, k2, k3, k4⟩ := k
       simp only [yZ] at k1
       split
       · rename_i hi; rw [if_pos hi] at k1; exact ⟨env', h', X', k1, k2, k3, k4⟩
       · rename_i hi; rw [if_neg hi] at k1; exact ⟨env', h', X', k1, k2, k3, k4⟩
     | _ => exact k
 | .loop c, ac, hd, hs, Q, env, h, e => by
   simp only [iD] at hd
   simp only [strip] at hs
   cases hx : strip rx th c with
   | none => simp [hx] at hs
   | some ax =>
     simp only [hx, aA] at hs
     subst hs
     intro X w a g r
     simp only [awx, Loop] at e
     obtain ⟨S, I, μ, s0, h0, hround⟩ := e
     refine aEg (S := S × List AV × List AObj × Ctx) (fun s a' w' => I s.1 s.2.1 s.2.2.1 ∧ GH G s.2.2.2 w' s.2.2.1 ∧ EnvOK s.2.2.2 w' s.2.2.1 s.2.1 a' ∧ Tr X w h s.2.2.2 w' s.2.2.1) (fun s => μ s.1) (s0, env, h, X) ⟨h0, g, r, .refl _ _ _⟩ ?_
     rintro ⟨s1, env1, h1, X1⟩ a1 w1 ⟨i1, g1, r1, t1⟩
     refine wp_mono (rI hm c ax hd hx _ env1 h1 (hround s1 env1 h1 i1) X1 w1 a1 g1 r1) ?_
     intro e' a' w' k
     cases e' with
     | normal =>
       obtain ⟨env', h', X', ⟨s', k1, k1'⟩, k2, k3, k4⟩ := k
       exact ⟨(s', env', h', X'), ⟨k1, k2, k3, t1.trans k4⟩, k1'⟩
     | _ => exact k.trans t1
 | .exit id, ac, hd, hs, Q, env, h, e => by
   simp only [strip, aA] at hs; subst hs
   intro X w a g r
   exact wp_exit ⟨env, h, X, e, g, r, .refl _ _ _⟩
 | .ret, ac, hd, hs, Q, env, h, e => by
   simp only [strip, aA] at hs; subst hs
   intro X w a g r
   exact wp_ret ⟨env, h, X, e, g, r, .refl _ _ _⟩
 | .rangeFunc _ _ _ _, ac, hd, hs, Q, env, h, e => by simp [strip] at hs
 | .scope _, ac, hd, hs, Q, env, h, e => by simp [strip] at hs
 | .label _, ac, hd, hs, Q, env, h, e => by simp [strip] at hs
 | .goto _, ac, hd, hs, Q, env, h, e => by simp [strip] at hs
 | .refuse _, ac, hd, hs, Q, env, h, e => by simp [strip] at hs
end

mutual
def bS : AV → AV → List Nat
 | .hs id _ _ _, .own .. => [id]
 | .agg xs, .agg rs => finIdsL xs rs
 | .tup xs, .tup rs => finIdsL xs rs
 | _, _ => []
def finIdsL : List AV → List AV → List Nat
 | x :: xs, r :: rs => bS x r ++ finIdsL xs rs
 | _, _ => []
end
mutual
def iA (h : List AObj) : AV → AV → List Nat
 | .hs _ _ _ _, .own .. => []
 | .e0, .own .. => []
 | .agg xs, .agg rs => finRchL h xs rs
 | .tup xs, .tup rs => finRchL h xs rs
 | x, _ => dL dep h x
def finRchL (h : List AObj) : List AV → List AV → List Nat
 | x :: xs, r :: rs => iA h x r ++ finRchL h xs rs
 | _, _ => []
end
mutual
def mH (h : List AObj) : AV → AV → Prop
 | .hs id off n t, .own sz cells m => t = false ∧ m = n ∧ ∃ cs, h[id]? = some (.arr false sz cs) ∧ off + n * sz ≤ cs.length ∧ cells = (cs.drop off).take (n * sz) ∧ persL cells = true
 | .e0, .own sz cells m => cells = [] ∧ m = 0
 | .agg xs, .agg rs => finOKL h xs rs
 | .tup xs, .tup rs => finOKL h xs rs
 | x, r => r = gG dep h x
def finOKL (h : List AObj) : List AV → List AV → Prop
 | [], [] => True
 | x :: xs, r :: rs => mH h x r ∧ finOKL h xs rs
 | _, _ => False
end

def Fin (h : List AObj) (x r : AV) : Prop := (r = x ∧ pers x = true) ∨ (mH h x r ∧ (bS x r).Nodup ∧ ∀ i ∈ bS x r, i ∉ iA h x r)

def FB (X : Ctx) (ids : List Nat) (b : Nat) : Prop := X.F b ∨ ∃ id o, id ∉ ids ∧ X.ι id = some (b, o)

section
variable {P : Program} {G : eX} {X : Ctx} {w : World} {h : List AObj}

def L3 (X : Ctx) (ids : List Nat) : List Nat := ids.filterMap fun i => (X.ι i).map (·.1)
theorem aAk (X : Ctx) (a b : List Nat) : L3 X (a ++ b) = L3 X a ++ L3 X b := by simp [L3]
theorem aDp {X : Ctx} {ids : List Nat} {b : Nat} (hb : b ∈ L3 X ids) : ∃ id ∈ ids, ∃ o, X.ι id = some (b, o) := by
 simp only [L3, List.mem_filterMap, bE] at hb
 obtain ⟨id, hi, ⟨c, o⟩, hc, rfl⟩ := hb
 exact ⟨id, hi, o, hc⟩
theorem D9 (g : GH G X w h) : ∀ {ids : List Nat}, ids.Nodup → (L3 X ids).Nodup
 | [], _ => by simp [L3]
 | id :: ids, hn => by
   rw [gZ] at hn
   have ih := D9 g hn.2
   simp only [L3, jQ]
   cases hb : X.ι id with
   | none => simp only [Option.map_none]; exact ih
   | some bo =>
     obtain ⟨b, o⟩ := bo
     simp only [hb, cK]
     rw [gZ]
     refine ⟨fun hm => ?_, ih⟩
     obtain ⟨id', hi', o', ho'⟩ := aDp (X := X) (ids := ids) hm
     exact hn.1 (g.inj _ _ _ _ _ hb ho' ▸ hi')

theorem gK (g : GH G X w h) (ids : List Nat) {x : AV} {v : Value} (r : RV X w h x v) (hd : ∀ i ∈ ids, i ∉ dL dep h x) : RR (FB X ids) w (gG dep h x) v [] := by
 refine RR.val ((E9 g dep x v r).monoF ?_)
 rintro b (hb | ⟨id, hi, o, ho⟩)
 · exact .inl hb
 · exact .inr ⟨id, o, fun hm => hd id hm hi, ho⟩

mutual
theorem aVg (g : GH G X w h) (ids : List Nat) : ∀ (x r : AV) (v : Value), mH h x r → RV X w h x v → (∀ i ∈ ids, i ∉ iA h x r) → RR (FB X ids) w r v (L3 X (bS x r))
 | .hs id off n t, r, v, e, rv, hd => by
   have gen : mH h (.hs id off n t) r = (r = gG dep h (.hs id off n t)) → bS (.hs id off n t) r = [] → iA h (.hs id off n t) r = dL dep h (.hs id off n t) → RR (FB X ids) w r v (L3 X (bS (.hs id off n t) r)) := by
     intro e1 e2 e3
     rw [e1] at e
     rw [e2, e]
     rw [e3] at hd
     exact gK g ids rv hd
   cases r with
   | own sz cells m =>
     clear gen
     simp only [mH] at e
     obtain ⟨rfl, rfl, cs, hid, hle, rfl, hp⟩ := e
     simp only [bS, RR]
     cases rv with
     | dead hr hd' _ => simp [AV.refs] at hr; subst hr; rw [hid] at hd'; cases hd'
     | hs0 hid' hf ho => exact .inr ⟨by simp, rfl, _, rfl⟩
     | @hs _ _ _ _ fz' s' cells' b o cap T N hid' hι hsh hn hcc hN htt hff =>
       rw [hid] at hid'; cases hid'
       have ok := g.objs _ _ hid
       cases ok with
       | absent h0 => rw [h0] at hι; cases hι
       | @arr _ _ _ b' o' cur T' fr h0 hb hf1 hf2 hl h1 hr =>
       rw [h0] at hι; cases hι
       obtain ⟨hF, rfl⟩ := hf2 rfl
       have hNs : N = cur.size := by simp [World.shape?, hb] at hsh; exact hsh.2.symm
       subst hNs
       refine .inl ⟨b, o + off, cur, T', cap, by simp [L3, h0], rfl, hb, by simp; omega, hcc, hN, ?_, ?_⟩
       · intro j u hj hu
         simp at hj
         exact h1 (off + j) u (by omega) (by rw [← dB]; exact hu)
       · intro j y u hy hu
         have hy' := hy
         rw [dR] at hy
         split at hy
         · rw [dE] at hy
           exact (hr (off + j) y u hy (by rw [← dB]; exact hu)).pers (gV hp j y hy') (fun b hb => .inl hb) (fun _ _ => rfl)
         · cases hy
   | _ => exact gen rfl rfl rfl
 | .e0, r, v, e, rv, hd => by
   have gen : mH h .e0 r = (r = gG dep h .e0) → bS .e0 r = [] → iA h .e0 r = dL dep h .e0 → RR (FB X ids) w r v (L3 X (bS .e0 r)) := by
     intro e1 e2 e3
     rw [e1] at e
     rw [e2, e]
     rw [e3] at hd
     exact gK g ids rv hd
   cases r with
   | own sz cells m =>
     clear gen
     simp only [mH] at e
     obtain ⟨rfl, rfl⟩ := e
     simp only [bS, RR]
     cases rv with
     | e0 a => exact .inr ⟨trivial, trivial, a, rfl⟩
     | dead hr _ _ => simp [AV.refs] at hr
   | _ => exact gen rfl rfl rfl
 | .agg xs, r, v, e, rv, hd => by
   have gen : mH h (.agg xs) r = (r = gG dep h (.agg xs)) → bS (.agg xs) r = [] → iA h (.agg xs) r = dL dep h (.agg xs) → RR (FB X ids) w r v (L3 X (bS (.agg xs) r)) := by
     intro e1 e2 e3
     rw [e1] at e
     rw [e2, e]
     rw [e3] at hd
     exact gK g ids rv hd
   cases r with
   | agg rs =>
     clear gen
     simp only [mH] at e
     simp only [bS]
     cases rv with
     | @agg _ vs hl h1 hr => exact ⟨vs, rfl, h1, finL_ok g ids xs rs vs.toList e (by simpa using hl) (fun j a v ha hv => hr j a v ha (by simpa using hv)) hd⟩
     | dead hr _ _ => simp [AV.refs] at hr
   | _ => exact gen rfl rfl rfl
 | .tup xs, r, v, e, rv, hd => by
   have gen : mH h (.tup xs) r = (r = gG dep h (.tup xs)) → bS (.tup xs) r = [] → iA h (.tup xs) r = dL dep h (.tup xs) → RR (FB X ids) w r v (L3 X (bS (.tup xs) r)) := by
     intro e1 e2 e3
     rw [e1] at e
     rw [e2, e]
     rw [e3] at hd
     exact gK g ids rv hd
   cases r with
   | tup rs =>
     clear gen
     simp only [mH] at e
     simp only [bS]
     cases rv with
     | @tup _ vs hl hr => exact ⟨vs, rfl, finL_ok g ids xs rs vs.toList e (by simpa using hl) (fun j a v ha hv => hr j a v ha (by simpa using hv)) hd⟩
     | dead hr _ _ => simp [AV.refs] at hr
   | _ => exact gen rfl rfl rfl
 | .u, r, v, e, rv, hd => by
   have e' : r = gG dep h (.u) := by cases r <;> exact e
   have e2 : bS (.u) r = [] := by cases r <;> rfl
   have e3 : iA h (.u) r = dL dep h (.u) := by cases r <;> rfl
   rw [e2, e']
   rw [e3] at hd
   exact gK g ids rv hd
 | .b x, r, v, e, rv, hd => by
   have e' : r = gG dep h (.b x) := by cases r <;> exact e
   have e2 : bS (.b x) r = [] := by cases r <;> rfl
   have e3 : iA h (.b x) r = dL dep h (.b x) := by cases r <;> rfl
   rw [e2, e']
   rw [e3] at hd
   exact gK g ids rv hd
 | .i k n, r, v, e, rv, hd => by
   have e' : r = gG dep h (.i k n) := by cases r <;> exact e
   have e2 : bS (.i k n) r = [] := by cases r <;> rfl
   have e3 : iA h (.i k n) r = dL dep h (.i k n) := by cases r <;> rfl
   rw [e2, e']
   rw [e3] at hd
   exact gK g ids rv hd
 | .s l, r, v, e, rv, hd => by
   have e' : r = gG dep h (.s l) := by cases r <;> exact e
   have e2 : bS (.s l) r = [] := by cases r <;> rfl
   have e3 : iA h (.s l) r = dL dep h (.s l) := by cases r <;> rfl
   rw [e2, e']
   rw [e3] at hd
   exact gK g ids rv hd
 | .p v', r, v, e, rv, hd => by
   have e' : r = gG dep h (.p v') := by cases r <;> exact e
   have e2 : bS (.p v') r = [] := by cases r <;> rfl
   have e3 : iA h (.p v') r = dL dep h (.p v') := by cases r <;> rfl
   rw [e2, e']
   rw [e3] at hd
   exact gK g ids rv hd
 | .sl cells n, r, v, e, rv, hd => by
   have e' : r = gG dep h (.sl cells n) := by cases r <;> exact e
   have e2 : bS (.sl cells n) r = [] := by cases r <;> rfl
   have e3 : iA h (.sl cells n) r = dL dep h (.sl cells n) := by cases r <;> rfl
   rw [e2, e']
   rw [e3] at hd
   exact gK g ids rv hd
 | .own sz cells n, r, v, e, rv, hd => by
   have e' : r = gG dep h (.own sz cells n) := by cases r <;> exact e
   have e2 : bS (.own sz cells n) r = [] := by cases r <;> rfl
   have e3 : iA h (.own sz cells n) r = dL dep h (.own sz cells n) := by cases r <;> rfl
   rw [e2, e']
   rw [e3] at hd
   exact gK g ids rv hd
 | .ptr id off, r, v, e, rv, hd => by
   have e' : r = gG dep h (.ptr id off) := by cases r <;> exact e
   have e2 : bS (.ptr id off) r = [] := by cases r <;> rfl
   have e3 : iA h (.ptr id off) r = dL dep h (.ptr id off) := by cases r <;> rfl
   rw [e2, e']
   rw [e3] at hd
   exact gK g ids rv hd
 | .box cells off, r, v, e, rv, hd => by
   have e' : r = gG dep h (.box cells off) := by cases r <;> exact e
   have e2 : bS (.box cells off) r = [] := by cases r <;> rfl
   have e3 : iA h (.box cells off) r = dL dep h (.box cells off) := by cases r <;> rfl
   rw [e2, e']
   rw [e3] at hd
   exact gK g ids rv hd
 | .mp id, r, v, e, rv, hd => by
   have e' : r = gG dep h (.mp id) := by cases r <;> exact e
   have e2 : bS (.mp id) r = [] := by cases r <;> rfl
   have e3 : iA h (.mp id) r = dL dep h (.mp id) := by cases r <;> rfl
   rw [e2, e']
   rw [e3] at hd
   exact gK g ids rv hd
 | .mapv ks vs, r, v, e, rv, hd => by
   have e' : r = gG dep h (.mapv ks vs) := by cases r <;> exact e
   have e2 : bS (.mapv ks vs) r = [] := by cases r <;> rfl
   have e3 : iA h (.mapv ks vs) r = dL dep h (.mapv ks vs) := by cases r <;> rfl
   rw [e2, e']
   rw [e3] at hd
   exact gK g ids rv hd
 | .fn f first capt, r, v, e, rv, hd => by
   have e' : r = gG dep h (.fn f first capt) := by cases r <;> exact e
   have e2 : bS (.fn f first capt) r = [] := by cases r <;> rfl
   have e3 : iA h (.fn f first capt) r = dL dep h (.fn f first capt) := by cases r <;> rfl
   rw [e2, e']
   rw [e3] at hd
   exact gK g ids rv hd
theorem finL_ok (g : GH G X w h) (ids : List Nat) : ∀ (xs rs : List AV) (vs : List Value), finOKL h xs rs → xs.length = vs.length → (∀ (j : Nat) (a : AV) (v : Value), xs[j]? = some a → vs[j]? = some v → RV X w h a v) → (∀ i ∈ ids, i ∉ finRchL h xs rs) →
   RRs (FB X ids) w rs vs (L3 X (finIdsL xs rs))
 | [], [], [], e, hl, hr, hd => by simp [finIdsL, L3, RRs]
 | x :: xs, r :: rs, v :: vs, e, hl, hr, hd => by
   simp only [finOKL] at e
   simp only [finRchL] at hd
   simp only [finIdsL, aAk]
   exact ⟨_, _, rfl, aVg g ids x r v e.1 (hr 0 x v rfl rfl) (fun i hi hm => hd i hi (cH _ hm)),
     finL_ok g ids xs rs vs e.2 (by simpa using hl) (fun j a v ha hv => hr (j + 1) a v (by simpa using ha) (by simpa using hv)) (fun i hi hm => hd i hi (cP _ hm))⟩
 | [], r :: rs, vs, e, hl, hr, hd => by simp [finOKL] at e
 | x :: xs, [], vs, e, hl, hr, hd => by simp [finOKL] at e
 | [], [], _ :: _, e, hl, hr, hd => by simp at hl
 | _ :: _, _ :: _, [], e, hl, hr, hd => by simp at hl
end

mutual
theorem aCs : ∀ (x r : AV), mH h x r → ∀ i ∈ bS x r, ∃ sz cs, h[i]? = some (.arr false sz cs)
 | .hs id off n t, r, e, i, hi => by
   cases r with
   | own sz cells m =>
     simp only [mH] at e
     obtain ⟨rfl, rfl, cs, hid, _⟩ := e
     simp only [bS, bC] at hi
     subst hi
     exact ⟨_, _, hid⟩
   | _ => simp [bS] at hi
 | .agg xs, r, e, i, hi => by
   cases r with
   | agg rs => simp only [mH] at e; simp only [bS] at hi; exact finL_live xs rs e i hi
   | _ => simp [bS] at hi
 | .tup xs, r, e, i, hi => by
   cases r with
   | tup rs => simp only [mH] at e; simp only [bS] at hi; exact finL_live xs rs e i hi
   | _ => simp [bS] at hi
 | .e0, r, e, i, hi => by cases r <;> simp [bS] at hi
 | .u, r, e, i, hi => by cases r <;> simp [bS] at hi
 | .b x, r, e, i, hi => by cases r <;> simp [bS] at hi
 | .i k n, r, e, i, hi => by cases r <;> simp [bS] at hi
 | .s l, r, e, i, hi => by cases r <;> simp [bS] at hi
 | .p v', r, e, i, hi => by cases r <;> simp [bS] at hi
 | .sl cells n, r, e, i, hi => by cases r <;> simp [bS] at hi
 | .own sz cells n, r, e, i, hi => by cases r <;> simp [bS] at hi
 | .ptr id off, r, e, i, hi => by cases r <;> simp [bS] at hi
 | .box cells off, r, e, i, hi => by cases r <;> simp [bS] at hi
 | .mp id, r, e, i, hi => by cases r <;> simp [bS] at hi
 | .mapv ks vs, r, e, i, hi => by cases r <;> simp [bS] at hi
 | .fn f first capt, r, e, i, hi => by cases r <;> simp [bS] at hi
theorem finL_live : ∀ (xs rs : List AV), finOKL h xs rs → ∀ i ∈ finIdsL xs rs, ∃ sz cs, h[i]? = some (.arr false sz cs)
 | [], [], e, i, hi => by simp [finIdsL] at hi
 | x :: xs, r :: rs, e, i, hi => by
   simp only [finOKL] at e
   simp only [finIdsL, bJ] at hi
   rcases hi with hi | hi
   · exact aCs x r e.1 i hi
   · exact finL_live xs rs e.2 i hi
 | [], _ :: _, e, i, hi => by simp [finOKL] at e
 | _ :: _, [], e, i, hi => by simp [finOKL] at e
end

def U4 (P : Program) (env : List AV) (h : List AObj) : ResultVar → Option AV
 | .tmp t => some (env.getD t .u)
 | .cell a T => uA P T h (env.getD a .u)
def wK (P : Program) (env : List AV) (h : List AObj) : List ResultVar → Option (List AV)
 | [] => some []
 | r :: rs => match U4 P env h r, wK P env h rs with
   | some x, some l => some (x :: l)
   | _, _ => Option.none
def aDx (P : Program) (rs : List ResultVar) (env : List AV) (h : List AObj) : Option AV :=
 match wK P env h rs with
 | some [x] => some x
 | some l => some (.tup l)
 | Option.none => Option.none

def aBi (tmps : Array Value) : ResultVar → Go.Sem Value
 | .tmp t => pure (tmps.getD t undef)
 | .cell b t => do loadVar t (← asAddr (tmps.getD b undef))
theorem aFf (fn : Func) (tmps : Array Value) : results fn tmps = (do
   let vs ← fn.results.mapM (aBi tmps)
   pure (if h : vs.size = 1 then vs[0] else .tuple vs)) := rfl

theorem aTl {env : List AV} {a : Act} (g : GH G X w h) (r : EnvOK X w h env a) (rv : ResultVar) {x : AV} (e : U4 P env h rv = some x) :
   ∃ v, (aBi a.tmps rv).run P w = .ok v w ∧ RV X w h x v := by
 cases rv with
 | tmp t =>
   simp only [U4, aA] at e
   subst e
   exact ⟨_, rfl, gB g r (.tmp t)⟩
 | cell b T =>
   simp only [U4] at e
   have rb := gB g r (.tmp b)
   simp only [aev, Act.eval] at rb
   obtain ⟨u, hu, ru⟩ := aKf g rb e
   refine ⟨u, ?_, ru⟩
   have : ∃ ad, a.tmps.getD b undef = .pointer (some ad) := by
     unfold uA at e
     cases ho : aDy h (env.getD b .u) with
     | none => rw [ho] at e; cases e
     | some q =>
       obtain ⟨cells, off⟩ := q
       obtain ⟨b', o, cs, T', fr, hv, _⟩ := aNj g rb ho
       exact ⟨_, hv⟩
   obtain ⟨ad, had⟩ := this
   simp only [aBi]
   rw [had] at hu ⊢
   simpa [Instr.loadAt, Instr.sureAddr, asAddr] using hu

theorem aDw {env : List AV} {a : Act} (g : GH G X w h) (r : EnvOK X w h env a) : ∀ (rs : List ResultVar) (l : List AV), wK P env h rs = some l →
   ∃ vs : List Value, (rs.mapM (aBi a.tmps)).run P w = .ok vs w ∧ l.length = vs.length ∧ ∀ (j : Nat) (x : AV) (v : Value), l[j]? = some x → vs[j]? = some v → RV X w h x v
 | [], l, e => by
   simp only [wK, aA] at e
   subst e
   exact ⟨[], by simp, rfl, by simp⟩
 | rv :: rs, l, e => by
   simp only [wK] at e
   cases h1 : U4 P env h rv with
   | none => simp [h1] at e
   | some x =>
   cases h2 : wK P env h rs with
   | none => simp [h1, h2] at e
   | some l' =>
     simp only [h1, h2, aA] at e
     subst e
     obtain ⟨v, hv, rx⟩ := aTl g r rv h1
     obtain ⟨vs, hvs, hl, hr⟩ := aDw g r rs l' h2
     refine ⟨v :: vs, ?_, by simp [hl], ?_⟩
     · rw [List.mapM_cons, aX, hv, aM, aX, hvs]; rfl
     · intro j y u hy hu
       cases j with
       | zero => simp at hy hu; exact hy ▸ hu ▸ rx
       | succ j => exact hr j y u (by simpa using hy) (by simpa using hu)

theorem aNg {env : List AV} {a : Act} {fn : Func} (g : GH G X w h) (r : EnvOK X w h env a) {x : AV} (e : aDx P fn.results.toList env h = some x) : ∃ v, (results fn a.tmps).run P w = .ok v w ∧ RV X w h x v := by
 unfold aDx at e
 cases hl : wK P env h fn.results.toList with
 | none => simp [hl] at e
 | some l =>
   obtain ⟨vs, hvs, hlen, hr⟩ := aDw g r _ l hl
   have hrun : (results fn a.tmps).run P w = .ok (if h : vs.toArray.size = 1 then vs.toArray[0] else .tuple vs.toArray) w := by
     rw [aFf, aX, Array.mapM_eq_mapM_toList, Sem.run_map, hvs]
     rfl
   rw [hrun]
   rw [hl] at e
   clear hl hvs hrun
   cases l with
   | nil =>
     cases vs with
     | cons => simp at hlen
     | nil =>
       simp only [aA] at e
       subst e
       exact ⟨_, rfl, by simpa using .tup (vs := #[]) rfl (by simp)⟩
   | cons y l =>
     cases vs with
     | nil => simp at hlen
     | cons v vs =>
       cases l with
       | nil =>
         have hvs0 : vs = [] := List.eq_nil_of_length_eq_zero (by simpa using hlen.symm)
         subst hvs0
         simp only [aA] at e
         subst e
         exact ⟨v, by simp, hr 0 y v rfl rfl⟩
       | cons z l =>
         simp only [aA] at e
         subst e
         refine ⟨_, rfl, ?_⟩
         have : (v :: vs).toArray.size ≠ 1 := by simp at hlen ⊢; intro h0; rw [h0] at hlen; simp at hlen
         rw [dif_neg this]
         exact .tup (by simpa using hlen) (fun j a v ha hv => hr j a v ha (by simpa using hv))
end

theorem aUj {P : Program} {G : eX} {f : FuncId} {fn : Func} {c : Code} {args : List AV} {r : AV} (hf : P.funcs[f]? = some fn) (hb : fn.body = some c) (hcal : gQ P f = true) (hG : sA G)
   (h : AW P G c (fun e env h => (e = .normal ∨ e = .ret) ∧ ∃ x, aDx P fn.results.toList env h = some x ∧ Fin h x r) (args ++ List.replicate (fn.ntmps - args.length) .u) []) : Ctr P G f args r := by
 refine ⟨hcal, hG, ?_⟩
 intro F w vs hF hgl hl hr
 have g0 : GH G (.none F) w [] := ⟨fun id ob h => by simp at h, fun id bo h => by simp [Ctx.none] at h, fun id id' b o o' h => by simp [Ctx.none] at h, fun id b o h => by simp [Ctx.none] at h, hF, hgl⟩
 have r0 : EnvOK (.none F) w [] (args ++ List.replicate (fn.ntmps - args.length) .u) { tmps := vs ++ Array.replicate (fn.ntmps - vs.size) undef, defers := [] } := by
   refine ⟨rfl, by simp [hl], ?_⟩
   intro j x v hx hv
   by_cases hj : j < args.length
   · rw [aD hj] at hx
     rw [fR (by omega)] at hv
     exact hr j x v hx hv
   · rw [aI (by omega), List.getElem?_replicate] at hx
     split at hx
     · cases hx; exact .u _
     · cases hx
 refine calls_of_wp hf hb (wp_mono (h (.none F) w _ g0 r0) ?_)
 rintro e a' w' ⟨env', h', X', ⟨he, x, hres, hfin⟩, g', r', t⟩
 obtain ⟨v, hrun, rx⟩ := aNg g' r' hres
 have hgr : wX w w' := ⟨fun b hb => t.step.frame b hb (fun id o e => by simp [Ctx.none] at e), t.step.size, t.step.os, t.step.tape, t.step.output⟩
 have hι : ∀ id b o, X'.ι id = some (b, o) → w.heap.size ≤ b := by
   intro id b o hb
   rcases t.step.new id b o hb with h | ⟨_, _, h⟩
   · exact h
   · simp [Ctx.none] at h
 have hXF : ∀ b, X'.F b → F b ∨ w.heap.size ≤ b := by
   intro b hb
   rcases t.step.fnew b hb with h | h | ⟨_, _, h⟩
   · exact .inl h
   · exact .inr h
   · simp [Ctx.none] at h
 have hFB : ∀ (ids : List Nat), (∀ b, F b → FB X' ids b) ∧ (∀ b, FB X' ids b → F b ∨ w.heap.size ≤ b) ∧ (∀ b, FB X' ids b → b < w'.heap.size) := by
   intro ids
   refine ⟨fun b hb => .inl (t.ext.fr b hb), ?_, ?_⟩
   · rintro b (hb | ⟨id, o, _, ho⟩)
     · exact hXF b hb
     · exact .inr (hι _ _ _ ho)
   · rintro b (hb | ⟨id, o, _, ho⟩)
     · exact g'.fbnd b hb
     · exact g'.bnd _ _ _ ho
 have hR : ∃ v' F' bs, Ending.returned v = .returned v' ∧ wX w w' ∧ (∀ b, F b → F' b) ∧ (∀ b, F' b → F b ∨ w.heap.size ≤ b) ∧ (∀ b, F' b → b < w'.heap.size) ∧ RR F' w' r v' bs ∧ bs.Nodup ∧ ∀ b ∈ bs, ¬ F' b ∧ w.heap.size ≤ b := by
   rcases hfin with ⟨rfl, hp⟩ | ⟨hok, hnd, hdis⟩
   · exact ⟨v, FB X' [], [], rfl, hgr, (hFB []).1, (hFB []).2.1, (hFB []).2.2, RR.val (rx.pers hp (fun b hb => .inl hb) (fun _ _ => rfl)), dC, by simp⟩
   · refine ⟨v, FB X' (bS x r), L3 X' (bS x r), rfl, hgr, (hFB _).1, (hFB _).2.1, (hFB _).2.2, aVg g' _ x r v hok rx hdis, D9 g' hnd, ?_⟩
     intro b hb
     obtain ⟨id, hi, o, ho⟩ := aDp hb
     refine ⟨?_, hι _ _ _ ho⟩
     rintro (hF' | ⟨id', o', hn, ho'⟩)
     · obtain ⟨sz, cs, hid⟩ := aCs x r hok id hi
       have ok := g'.objs _ _ hid
       cases ok with
       | arr h0 h1 h2 h3 => rw [h0] at ho; cases ho; exact (h3 rfl).1 hF'
       | absent h0 => rw [h0] at ho; cases ho
     · exact hn (g'.inj _ _ _ _ _ ho ho' ▸ hi)
 rcases he with rfl | rfl
 · exact ⟨r'.defers, v, hrun, hR⟩
 · exact ⟨r'.defers, v, hrun, hR⟩
theorem sQ {rx : Bool} {th : Nat → Option TH} {P : Program} (hm : P.follows .mixedOrders = true) {G : eX} {f : FuncId} {fn : Func} {c : Code} {ac : kG} {args : List AV} {r : AV} (hf : P.funcs[f]? = some fn) (hb : fn.body = some c) (hcal : gQ P f = true) (hd : iD rx th c = true) (hs : strip rx th c = some ac) (hG : sA G)
   (h : awx P G ac (fun e env h => (e = .normal ∨ e = .ret) ∧ ∃ x, aDx P fn.results.toList env h = some x ∧ Fin h x r) (args ++ List.replicate (fn.ntmps - args.length) .u) []) : Ctr P G f args r :=
 aUj hf hb hcal hG (rI hm c ac hd hs _ _ _ h)

section
variable (P : Program) (G : eX) (dr : Option DR)

def dJ (op : Op) (d : Option Nat) (os : List fN) (K : List AV → List AObj → Prop) (env : List AV) (h : List AObj) : Prop :=
 pI P G dr op (fun r h' => dA P G dr os K (fW env d r) h') env h
def nD (x : Option AV) (d : Option Nat) (os : List fN) (K : List AV → List AObj → Prop) (env : List AV) (h : List AObj) : Prop :=
 match x with
 | some v => dA P G dr os K (fW env d v) h
 | Option.none => False
def bBe (x : Option (List AObj)) (d : Option Nat) (os : List fN) (K : List AV → List AObj → Prop) (env : List AV) : Prop :=
 match x with
 | some h' => dA P G dr os K (fW env d .u) h'
 | Option.none => False
def mS (x : Option (AV × List AObj)) (d : Option Nat) (os : List fN) (K : List AV → List AObj → Prop) (env : List AV) : Prop :=
 match x with
 | some (v, h') => dA P G dr os K (fW env d v) h'
 | Option.none => False
def bBn (fv : AV) (args : List AV) (d : Option Nat) (os : List fN) (K : List AV → List AObj → Prop) (env : List AV) (h : List AObj) : Prop :=
 match fv with
 | .fn f first capt => G6 P G dr.isSome f (first ++ args ++ capt) h (fun r h' => dA P G dr os K (fW env d r) h')
 | _ => False
def tV (f : FuncId) (A : List AV) (d : Option Nat) (os : List fN) (K : List AV → List AObj → Prop) (env : List AV) (h : List AObj) : Prop :=
 G6 P G dr.isSome f A h (fun r h' => dA P G dr os K (fW env d r) h')
def kO (c : AV) (want : Bool) (op : Op) (d : Option Nat) (os : List fN) (K : List AV → List AObj → Prop) (env : List AV) (h : List AObj) : Prop :=
 tO (A5 c want) (dJ P G dr op d os K env h) (dA P G dr os K (fW env d (.tup [])) h)
def aAe (c : AV) (a b : kG) (Q : Exit → List AV → List AObj → Prop) (env : List AV) (h : List AObj) : Prop :=
 tO c (awx P G a Q env h) (awx P G b Q env h)
end

section
variable {P : Program} {G : eX} {dr : Option DR} {d : Option Nat} {os : List fN} {K : List AV → List AObj → Prop} {env : List AV} {h : List AObj} {Q : Exit → List AV → List AObj → Prop}

theorem aYt : dA P G dr [] K env h = K env h := rfl
theorem aUk {op : Op} {K : AV → List AObj → Prop} : aNy P G dr false op K env h = pI P G dr op K env h := by
 cases op with
 | call c => obtain ⟨ce, as, ts⟩ := c; cases ce <;> rfl
 | _ => rfl
theorem aQe {op : Op} : dA P G dr (⟨d, op, none, false⟩ :: os) K env h = dJ P G dr op d os K env h := by simp only [dA, aGk, true_and, aUk]; rfl
theorem aJp {op : Op} {t : Nat} {want : Bool} : dA P G dr (⟨d, op, some (t, want), false⟩ :: os) K env h = kO P G dr (env.getD t .u) want op d os K env h := by simp only [dA, aGk, true_and, aUk]; rfl
def ckV (P : Program) (G : eX) (N : DR) (op : Op) (d : Option Nat) (os : List fN) (K : List AV → List AObj → Prop) (env : List AV) (h : List AObj) : Prop :=
 match op with
 | .buildSlice T len ps => nD P G (some N) (aGv P (aev G env) T len ps) d os K env h
 | .call ⟨.value f, as, ts⟩ => bKf P G N ⟨.value f, as, ts⟩ (fun r h' => dA P G (some N) os K (fW env d r) h') env h
 | op => aAi G N op env ∧ dJ P G (some N) op d os K env h
theorem bEa {op : Op} {N : DR} : dA P G (some N) (⟨d, op, none, true⟩ :: os) K env h = ckV P G N op d os K env h := by
 cases op with
 | buildSlice T len ps =>
   have e : dA P G (some N) (⟨d, .buildSlice T len ps, none, true⟩ :: os) K env h = (True ∧ xZ ((aGv P (aev G env) T len ps).map fun v => (v, h)) (fun r h' => dA P G (some N) os K (fW env d r) h')) := rfl
   rw [e, ckV, true_and]
   cases aGv P (aev G env) T len ps <;> rfl
 | call c =>
   obtain ⟨ce, as, ts⟩ := c
   cases ce with
   | value f =>
     have e : dA P G (some N) (⟨d, .call ⟨.value f, as, ts⟩, none, true⟩ :: os) K env h = (True ∧ bKf P G N ⟨.value f, as, ts⟩ (fun r h' => dA P G (some N) os K (fW env d r) h') env h) := rfl
     rw [e, true_and]
     rfl
   | _ => rfl
 | _ => rfl
def asl : Option (AV × List AObj) → Option AV
 | some (.hs _ _ n _, [.arr _ _ cells]) => if 0 < n ∧ persL cells = true then some (.sl cells n) else Option.none
 | _ => Option.none
theorem aTg {i o n sz : Nat} {t fz : Bool} {cells : List AV} : asl (some (.hs i o n t, [.arr fz sz cells])) = if 0 < n ∧ persL cells = true then some (.sl cells n) else Option.none := rfl
theorem aRc {op : Op} : kO P G dr (.b true) true op d os K env h = dJ P G dr op d os K env h := by simp [kO, A5, tO]
theorem aRg {op : Op} : kO P G dr (.b false) false op d os K env h = dJ P G dr op d os K env h := by simp [kO, A5, tO]
theorem aRd {op : Op} : kO P G dr (.b true) false op d os K env h = dA P G dr os K (fW env d (.tup [])) h := by simp [kO, A5, tO]
theorem aRf {op : Op} : kO P G dr (.b false) true op d os K env h = dA P G dr os K (fW env d (.tup [])) h := by simp [kO, A5, tO]
theorem aRe {op : Op} {want : Bool} : kO P G dr (.tup []) want op d os K env h = dA P G dr os K (fW env d (.tup [])) h := by simp [kO, A5, tO]
theorem yI {op : Op} {x want : Bool} (h1 : x = want → dJ P G dr op d os K env h) (h2 : x = (!want) → dA P G dr os K (fW env d (.tup [])) h) : kO P G dr (.b x) want op d os K env h := by
 cases x <;> cases want <;> simp_all [kO, A5, tO]

theorem bCo : awx P G .skip Q env h = Q .normal env h := rfl
theorem aOh {ops : List fN} : awx P G (.region ops) Q env h = dA P G none ops (Q .normal) env h := rfl
theorem bCq {ops : List fN} : awx P G (.draw Option.none ops) Q env h = dA P G (some ⟨h.length, []⟩) ops (Q .normal) env h := rfl
theorem aWx {N : Nat} {L : List Nat} {v m s : Bool} {xs zs : List Nat} {ops : List fN} : awx P G (.draw (some ⟨some N, L, v, m, s, xs, zs⟩) ops) Q env h = dA P G (some ⟨N, L⟩) ops (Q .normal) env h := rfl
theorem aWy {L : List Nat} {v m s : Bool} {xs zs : List Nat} {ops : List fN} : awx P G (.draw (some ⟨none, L, v, m, s, xs, zs⟩) ops) Q env h = dA P G (some ⟨h.length, L⟩) ops (Q .normal) env h := rfl
theorem bKw {a b : kG} : awx P G (.seq a b) Q env h = awx P G a (zV (awx P G b Q) Q) env h := rfl
theorem bCr {c : Operand} {a b : kG} : awx P G (.cond c a b) Q env h = aAe P G (aev G env c) a b Q env h := rfl
theorem aWz {i : Nat} {c : kG} : awx P G (.block i c) Q env h = awx P G c (yZ i Q) env h := rfl
theorem bCp {i : Nat} : awx P G (.exit i) Q env h = Q (.exit i) env h := rfl
theorem bKx : awx P G .ret Q env h = Q .ret env h := rfl
theorem W6 {K : List AV → List AObj → Prop} : zV K Q .normal env h = K env h := rfl
theorem aHn {K : List AV → List AObj → Prop} {i : Nat} : zV K Q (.exit i) env h = Q (.exit i) env h := rfl
theorem aOl {K : List AV → List AObj → Prop} : zV K Q .ret env h = Q .ret env h := rfl
theorem U3 {i : Nat} : yZ i Q .normal env h = Q .normal env h := rfl
theorem aMy {i : Nat} : yZ i Q .ret env h = Q .ret env h := rfl
theorem aGr {i j : Nat} : yZ i Q (.exit j) env h = if j = i then Q .normal env h else Q (.exit j) env h := rfl
theorem bIv {a b : kG} : aAe P G (.b true) a b Q env h = awx P G a Q env h := by simp [aAe, tO]
theorem bIw {a b : kG} : aAe P G (.b false) a b Q env h = awx P G b Q env h := by simp [aAe, tO]
theorem D8 {a b : kG} {x : Bool} (h1 : x = true → awx P G a Q env h) (h2 : x = false → awx P G b Q env h) : aAe P G (.b x) a b Q env h := ⟨h1, h2⟩

theorem aWw {c : kG} {S : Type} (I : S → List AV → List AObj → Prop) (μ : S → Nat) (s0 : S) (h0 : I s0 env h) (round : ∀ s env h, I s env h → awx P G c (zV (fun e' h' => ∃ s', I s' e' h' ∧ μ s' < μ s) Q) env h) : awx P G (.loop c) Q env h :=
 ⟨S, I, μ, s0, h0, round⟩

theorem bDp {x : Operand} : dJ P G dr (.move x) d os K env h = dA P G dr os K (fW env d (aev G env x)) h := rfl
theorem aPt {x : Operand} : dJ P G dr (.assign x) d os K env h = dA P G dr os K (fW env d (aev G env x)) h := rfl
def bJu : AV → AV → AV → Option AV
 | .b t, a, b => some (if t then a else b)
 | _, _, _ => Option.none
theorem kH {x : Option AV} : xZ (match x with | some v => some (v, h) | Option.none => Option.none) (fun r h' => dA P G dr os K (fW env d r) h') = nD P G dr x d os K env h := by cases x <;> rfl
theorem bDo {c a b : Operand} : dJ P G dr (.pick c a b) d os K env h = nD P G dr (bJu (aev G env c) (aev G env a) (aev G env b)) d os K env h := by
 simp only [dJ, pI, dV, qI, eG, aop]
 cases aev G env c <;> rfl
def aEb : Bool → Option Nat → Option (List AV) → List AObj → Option (AV × List AObj)
 | true, some sz, some cells, h => some (.ptr h.length 0, h ++ [.arr false sz cells])
 | true, Option.none, some cells, h => some (.ptr h.length 0, h ++ [.box false cells])
 | false, _, some cells, h => some (.ptr h.length 0, h ++ [.box false cells])
 | _, _, Option.none, _ => Option.none
theorem aNo {sz : Nat} {c : List AV} {h : List AObj} : aEb true (some sz) (some c) h = some (.ptr h.length 0, h ++ [.arr false sz c]) := rfl
theorem aNn {c : List AV} {h : List AObj} : aEb true Option.none (some c) h = some (.ptr h.length 0, h ++ [.box false c]) := rfl
theorem aYl {T : TypeId} : dJ P G dr (.alloc T) d os K env h = mS P G dr (aEb dr.isNone (jG P T) (zeroOf P T) h) d os K env := by
 simp only [dJ, pI, dV, qI, eG, aop]
 cases jG P T <;> cases zeroOf P T <;> cases dr <;> rfl
theorem bLl {T : TypeId} {x : Operand} : dJ P G dr (.box T x) d os K env h = mS P G dr (aEb dr.isNone (jG P T) (iE (aev G env x)) h) d os K env := by
 simp only [dJ, pI, dV, qI, eG, aop]
 cases jG P T <;> cases iE (aev G env x) <;> cases dr <;> rfl
def aNt (pl : Option (List (Nat × Nat))) (z : Option (List AV)) (parts : List (Nat × AV)) : Option AV :=
 match pl, z with
 | some pl, some z => (kR (fun i => pl[i]?) z parts).map .agg
 | _, _ => Option.none
theorem aYi {T : TypeId} {parts : Array (Nat × Operand)} : dJ P G dr (.build T parts) d os K env h = nD P G dr (aNt (hY P T) (zeroOf P T) (parts.toList.map fun (i, x) => (i, aev G env x))) d os K env h := by
 simp only [dJ, pI, dV, qI, eG, aop]
 cases hY P T with
 | none => rfl
 | some pl =>
   cases zeroOf P T with
   | none => rfl
   | some z =>
     simp only [aNt]
     cases kR (fun i => pl[i]?) z (parts.toList.map fun (i, x) => (i, aev G env x)) <;> rfl
def gH (h : List AObj) (el : Option TypeId) (len : Nat) (parts : List (Nat × AV)) : Option (AV × List AObj) :=
 match el with
 | some e => match zeroOf P e with
   | some z => if jR P e = some z.length ∧ 0 < z.length ∧ len * z.length ≤ 65536 then
       (if len = 0 ∧ parts = [] then some (.e0, h) else (kR (fun i => some (i * z.length, z.length)) (List.replicate len z).flatten parts).map fun cells => (.hs h.length 0 len false, h ++ [.arr false z.length cells])) else Option.none
   | Option.none => Option.none
 | Option.none => Option.none
def aMf (dr : Option DR) (l : List (Nat × Operand)) (a b : Option (AV × List AObj)) : Option (AV × List AObj) := if (dr.isSome && aGj l) = true then a else b
theorem bSh {l : List (Nat × Operand)} {a b : Option (AV × List AObj)} : aMf Option.none l a b = b := rfl
theorem bSi {N : DR} {a b : Option (AV × List AObj)} : aMf (some N) [] a b = b := rfl
theorem bSg {N : DR} {i : Nat} {t : Tmp} {l : List (Nat × Operand)} {a b : Option (AV × List AObj)} : aMf (some N) ((i, .tmp t) :: l) a b = b := rfl
theorem bJw {T : TypeId} {len : Nat} {parts : Array (Nat × Operand)} : aop P G env h (.buildSlice T len parts) = gH (P := P) h (eE P T) len (parts.toList.map fun (i, x) => (i, aev G env x)) := by
 simp only [aop, gH]
 cases eE P T with
 | none => rfl
 | some e =>
   simp only
   cases zeroOf P e with
   | none => rfl
   | some z =>
     simp only
     have hm : (parts.toList = []) ↔ ((parts.toList.map fun (i, x) => (i, aev G env x)) = []) := by simp
     simp only [hm]
     split
     · split
       · rfl
       · cases kR (fun i => some (i * z.length, z.length)) (List.replicate len z).flatten (parts.toList.map fun (i, x) => (i, aev G env x)) <;> rfl
     · rfl
theorem Y2 {x : Option (AV × List AObj)} : xZ x (fun r h' => dA P G dr os K (fW env d r) h') = mS P G dr x d os K env := by
 cases x <;> rfl
theorem O6 {T : TypeId} {len : Nat} {parts : Array (Nat × Operand)} : dJ P G dr (.buildSlice T len parts) d os K env h = mS P G dr (aMf dr parts.toList ((aTh P T len parts).map fun v => (v, h)) (gH (P := P) h (eE P T) len (parts.toList.map fun (i, x) => (i, aev G env x)))) d os K env := by
 rw [← bJw]
 simp only [dJ, pI, dV, qI, eG]
 exact Y2
def jN : Nat → List (Nat × AV) → Option (List AV)
 | _, [] => some []
 | i, (j, a) :: rest => if j = i then (match iE a with
   | some [c] => (jN (i + 1) rest).map (c :: ·)
   | _ => Option.none) else Option.none
theorem U7 : ∀ (parts : List (Nat × AV)) (i : Nat) (cells pre : List AV) (z : AV), jN i parts = some cells → pre.length = i →
   kR (fun i => some (i * 1, 1)) (pre ++ List.replicate cells.length z) parts = some (pre ++ cells)
 | [], i, cells, pre, z, h, hp => by
   simp only [jN, aA] at h
   subst h
   simp [kR]
 | (j, a) :: rest, i, cells, pre, z, h, hp => by
   simp only [jN] at h
   split at h
   case isFalse => cases h
   rename_i hj
   subst hj
   split at h
   case h_2 => cases h
   rename_i c hc
   cases hr : jN (j + 1) rest with
   | none => simp [hr] at h
   | some cs =>
     simp only [hr, cK, aA] at h
     subst h
     have ih := U7 rest (j + 1) cs (pre ++ [c]) z hr (by simp [hp])
     simp only [kR, hc, aQ, bD, aH, List.length_replicate, Nat.mul_one, bX]
     rw [if_pos ⟨trivial, by omega⟩]
     have hs : kU (pre ++ List.replicate (cs.length + 1) z) j [c] = (pre ++ [c]) ++ List.replicate cs.length z := by
       unfold kU
       rw [List.take_left' hp, List.length_singleton, List.drop_append, bF (by omega), hp]
       have : j + 1 - j = 1 := by omega
       rw [this, cS, gY, fD, dG]
     have e1 : (fun i => some (i * 1, 1)) = (fun i : Nat => some (i, 1)) := by funext i; rw [Nat.mul_one]
     rw [e1] at ih
     rw [hs, ih, bT]; rfl
theorem aRo {i : Nat} : jN i [] = some [] := rfl
theorem bEw {i : Nat} {rest : List (Nat × AV)} {l : List UInt8} : jN i ((i, .s l) :: rest) = (jN (i + 1) rest).map (.s l :: ·) := by simp [jN, iE, AV.one]
theorem bEx {i : Nat} {rest : List (Nat × AV)} {k : IntKind} {n : Int} : jN i ((i, .i k n) :: rest) = (jN (i + 1) rest).map (.i k n :: ·) := by simp [jN, iE, AV.one]
theorem bAn {i : Nat} {rest : List (Nat × AV)} {c : List AV} {n : Nat} : jN i ((i, .sl c n) :: rest) = (jN (i + 1) rest).map (.sl c n :: ·) := by simp [jN, iE, AV.one]
theorem bAo {i : Nat} {rest : List (Nat × AV)} {id o n : Nat} {t : Bool} : jN i ((i, .hs id o n t) :: rest) = (jN (i + 1) rest).map (.hs id o n t :: ·) := by simp [jN, iE, AV.one]
def kQ (h : List AObj) (el : Option TypeId) (len : Nat) (parts : List (Nat × AV)) : Option (AV × List AObj) :=
 match el with
 | some e => match zeroOf P e, jR P e, jN 0 parts with
   | some [_], some 1, some cells => if cells.length = len ∧ 0 < len ∧ len ≤ 65536 then some (.hs h.length 0 len false, h ++ [.arr false 1 cells]) else gH (P := P) h (some e) len parts
   | _, _, _ => gH (P := P) h (some e) len parts
 | Option.none => Option.none
theorem qJ {el : Option TypeId} {len : Nat} {parts : List (Nat × AV)} : gH (P := P) h el len parts = kQ (P := P) h el len parts := by
 unfold kQ
 cases el with
 | none => rfl
 | some e =>
   simp only
   split
   · rename_i z cells hz hs hf
     split
     · rename_i hc
       obtain ⟨hc1, hc0, hc2⟩ := hc
       have := U7 parts 0 cells [] z hf rfl
       simp only [gH, hz, hs, List.length_singleton]
       rw [if_pos ⟨trivial, by omega, by omega⟩, if_neg (by omega)]
       have e2 : (List.replicate len [z]).flatten = [] ++ List.replicate cells.length z := by
         rw [hc1, cS]
         clear this hc1 hc0 hc2 hf
         induction len with
         | zero => rfl
         | succ n ih => rw [gY, dP, ih, gY]; rfl
       rw [e2, this]; rfl
     · rfl
   · rfl
theorem F6 {T : TypeId} {len : Nat} {parts : Array (Nat × Operand)} : dJ P G dr (.buildSlice T len parts) d os K env h = mS P G dr (aMf dr parts.toList ((aTh P T len parts).map fun v => (v, h)) (kQ (P := P) h (eE P T) len (parts.toList.map fun (i, x) => (i, aev G env x)))) d os K env := by
 rw [O6, qJ]
theorem bJo {T : TypeId} {len : Nat} {parts : Array (Nat × Operand)} : aGv P (aev G env) T len parts = asl (gH (P := P) [] (eE P T) len (parts.toList.map fun (i, x) => (i, aev G env x))) := by
 unfold aGv gH
 cases eE P T with
 | none => rfl
 | some e =>
   simp only
   cases zeroOf P e with
   | none => rfl
   | some z =>
     simp only
     by_cases h1 : jR P e = some z.length ∧ 0 < z.length ∧ len * z.length ≤ 65536
     · rw [if_pos h1]
       by_cases h2 : 0 < len
       · rw [if_pos ⟨h1.1, h1.2.1, h2, h1.2.2⟩, if_neg (fun q => by omega)]
         cases kR (fun i => some (i * z.length, z.length)) (List.replicate len z).flatten (parts.toList.map fun (i, x) => (i, aev G env x)) with
         | none => rfl
         | some cells => simp only [cK, asl, cS, h2, true_and]
       · rw [if_neg (fun q => h2 q.2.2.1)]
         split
         · rfl
         · cases kR (fun i => some (i * z.length, z.length)) (List.replicate len z).flatten (parts.toList.map fun (i, x) => (i, aev G env x)) with
           | none => rfl
           | some cells => simp only [cK, asl, cS, h2, false_and, if_false]
     · rw [if_neg h1, if_neg (fun q => h1 ⟨q.1, q.2.1, q.2.2.2⟩)]; rfl
theorem aZu {T : TypeId} {len : Nat} {parts : Array (Nat × Operand)} {N : DR} : ckV P G N (.buildSlice T len parts) d os K env h = nD P G (some N) (asl (kQ (P := P) [] (eE P T) len (parts.toList.map fun (i, x) => (i, aev G env x)))) d os K env h := by
 rw [← qJ, ← bJo]; rfl
theorem bDq {T : TypeId} {x : Operand} : dJ P G dr (.load T x) d os K env h = nD P G dr (uA P T h (aev G env x)) d os K env h := by
 simp only [dJ, pI, dV, qI, eG, aop]; exact kH
theorem aYd {T : TypeId} {x y : Operand} : dJ P G dr (.store T x y) d os K env h = bBe P G dr (rJ P h T (aev G env x) (aev G env y)) d os K env := by
 simp only [dJ, pI, dV, qI, eG, aop]
 cases rJ P h T (aev G env x) (aev G env y) <;> rfl
def bOc (h : List AObj) : AV → Option AV
 | .ptr id off => match h[id]? with | some (.box ..) | some (.arr ..) | some (.held false _) => some (.ptr id off) | _ => Option.none
 | .box cells off => some (.box cells off)
 | .fn f a b => some (.fn f a b)
 | _ => Option.none
theorem aFk {x : Operand} : dJ P G dr (.nilCheck x) d os K env h = nD P G dr (bOc h (aev G env x)) d os K env h := by
 simp only [dJ, pI, dV, qI, eG, aop, bOc]
 cases aev G env x with
 | ptr id off =>
   simp only
   cases h[id]? with
   | none => rfl
   | some ob => cases ob with
     | held m q => cases m <;> rfl
     | _ => rfl
 | _ => rfl
theorem bLm {op : BinOp} {T U : TypeId} {x : Operand} {t : Nat} : dJ P G dr (.binOp op T x (.tmp t) U) d os K env h = nD P G dr (aTz P op T (aev G env x) (aev G env (.tmp t))) d os K env h := by
 simp only [dJ, pI, dV, qI, bCk, eG, aop]; exact kH
theorem aYk {op : BinOp} {T U : TypeId} {x : Operand} {k : IntKind} {n : Int} : dJ P G dr (.binOp op T x (.const (.int k n)) U) d os K env h = nD P G dr (aTz P op T (aev G env x) (.i k n)) d os K env h := by
 simp only [dJ, pI, dV, qI, bCk, eG, aop]; exact kH
theorem aYj {op : BinOp} {T U : TypeId} {x : Operand} {b : ByteArray} : dJ P G dr (.binOp op T x (.const (.string b)) U) d os K env h = nD P G dr (aTz P op T (aev G env x) (aev G env (.const (.string b)))) d os K env h := by
 simp only [dJ, pI, dV, qI, bCk, eG, aop]; exact kH
def bLp (P : Program) (G : eX) (A : Option TypeDesc) (v : AV) (d : Option Nat) (os : List fN) (K : List AV → List AObj → Prop) (env : List AV) (h : List AObj) : Prop :=
 match A with
 | some (.slice _) => (match v with
   | .e0 => dA P G none os K (fW env d (.b true)) h ∧ dA P G none os K (fW env d (.b false)) h
   | .sl _ n => (n = 0 → dA P G none os K (fW env d (.b true)) h) ∧ dA P G none os K (fW env d (.b false)) h
   | _ => False)
 | _ => False
theorem bLi {T U : TypeId} {x : Operand} : dJ P G none (.binOp .eql T x (.const (.slice none 0 0)) U) d os K env h = bLp P G (P.underlying T) (aev G env x) d os K env h := by
 simp only [dJ, pI, dV, qI, bCk, bEe, bLp]
 cases P.underlying T with
 | none => rfl
 | some t => cases t <;> first | rfl | (cases aev G env x <;> rfl)
theorem aUt {e : TypeId} {cells : List AV} {n : Nat} (h1 : n = 0 → dA P G none os K (fW env d (.b true)) h) (h2 : dA P G none os K (fW env d (.b false)) h) : bLp P G (some (.slice e)) (.sl cells n) d os K env h := ⟨h1, h2⟩
theorem bQz {op : UnOp} {T : TypeId} {x : Operand} : dJ P G dr (.unOp op T x) d os K env h = nD P G dr (aUn op (aev G env x)) d os K env h := by
 simp only [dJ, pI, dV, qI, eG, aop]; exact kH
theorem aFl {f : FuncId} {a b : Array Operand} : dJ P G dr (.makeFunc (.func f) a b) d os K env h = dA P G dr os K (fW env d (.fn f (a.toList.map (aev G env)) (b.toList.map (aev G env)))) h := rfl
theorem aIz {T : TypeId} : dJ P G dr (.makeMap T none) d os K env h = dA P G dr os K (fW env d (.mp h.length)) (h ++ [.map false [] []]) := rfl
theorem aYe {T : TypeId} {x : Operand} {l hi m : Option Operand} : dJ P G dr (.slice T x l hi m) d os K env h = nD P G dr (pG P h T (aev G env x) (l.map (aev G env)) (hi.map (aev G env)) (m.map (aev G env))) d os K env h := by
 simp only [dJ, pI, dV, qI, eG, aop]; exact kH
def uZ (h : List AObj) (q : Option (Nat × Option Nat)) (x : AV) : Option AV :=
 match q with
 | some (fo, some (_ + 1)) => match x with
   | .ptr id off => match h[id]? with | some (.box ..) | some (.arr ..) | some (.held false _) => some (.ptr id (off + fo)) | _ => Option.none
   | .box cells off => some (.box cells (off + fo))
   | _ => Option.none
 | _ => Option.none
def cZ (P : Program) (S : TypeId) (f : Nat) : Option (Nat × Option Nat) := (iU P S f).map fun q => (q.1, jR P q.2)
theorem X8 {S : TypeId} {x : Operand} {f : Nat} : dJ P G dr (.fieldAddr S x f) d os K env h = nD P G dr (uZ h (cZ P S f) (aev G env x)) d os K env h := by
 simp only [dJ, pI, dV, qI, eG, aop, uZ, cZ]
 cases iU P S f with
 | none => rfl
 | some q =>
   obtain ⟨fo, ft⟩ := q
   simp only [cK]
   cases jR P ft with
   | none => rfl
   | some n =>
     cases n with
     | zero => rfl
     | succ n =>
       cases aev G env x with
       | ptr id off =>
         simp only
         cases h[id]? with
         | none => rfl
         | some ob => cases ob with
           | held m q => cases m <;> rfl
           | _ => rfl
       | _ => rfl
theorem X7 {T : TypeId} {x i : Operand} : dJ P G dr (.indexAddr T x i) d os K env h = nD P G dr (gP P h T (aev G env x) (aev G env i)) d os K env h := by
 simp only [dJ, pI, dV, qI, eG, aop]; exact kH
theorem aYh {T : TypeId} {x i : Operand} : dJ P G dr (.index T x i) d os K env h = nD P G dr (zM P T (aev G env x) (aev G env i)) d os K env h := by
 simp only [dJ, pI, dV, qI, eG, aop]; exact kH
theorem aPs {T : TypeId} {m k : Operand} {ok : Bool} : dJ P G dr (.lookup T m k ok) d os K env h = nD P G dr (lZ P h T (aev G env m) (aev G env k) ok) d os K env h := by
 simp only [dJ, pI, dV, qI, eG, aop]; exact kH
def bBp (P : Program) (h : List AObj) (T : TypeId) (m k x : AV) : Option (List AObj) :=
 if pers x then eD P h T m k x else eD P (freeze (dL dep h x) h) T m k (gG dep h x)
theorem X6 {T : TypeId} {m k x : Operand} : dJ P G dr (.mapUpdate T m k x) d os K env h = bBe P G dr (bBp P h T (aev G env m) (aev G env k) (aev G env x)) d os K env := by
 simp only [dJ, pI, dV, qI, eG, bBp]
 split
 · cases eD P h T (aev G env m) (aev G env k) (aev G env x) <;> rfl
 · cases eD P (freeze (dL dep h (aev G env x)) h) T (aev G env m) (aev G env k) (gG dep h (aev G env x)) <;> rfl
def bNx : AV → Nat → Option AV
 | .tup vs, i => vs[i]?
 | _, _ => Option.none
theorem aJa {x : Operand} {i : Nat} : dJ P G dr (.extract x i) d os K env h = nD P G dr (bNx (aev G env x) i) d os K env h := by
 simp only [dJ, pI, dV, qI, eG, aop, bNx]
 cases aev G env x with
 | tup vs => exact kH
 | _ => rfl
theorem bLj {T : TypeId} {x : Operand} : dJ P G dr (.call ⟨.builtin .len, #[x], #[T]⟩) d os K env h = nD P G dr ((aNq P h T (aev G env x)).map fun n => .i .i64 (Int.ofNat n)) d os K env h := by
 simp only [dJ, pI, dV, qI, eG, nH, iB, aU, bN]
 cases aNq P h T (aev G env x) <;> rfl
def V3 (P : Program) (h : List AObj) (T : TypeId) (s x : AV) : Option (AV × List AObj) :=
 if pP h x then eW P h T s x else eW P (freeze (dL dep h x) h) T s (gG dep h x)
theorem aPu {T : TypeId} {s x : Operand} : dJ P G dr (.call ⟨.builtin .append, #[s, x], #[T, T]⟩) d os K env h = mS P G dr (V3 P h T (aev G env s) (aev G env x)) d os K env := by
 simp only [dJ, pI, dV, qI, eG, nH, aU, bN, if_true, V3]
 split
 · cases eW P h T (aev G env s) (aev G env x) <;> rfl
 · cases eW P (freeze (dL dep h (aev G env x)) h) T (aev G env s) (gG dep h (aev G env x)) <;> rfl
def L9 (P : Program) (G : eX) (dr : Option DR) (A : Option TypeDesc) (q : Option (AV × List AObj)) (d : Option Nat) (os : List fN) (K : List AV → List AObj → Prop) (env : List AV) : Prop :=
 match A with
 | some (.int _) => mS P G dr q d os K env
 | _ => False
theorem aHg {k : IntKind} {q : Option (AV × List AObj)} : L9 P G dr (some (.int k)) q d os K env = mS P G dr q d os K env := rfl
theorem sV {T U : TypeId} (hTU : T ≠ U) {s x : Operand} : dJ P G dr (.call ⟨.builtin .append, #[s, x], #[T, U]⟩) d os K env h = L9 P G dr (P.underlying U) (oC P h T (aev G env s) (aev G env x)) d os K env := by
 simp only [dJ, pI, dV, qI, eG, nH, aU, bN, if_neg hTU]
 generalize oC P h T (aev G env s) (aev G env x) = q
 cases P.underlying U with
 | none => rfl
 | some t => cases t <;> first | rfl | (cases q <;> rfl)
theorem bLk {T : TypeId} {x : Operand} : dJ P G dr (.call ⟨.builtin .cap, #[x], #[T]⟩) d os K env h = mS P G dr (iB P h .cap #[T] [aev G env x]) d os K env := by
 simp only [dJ, pI, dV, qI, eG, nH, aU, bN]
 cases iB P h .cap #[T] [aev G env x] <;> rfl
theorem aMo {T e : TypeId} {h : List AObj} (hT : P.underlying T = some (.slice e)) : iB P h .cap #[T] [.e0] = some (.i .i64 0, h) := by simp [iB, hT]
theorem aTr {T : TypeId} {x : AV} {h : List AObj} : V3 P h T .e0 x = if pP h x then eW P h T .e0 x else eW P (freeze (dL dep h x) h) T .e0 (gG dep h x) := rfl
theorem aTq {T : TypeId} {x : AV} {h : List AObj} {id o n : Nat} {t : Bool} : V3 P h T (.hs id o n t) x = if pP h x then eW P h T (.hs id o n t) x else eW P (freeze (dL dep h x) h) T (.hs id o n t) (gG dep h x) := rfl
theorem bDr {fx : Operand} {args : Array Operand} {tys : Array TypeId} : dJ P G dr (.call ⟨.value fx, args, tys⟩) d os K env h = bBn P G dr (aev G env fx) (args.toList.map (aev G env)) d os K env h := by
 simp only [dJ, pI, dV, qI, eG, nH, bBn]
 cases aev G env fx <;> rfl
def aIy (P : Program) (G : eX) (T : Option TypeDesc) (x : AV) (h1 : List AObj) (d : Option Nat) (os : List fN) (K : List AV → List AObj → Prop) (env : List AV) : Prop :=
 match T, x with
 | some (.map _ _), .mapv ks vs => dA P G none os K (fW env d (.ptr h1.length 0)) (h1 ++ [.mit none ks vs])
 | some .string, .s l => dA P G none os K (fW env d (.ptr h1.length 0)) (h1 ++ [.sit l 0])
 | _, _ => False
theorem aYf {T : TypeId} {x : Operand} : dJ P G none (.range T x) d os K env h = aIy P G (P.underlying T) (gG dep h (aev G env x)) (freeze (dL dep h (aev G env x)) h) d os K env := by
 simp only [dJ, pI, dV, qI, eG, wS, aP, if_false, aIy]
 cases P.underlying T with
 | none => rfl
 | some t => cases t <;> first | rfl | (cases gG dep h (aev G env x) <;> rfl)
def bRh (P : Program) (G : eX) (x : AV) (d : Option Nat) (os : List fN) (K : List AV → List AObj → Prop) (env : List AV) (h : List AObj) : Prop :=
 match x with
 | .ptr id 0 => match h[id]? with
   | some (.mit _ ks vs) => (ks = [] → dA P G none os K (fW env d (.tup [.b false])) h) ∧ ∀ (j : Nat) (k v : AV), ks[j]? = some k → vs[j]? = some v → dA P G none os K (fW env d (.tup [.b true, k, v])) (h.set id (.mit (some (k, v)) (ks.eraseIdx j) (vs.eraseIdx j)))
   | _ => False
 | _ => False
theorem aIv {l : List UInt8} {h1 : List AObj} : aIy P G (some .string) (.s l) h1 d os K env = dA P G none os K (fW env d (.ptr h1.length 0)) (h1 ++ [.sit l 0]) := rfl
def aCb (P : Program) (G : eX) (x : AV) (d : Option Nat) (os : List fN) (K : List AV → List AObj → Prop) (env : List AV) (h : List AObj) : Prop :=
 match x with
 | .ptr id 0 => match h[id]? with
   | some (.sit l pos) => (l.length ≤ pos → dA P G none os K (fW env d (.tup [.b false])) h) ∧ ∀ (c : UInt8), l[pos]? = some c → (c.toNat < 128 → dA P G none os K (fW env d (.tup [.b true, .i .i64 pos, .i .i32 c.toNat])) (h.set id (.sit l (pos + 1)))) ∧
       ∀ (rn k : Nat), 128 ≤ c.toNat → 128 ≤ rn → rn ≤ 2147483647 → 1 ≤ k → dA P G none os K (fW env d (.tup [.b true, .i .i64 pos, .i .i32 rn])) (h.set id (.sit l (pos + k)))
   | _ => False
 | _ => False
theorem aYg {x : Operand} : dJ P G none (.next x true) d os K env h = aCb P G (aev G env x) d os K env h := by
 simp only [dJ, pI, dV, qI, eG, wS, aP, if_false, aCb]
 cases aev G env x with
 | ptr id o => cases o with
   | zero => simp only; cases h[id]? with
     | none => rfl
     | some ob => cases ob <;> rfl
   | succ o => rfl
 | _ => rfl
theorem Y9 {id : Nat} {l : List UInt8} {pos : Nat} (hid : h[id]? = some (.sit l pos)) (h0 : l.length ≤ pos → dA P G none os K (fW env d (.tup [.b false])) h)
   (h1 : ∀ (c : UInt8), l[pos]? = some c → c.toNat < 128 → dA P G none os K (fW env d (.tup [.b true, .i .i64 pos, .i .i32 c.toNat])) (h.set id (.sit l (pos + 1))))
   (h2 : ∀ (c : UInt8) (rn k : Nat), l[pos]? = some c → 128 ≤ c.toNat → 128 ≤ rn → rn ≤ 2147483647 → 1 ≤ k → dA P G none os K (fW env d (.tup [.b true, .i .i64 pos, .i .i32 rn])) (h.set id (.sit l (pos + k)))) : aCb P G (.ptr id 0) d os K env h := by
 unfold aCb
 simp only [hid]
 exact ⟨h0, fun c hc => ⟨h1 c hc, fun rn k => h2 c rn k hc⟩⟩
theorem bSl {f : FuncId} {a b args : List AV} : bBn P G dr (.fn f a b) args d os K env h = tV P G dr f (a ++ args ++ b) d os K env h := rfl
theorem aGm {f : FuncId} {A : List AV} {r : AV} (s : Ctr P G f (A.map (gG dep h)) r) (k : dA P G dr os K (fW env d (mat r (fH r h A)).1) (mat r (fH r h A)).2) : tV P G dr f A d os K env h := by
 cases dr
 · exact ACalls.sem s k
 · exact ⟨r, s, k⟩

def aPb (h : List AObj) : AV → AV
 | .e0 => .e0
 | a => gG dep h a
theorem aMq {f : FuncId} {A A' : List AV} {r : AV} (s : Ctr P G f A' r) (hA : A.map (aPb h) = A') (k : dA P G none os K (fW env d (mat r (fH r h A)).1) (mat r (fH r h A)).2) : tV P G none f A d os K env h := by
 subst hA
 refine ACalls.sem0 s (by simp) (fun j a a' h1 h2 => ?_) k
 rw [dO, h1] at h2
 simp only [cK, aA] at h2
 subst h2
 cases a <;> first | exact .inr ⟨rfl, rfl⟩ | exact .inl rfl

theorem bCx {v : AV} : nD P G dr (some v) d os K env h = dA P G dr os K (fW env d v) h := rfl
theorem bLc {c : Prop} [Decidable c] {v : AV} : nD P G dr (if c then some v else Option.none) d os K env h = (c ∧ dA P G dr os K (fW env d v) h) := by
 by_cases hc : c <;> simp [hc, nD]
theorem bEq {h' : List AObj} : bBe P G dr (some h') d os K env = dA P G dr os K (fW env d .u) h' := rfl
theorem aXg {v : AV} {h' : List AObj} : mS P G dr (some (v, h')) d os K env = dA P G dr os K (fW env d v) h' := rfl
theorem bCw {c : Prop} [Decidable c] {v : AV} {h' : List AObj} : mS P G dr (if c then some (v, h') else Option.none) d os K env = (c ∧ dA P G dr os K (fW env d v) h') := by
 by_cases hc : c <;> simp [hc, mS]
theorem aPv {n : Nat} {x : AV} : fW env (some n) x = env.set n x := rfl
theorem aPw {x : AV} : fW env Option.none x = env := rfl
theorem bEy {t : Nat} : aev G env (.tmp t) = env.getD t .u := rfl
theorem aRp {v : Value} : aev G env (.const v) = aWq v := rfl
theorem bAq {f : FuncId} : aev G env (.func f) = .fn f [] [] := rfl
end

attribute [go_sem] aRo bEw bEx bAn bAo
attribute [go_sem ↓] bCo aOh bCq aWx aWy bKw bCr aWz aYt aQe aJp bEa bDp aPt bDo aYl bLl aYi F6 bDq aYd aFk bLm aYk aYj bLi bQz aFl aIz aYe X8 X7 aYh aPs X6 aJa bLj aPu sV bLk bDr aYf aYg
attribute [go_sem] Int.toNat_one aHg bCp bKx W6 aHn aOl U3 aMy aGr bIv bIw aRc aRg aRd aRf aRe bSl bCx bLc bEq aXg bCw aPv aPw bEy aRp bAq
attribute [go_sem ↓] aZu
attribute [go_sem] aTg aNo aNn
attribute [go_sem] bSh bSi bSg aWq aGu aNq gP zM uA aDy apart rJ kU iE AV.one aTz aTy bKq aTw aEq iP aUn aHb pG J1 pP lZ oD bBp eD aTr aTq oC eW oE aIv bJu uZ bNx bOc aNt kQ gH kR
attribute [go_sem] List.set_cons_succ List.set_cons_zero aNv hC aU bN cK Int.ofNat_eq_natCast Int.toNat_natCast Nat.mul_one wT bX aAt cL cX aQ bD cS dF List.append_nil dU zN fD dG
attribute [go_sem] dL pers persL flat flatL mat matL fH aDx wK U4

inductive bKc where
 | k
 | j
 | v (x : AV)

def wF (F : Nat → AV) : Nat → List bKc → List AV → List AV
 | i, .k :: ps, v :: vs => v :: wF F (i + 1) ps vs
 | i, .j :: ps, _ :: vs => F i :: wF F (i + 1) ps vs
 | i, .v x :: ps, _ :: vs => x :: wF F (i + 1) ps vs
 | _, _, _ => []
def eN : List bKc → List AV → List AV → Prop
 | .k :: ps, v :: vs, w :: ws => w = v ∧ eN ps vs ws
 | .j :: ps, _ :: vs, _ :: ws => eN ps vs ws
 | .v x :: ps, _ :: vs, w :: ws => w = x ∧ eN ps vs ws
 | [], [], [] => True
 | _, _, _ => False

theorem aZo : ∀ (ps : List bKc) (E e : List AV) (i : Nat) (F : Nat → AV), (∀ m v, e[m]? = some v → F (i + m) = v) → eN ps E e → wF F i ps E = e := by
 intro ps
 induction ps with
 | nil => intro E e i F _ h; cases E <;> cases e <;> simp [eN] at h; simp [wF]
 | cons p ps ih =>
   intro E e i F hF h
   cases E with
   | nil => cases e <;> cases p <;> simp [eN] at h
   | cons v vs =>
     cases e with
     | nil => cases p <;> simp [eN] at h
     | cons w ws =>
       have hF' : ∀ m v, ws[m]? = some v → F (i + 1 + m) = v := fun m u hm => by have := hF (m + 1) u (by simpa using hm); rw [← this]; congr 1; omega
       cases p with
       | k => obtain ⟨h1, h2⟩ := h; simp only [wF]; rw [ih vs ws _ F hF' h2, h1]
       | j => simp only [wF]; rw [ih vs ws _ F hF' h]; have := hF 0 w rfl; simpa using this
       | v x => obtain ⟨h1, h2⟩ := h; simp only [wF]; rw [ih vs ws _ F hF' h2, h1]

section
variable {P : Program} {G : eX} {env : List AV} {h : List AObj} {Q : Exit → List AV → List AObj → Prop}

theorem bP {c : kG} {S : Type} (ps : S → List bKc) (hp : S → List AObj) (I : S → Prop) (μ : S → Nat) (s0 : S) (h0 : I s0) (hh : h = hp s0) (k0 : eN (ps s0) env env)
   (round : ∀ (s : S) (j : Nat → AV), I s → awx P G c (zV (fun e' h' => ∃ s', I s' ∧ μ s' < μ s ∧ h' = hp s' ∧ eN (ps s') env e') Q) (wF j 0 (ps s) env) (hp s)) : awx P G (.loop c) Q env h := by
 refine aWw (fun s e h' => I s ∧ h' = hp s ∧ eN (ps s) env e) μ s0 ⟨h0, hh, k0⟩ ?_
 rintro s e h' ⟨hI, rfl, hf⟩
 have he : wF (fun n => e.getD n .u) 0 (ps s) env = e := aZo _ env e 0 _ (fun m v hv => by simp [List.getD, hv]) hf
 have r := round s (fun n => e.getD n .u) hI
 rw [he] at r
 have mono : (fun e2 h2 => ∃ s', I s' ∧ μ s' < μ s ∧ h2 = hp s' ∧ eN (ps s') env e2) = fun e2 h2 => ∃ s', (I s' ∧ h2 = hp s' ∧ eN (ps s') env e2) ∧ μ s' < μ s := by
   funext e2 h2
   exact propext ⟨fun ⟨s', a, b, c, d⟩ => ⟨s', ⟨a, c, d⟩, b⟩, fun ⟨s', ⟨a, c, d⟩, b⟩ => ⟨s', a, b, c, d⟩⟩
 rw [mono] at r
 exact r

end

section
variable {P : Program} {G : eX} {env : List AV} {h : List AObj} {Q : Exit → List AV → List AObj → Prop}
theorem eJ {c : kG} {S : Type} (ps : S → List bKc) (hp : S → List AObj) (I : S → Prop) (μ : S → Nat) (s0 : S) (g0 : List AObj) (h0 : I s0) (hh : h = hp s0 ++ g0) (k0 : eN (ps s0) env env)
   (round : ∀ (s : S) (g : List AObj) (j : Nat → AV), I s → awx P G c (zV (fun e' h' => ∃ s' g', I s' ∧ μ s' < μ s ∧ h' = hp s' ++ g' ∧ eN (ps s') env e') Q) (wF j 0 (ps s) env) (hp s ++ g)) : awx P G (.loop c) Q env h := by
 refine bP (S := S × List AObj) (fun s => ps s.1) (fun s => hp s.1 ++ s.2) (fun s => I s.1) (fun s => μ s.1) (s0, g0) h0 hh k0 ?_
 rintro ⟨s, g⟩ j hI
 have r := round s g j hI
 have mono : (fun (e2 : List AV) (h2 : List AObj) => ∃ s' g', I s' ∧ μ s' < μ s ∧ h2 = hp s' ++ g' ∧ eN (ps s') env e2) = fun e2 h2 => ∃ s' : S × List AObj, I s'.1 ∧ μ s'.1 < μ s ∧ h2 = hp s'.1 ++ s'.2 ∧ eN (ps s'.1) env e2 := by
   funext e2 h2
   exact propext ⟨fun ⟨s', g', a, b, c, d⟩ => ⟨(s', g'), a, b, c, d⟩, fun ⟨s', a, b, c, d⟩ => ⟨s'.1, s'.2, a, b, c, d⟩⟩
 rw [mono] at r
 exact r
end

section
variable {α : Type} {f : α → List AV} {m : Nat}
theorem mR (hf : ∀ x, (f x).length = m) : ∀ (l : List α), (l.flatMap f).length = l.length * m
 | [] => by simp
 | x :: l => by rw [cV, aH, hf, mR hf l, aQ, Nat.succ_mul, nI]
theorem R8 (hf : ∀ x, (f x).length = m) : ∀ (l : List α) (k : Nat), (l.flatMap f).drop (k * m) = (l.drop k).flatMap f
 | l, 0 => by simp
 | [], k + 1 => by simp
 | x :: l, k + 1 => by
   rw [cV, Nat.succ_mul, nI, ← zP, List.drop_left' (hf x), R8 hf l k, fD]
theorem R7 (hf : ∀ x, (f x).length = m) : ∀ (l : List α) (k : Nat), (l.flatMap f).take (k * m) = (l.take k).flatMap f
 | l, 0 => by simp
 | [], k + 1 => by simp
 | x :: l, k + 1 => by
   rw [cV, Nat.succ_mul, nI, List.take_append, hf, Nat.add_sub_cancel_left, R7 hf l k, dU, cV, aJ (by rw [hf]; omega)]
theorem tM (hf : ∀ x, (f x).length = m) (l : List α) (k : Nat) : ((l.flatMap f).drop (k * m)).take m = ((l[k]?).map f).getD [] := by
 rw [R8 hf]
 have : (l.drop k).flatMap f = ((l[k]?).map f).getD [] ++ (l.drop (k + 1)).flatMap f := by
   cases hk : l[k]? with
   | none =>
     have hle := List.getElem?_eq_none_iff.1 hk
     rw [bF hle, bF (by omega)]; simp
   | some x =>
     obtain ⟨hlt, hx⟩ := dZ.1 hk
     rw [bO hlt, cV, hx]; simp
 rw [this]
 cases hk : l[k]? with
 | none =>
   have hle := List.getElem?_eq_none_iff.1 hk
   rw [bF (by omega)]; simp
 | some x => simp [List.take_left' (hf x)]
theorem aCp (hf : ∀ x, (f x).length = m) (l : List α) (k : Nat) {j : Nat} (hj : j < m) : (l.flatMap f)[k * m + j]? = (l[k]?).bind fun x => (f x)[j]? := by
 have h1 : (l.flatMap f)[k * m + j]? = ((((l.flatMap f).drop (k * m)).take m))[j]? := by
   rw [List.getElem?_take_of_lt hj, dE]
 rw [h1, tM hf]
 cases hk : l[k]? with
 | none => simp
 | some x => simp
end
end Go.Vo

namespace Go.Vo
section
variable {P : Program} {G : eX} {dr : Option DR} {d : Option Nat} {os : List fN} {K : List AV → List AObj → Prop} {env : List AV} {h : List AObj} {Q : Exit → List AV → List AObj → Prop}
theorem aVc {op : Op} {x : Bool} (h1 : x = true → dJ P G dr op d os K env h) (h2 : x = false → dA P G dr os K (fW env d (.tup [])) h) : kO P G dr (.b x) true op d os K env h := yI h1 h2
theorem aKt {op : Op} {x : Bool} (h1 : x = false → dJ P G dr op d os K env h) (h2 : x = true → dA P G dr os K (fW env d (.tup [])) h) : kO P G dr (.b x) false op d os K env h := yI h1 h2
end
theorem aE {h : List AObj} {x r : AV} (hr : r = x) (hp : pers x = true) : Fin h x r := .inl ⟨hr, hp⟩
attribute [go_sem] true_and and_true if_true if_false aP aA exists_eq_left' reduceCtorEq or_true false_or true_or or_false
attribute [go_sem] wF eN
theorem wrap64 {x : Int} (h1 : -9223372036854775808 ≤ x) (h2 : x ≤ 9223372036854775807) : IntKind.i64.wrap x = x := IntWalk.i64_in _ (by omega)
theorem aXq {s : List UInt8} : decide (s = []) = decide (s.length = 0) := by cases s <;> simp
attribute [go_sem] wrap64 aXq Int.toNat_zero Bool.not_true Bool.not_false
theorem aNl {d : Nat} : tY Option.none d = some d := rfl
theorem aTo {k : IntKind} {n : Int} {d : Nat} (h : 0 ≤ n) : tY (some (.i k n)) d = some n.toNat := if_pos h
theorem aEo {m : Nat} : ((m : Int) - 1).toNat = m - 1 := by omega
theorem aEn {m : Nat} : ((m : Int) - 2).toNat = m - 2 := by omega
theorem W5 {m : Nat} (h : 2 ≤ m) : ((m : Int) - 2 + 1).toNat = m - 1 := by omega
attribute [go_sem] aNl aTo aEo aEn W5 Option.map_none wS Option.isSome_some iI gM Bool.and_false Bool.false_and Bool.true_and Bool.and_true
theorem aKb {l : List (List UInt8)} {k : Nat} (h : k < l.length) : (l.map AV.s)[k]? = some (.s (l.getD k [])) := by simp [h]
theorem Q1 {q : IntKind} {l : List Int} {k : Nat} (h : k < l.length) : (l.map (AV.i q))[k]? = some (.i q (l.getD k 0)) := by simp [h]
attribute [go_sem] aKb Q1
theorem H6 {h : List AObj} {id sz n m : Nat} {cells cs : List AV} (hid : h[id]? = some (.arr false sz cs)) (hm : m = n) (hc : cells = cs) (hl : cs.length = n * sz) (hp : persL cs = true) : Fin h (.hs id 0 n false) (.own sz cells m) := by
 subst hm hc
 refine .inr ⟨⟨rfl, rfl, cells, hid, by omega, ?_, hp⟩, by simp [bS], by simp [bS, iA]⟩
 rw [dG, aJ (by omega)]
theorem aOq {α : Type} {l : List α} {n : Nat} (h : l.length ≤ n) : l.take n = l := aJ h
attribute [go_sem] fL
def zW (h : List AObj) (a : AV) : AV :=
 let L := fun l => if persL l then l else l.map (gG 8 h)
 match a with
 | .e0 => .sl [] 0
 | .hs id off n _ => match h[id]? with
   | some (.arr _ sz cells) => if off + n * sz ≤ cells.length then .sl (L ((cells.drop off).take (n * sz))) n else .u
   | _ => .u
 | .ptr id off => match h[id]? with
   | some (.box _ cells) => .box (L cells) off
   | some (.arr _ _ cells) => .box (L cells) off
   | _ => .u
 | .mp id => match h[id]? with
   | some (.map _ ks vs) => .mapv (L ks) (L vs)
   | _ => .u
 | .fn f a b => .fn f (L a) (L b)
 | .agg cs => .agg (L cs)
 | .tup vs => .tup (L vs)
 | _ => .u
theorem iT {h : List AObj} {a : AV} : gG dep h a = if pers a then a else zW h a := rfl
theorem iO {l : List (List UInt8)} : persL (l.map AV.s) = true := by
 induction l with
 | nil => rfl
 | cons x l ih => simp [persL, pers, ih]
theorem fI {k : IntKind} {l : List Int} : persL (l.map (AV.i k)) = true := by
 induction l with
 | nil => rfl
 | cons x l ih => simp [persL, pers, ih]
theorem aW {P : Program} {G : eX} {dr : Option DR} {d : Option Nat} {os : List fN} {K : List AV → List AObj → Prop} {env : List AV} {h : List AObj} {f : FuncId} {A A' : List AV} {r : AV} (s : Ctr P G f A' r) (hA : A.map (gG dep h) = A')
   (k : dA P G dr os K (fW env d (mat r (fH r h A)).1) (mat r (fH r h A)).2) : tV P G dr f A d os K env h := aGm (hA ▸ s) k
theorem aOp {α β : Type} {f : α → β} {l : List α} {k : Nat} : (l.map f).take k = (l.take k).map f := List.map_take.symm
theorem aRt {α β : Type} {f : α → β} {l : List α} {k : Nat} : (l.map f).drop k = (l.drop k).map f := List.map_drop.symm
theorem aQu {α : Type} {l : List α} {k : Nat} (h : k ≤ l.length) : (l.take k).length = k := by simp; omega
attribute [go_sem] iT zW iO fI aOp aRt aQu List.length_drop Nat.sub_zero
attribute [go_sem] aOq
theorem bAe {l : List (List UInt8)} : flatL (l.map AV.s) = true := by
 induction l with
 | nil => rfl
 | cons x l ih => simp [flatL, flat, ih]
theorem bAf {k : IntKind} {l : List Int} : flatL (l.map (AV.i k)) = true := by
 induction l with
 | nil => rfl
 | cons x l ih => simp [flatL, flat, ih]
attribute [go_sem] aZ bAe bAf iF jW cV freeze AObj.fz
section
variable {P : Program} {G : eX} {N : DR} {env : List AV}
theorem bBg {T : TypeId} {x : Operand} : aAi G N (.load T x) env = pE N (aev G env x) := by simp [aAi, Op.operands, tA]
theorem bIy {x : Operand} : aAi G N (.nilCheck x) env = pE N (aev G env x) := by simp [aAi, Op.operands, tA]
theorem T7 {T : TypeId} {x : Operand} {f : Nat} : aAi G N (.fieldAddr T x f) env = pE N (aev G env x) := by simp [aAi, Op.operands, tA]
theorem aMl {T : TypeId} {s x : Operand} : aAi G N (.call ⟨.builtin .append, #[s, x], #[T, T]⟩) env = vP N (aev G env s) := by simp [aAi]
variable {P : Program} {d : Option Nat} {os : List fN} {K : List AV → List AObj → Prop} {h : List AObj}
theorem bEk {T : TypeId} {x : Operand} : ckV P G N (.load T x) d os K env h = (pE N (aev G env x) ∧ dJ P G (some N) (.load T x) d os K env h) := by rw [← bBg (T := T)]; rfl
theorem aZt {T : TypeId} {a x : Operand} : ckV P G N (.store T a x) d os K env h = (vP N (aev G env a) ∧ dJ P G (some N) (.store T a x) d os K env h) := rfl
theorem bLv {x : Operand} : ckV P G N (.nilCheck x) d os K env h = (pE N (aev G env x) ∧ dJ P G (some N) (.nilCheck x) d os K env h) := by rw [← bIy]; rfl
theorem Z6 {T : TypeId} {x : Operand} {f : Nat} : ckV P G N (.fieldAddr T x f) d os K env h = (pE N (aev G env x) ∧ dJ P G (some N) (.fieldAddr T x f) d os K env h) := by rw [← T7 (T := T) (f := f)]; rfl
theorem aQx {T : TypeId} {s x : Operand} : ckV P G N (.call ⟨.builtin .append, #[s, x], #[T, T]⟩) d os K env h = (vP N (aev G env s) ∧ dJ P G (some N) (.call ⟨.builtin .append, #[s, x], #[T, T]⟩) d os K env h) := by rw [← aMl (T := T) (x := x)]; rfl
theorem aYz {n id : Nat} : DR.old ⟨n, []⟩ id = (id < n) := rfl
theorem aYy {n x id : Nat} : DR.old ⟨n, [x]⟩ id = (id < n ∧ ¬ id = x) := by simp [DR.old]
theorem aZn {n id : Nat} : DR.mut ⟨n, []⟩ id = (n ≤ id) := rfl
theorem aZm {n x id : Nat} : DR.mut ⟨n, [x]⟩ id = (n ≤ id ∨ id = x) := by simp [DR.mut]
end
theorem aZz {α : Type} {l m : List α} {n : Nat} : (l ++ m)[l.length + n]? = m[n]? := by rw [aI (by omega)]; congr 1; omega
theorem H1 {α : Type} {l m : List α} : (l ++ m)[l.length]? = m[0]? := by rw [aI (by omega)]; congr 1; omega
theorem aXu {α : Type} {l m : List α} {n : Nat} {a : α} : (l ++ m).set (l.length + n) a = l ++ m.set n a := by rw [rA _ _ (by omega)]; congr 2; omega
theorem aPd {α : Type} {l m : List α} {a : α} : (l ++ m).set l.length a = l ++ m.set 0 a := by rw [rA _ _ (by omega)]; congr 2; omega
attribute [go_sem] aZz H1 aXu aPd bT aH
attribute [go_sem ↓] bEk aZt bLv Z6 aQx
attribute [go_sem] pE vP AV.refs aYz aYy aZn aZm
def eP (sz N : Nat) (g : List AObj) (out : AV) (cells : List AV) (n : Nat) : Prop :=
 (out = .e0 ∧ cells = [] ∧ n = 0) ∨ ∃ i, out = .hs (i + N) 0 n false ∧ g[i]? = some (.arr false sz cells) ∧ cells.length = n * sz
theorem kY {sz N : Nat} {g : List AObj} : eP sz N g .e0 [] 0 := .inl ⟨rfl, rfl, rfl⟩
theorem eP.more {sz N : Nat} {g : List AObj} {out : AV} {cells : List AV} {n : Nat} (h : eP sz N g out cells n) (g' : List AObj) : eP sz N (g ++ g') out cells n := by
 rcases h with h | ⟨i, h1, h2, h3⟩
 · exact .inl h
 · exact .inr ⟨i, h1, by rw [aD (aO h2)]; exact h2, h3⟩
theorem eP.len {sz N : Nat} {g : List AObj} {out : AV} {cells : List AV} {n : Nat} (h : eP sz N g out cells n) : cells.length = n * sz := by
 rcases h with ⟨_, h2, h3⟩ | ⟨i, h1, h2, h3⟩
 · simp [h2, h3]
 · exact h3

section
variable {P : Program} {G : eX} {dr : Option DR} {d : Option Nat} {os : List fN} {K : List AV → List AObj → Prop} {env : List AV}
theorem aNh {pre g : List AObj} {T e by_ : Nat} {z : List AV} {out x : AV} {cells news : List AV} {n m : Nat} (ho : eP z.length pre.length g out cells n) (hT : eE P T = some e) (hz : zeroOf P e = some z) (hs : jR P e = some z.length) (hb : aDn P e = some by_)
   (hpos : 0 < z.length) (hp : pP (pre ++ g) x = true) (hx : J1 (pre ++ g) z.length x = some (news, m)) (hbd : (n + m) * by_ ≤ 140737488355328 ∧ n + m ≤ 140737488355328)
   (k : ∀ out' g', eP z.length pre.length g' out' (cells ++ news) (n + m) → (∀ (i : Nat) (o : AObj), g[i]? = some o → (∀ c : List AV, o ≠ .arr false z.length c) → g'[i]? = some o) → dA P G dr os K (fW env d out') (pre ++ g')) : mS P G dr (V3 P (pre ++ g) T out x) d os K env := by
 have hm : news.length = m * z.length := by
   cases x with
   | e0 => simp only [J1, aA, aK] at hx; obtain ⟨rfl, rfl⟩ := hx; simp
   | sl c q =>
     simp only [J1] at hx
     split at hx
     · simp only [aA, aK] at hx; obtain ⟨rfl, rfl⟩ := hx; assumption
     · cases hx
   | hs id off q t =>
     simp only [J1] at hx
     split at hx
     · split at hx
       · rename_i hc
         simp only [aA, aK] at hx; obtain ⟨rfl, rfl⟩ := hx
         rw [jV, List.length_drop]; omega
       · cases hx
     · cases hx
   | _ => simp [J1] at hx
 have e1 : V3 P (pre ++ g) T out x = eW P (pre ++ g) T out x := by simp [V3, hp]
 rw [e1]
 rcases ho with ⟨rfl, rfl, rfl⟩ | ⟨i, rfl, hi, hl⟩
 · have e2 : eW P (pre ++ g) T .e0 x = some (.hs (pre ++ g).length 0 m false, (pre ++ g) ++ [.arr false z.length news]) := by
     simp only [eW, hT, hz, hb, hpos, hs, hx, and_self, if_true, true_and]
     rw [if_pos (by simpa using hbd)]
   rw [e2]
   show dA P G dr os K _ _
   rw [bT]
   refine k _ _ (.inr ⟨g.length, ?_, by simp, by simpa using hm⟩) (fun i o ho _ => by rw [aD (aO ho)]; exact ho)
   simp [nI]
 · have hlt := aO hi
   have hg : (pre ++ g)[i + pre.length]? = some (.arr false z.length cells) := by
     rw [aI (by omega)]; simpa using hi
   have e2 : eW P (pre ++ g) T (.hs (i + pre.length) 0 n false) x = some (.hs (pre ++ g).length 0 (n + m) false, (pre ++ g).set (i + pre.length) .dead ++ [.arr false z.length (cells ++ news)]) := by
     simp only [eW, hT, hz, hb, hpos, hs, hx, hg, and_self, if_true, true_and, hl, bX, aZ, hbd, aP, if_false, dG]
   rw [e2]
   show dA P G dr os K _ _
   rw [rA _ _ (by omega), bT, Nat.add_sub_cancel]
   refine k _ _ (.inr ⟨g.length, ?_, by simp, ?_⟩) (fun j o hj hn => ?_)
   · simp [nI]
   · rw [aH, hl, hm, Nat.add_mul]
   · have hne : i ≠ j := by
       rintro rfl
       rw [hi] at hj; cases hj
       exact hn _ rfl
     rw [aD (by simpa using aO hj), cW hne]
     exact hj
theorem eV {h pre g more : List AObj} {T e by_ sz N : Nat} {z : List AV} {out x : AV} {cells news : List AV} {n m : Nat} (ho : eP sz N g out cells n) (hN : pre.length = N) (hh : h = pre ++ (g ++ more)) (hT : eE P T = some e) (hz : zeroOf P e = some z) (hs : jR P e = some sz) (hb : aDn P e = some by_)
   (hzl : z.length = sz) (hpos : 0 < sz) (hp : pP h x = true) (hx : J1 h sz x = some (news, m)) (hbd : (n + m) * by_ ≤ 140737488355328 ∧ n + m ≤ 140737488355328)
   (k : ∀ out' g', eP sz N g' out' (cells ++ news) (n + m) → (∀ (i : Nat) (o : AObj), g[i]? = some o → (∀ c : List AV, o ≠ .arr false sz c) → g'[i]? = some o) → dA P G dr os K (fW env d out') (pre ++ g')) : mS P G dr (V3 P h T out x) d os K env := by
 subst hh hzl hN
 exact aNh (ho.more more) hT hz hs hb hpos hp hx hbd (fun out' g' h1 h2 => k out' g' h1 (fun i o hi hn => h2 i o (by rw [aD (aO hi)]; exact hi) hn))
end
theorem uR {pre g : List AObj} {sz n : Nat} {out : AV} {cells : List AV} (ho : eP sz pre.length g out cells n) (hp : persL cells = true) : Fin (pre ++ g) out (.own sz cells n) := by
 rcases ho with ⟨rfl, rfl, rfl⟩ | ⟨i, rfl, hi, hl⟩
 · exact .inr ⟨⟨rfl, rfl⟩, by simp [bS], by simp [bS]⟩
 · exact H6 (by rw [aI (by omega)]; simpa using hi) rfl rfl hl hp

def aPa (k : Nat) (h : List AObj) (a : AV) : AV :=
 let L := fun l => if persL l then l else l.map (gG k h)
 match a with
 | .e0 => .sl [] 0
 | .hs id off n _ => match h[id]? with
   | some (.arr _ sz cells) => if off + n * sz ≤ cells.length then .sl (L ((cells.drop off).take (n * sz))) n else .u
   | _ => .u
 | .ptr id off => match h[id]? with
   | some (.box _ cells) => .box (L cells) off
   | some (.arr _ _ cells) => .box (L cells) off
   | _ => .u
 | .mp id => match h[id]? with
   | some (.map _ ks vs) => .mapv (L ks) (L vs)
   | _ => .u
 | .fn f a b => .fn f (L a) (L b)
 | .agg cs => .agg (L cs)
 | .tup vs => .tup (L vs)
 | _ => .u
def aBl (k : Nat) (h : List AObj) (a : AV) : List Nat :=
 let L := fun l => if persL l then [] else l.flatMap (dL k h)
 match a with
 | .hs id off n _ => match h[id]? with
   | some (.arr _ sz cells) => id :: L ((cells.drop off).take (n * sz))
   | _ => []
 | .ptr id off => match h[id]? with
   | some (.box _ cells) => id :: L cells
   | some (.arr _ _ cells) => id :: L cells
   | _ => []
 | .mp id => match h[id]? with
   | some (.map _ ks vs) => id :: (L ks ++ L vs)
   | _ => []
 | .fn f a b => L a ++ L b
 | .agg cs => L cs
 | .tup vs => L vs
 | _ => []
theorem xO {h : List AObj} {a : AV} : dL dep h a = if pers a then [] else aBl 8 h a := rfl
theorem aBd {h : List AObj} {a : AV} : gG 8 h a = if pers a then a else aPa 7 h a := rfl
theorem bSc {a : AObj} {l : List AObj} {f : AObj → AObj} : (a :: l).modify 0 f = f a :: l := rfl
theorem bSb {a : AObj} {l : List AObj} {n : Nat} {f : AObj → AObj} : (a :: l).modify (n + 1) f = a :: l.modify n f := rfl
theorem aVd {l m : List AObj} {n : Nat} {f : AObj → AObj} : (l ++ m).modify (l.length + n) f = l ++ m.modify n f := by
 apply List.ext_getElem?
 intro i
 rw [aHe]
 by_cases h : i < l.length
 · rw [aD h, aD h]
   have : l.length + n ≠ i := by omega
   simp [this]
 · rw [aI (by omega), aI (by omega), aHe]
   by_cases e : l.length + n = i
   · subst e; simp
   · have : n ≠ i - l.length := by omega
     simp [e, this]
theorem bAb {l m : List AObj} {f : AObj → AObj} : (l ++ m).modify l.length f = l ++ m.modify 0 f := by
 have := aVd (l := l) (m := m) (n := 0) (f := f); simpa using this
attribute [go_sem] xO aBd aPa aBl bSc bSb aVd bAb
end Go.Vo

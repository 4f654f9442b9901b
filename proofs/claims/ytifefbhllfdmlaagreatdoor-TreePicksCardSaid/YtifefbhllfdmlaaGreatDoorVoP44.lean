/-
  The abstract layer, part Pd: a statement of open order whose last operation comes behind all others: that operation may change what is there. It speaks of any program that mixes its orders; no condition.
-/
import Derived.Test.YtifefbhllfdmlaaGreatDoorVoP43
set_option linter.unusedVariables false
set_option linter.unusedSimpArgs false
set_option linter.constructorNameAsVariable false
namespace Go.Vo
def aFv (pre : Array Oper) (o : Oper) : Bool :=
 ((anyPre o).all fun e => decide (e < pre.size)) &&
 (List.range pre.size).all fun i => (anyPre o).contains i || (List.range pre.size).any fun j => decide (i < j) && match pre[j]? with
   | some p => (anyPre p).contains i
   | Option.none => false
def Q7 (pre : Array Oper) : Bool := pre.toList.all fun p => match p.guard with
 | some (j, _) => decide (j < pre.size)
 | Option.none => true
section
variable {P : Program} {pre : Array Oper} {o : Oper} {Q : Exit → Act → World → Prop}
def Cl (pre : Array Oper) (l : Array Bool) : Prop := ∀ i p, pre[i]? = some p → l.getD i false = true → ∀ e ∈ anyPre p, l.getD e false = true
def K0 (P : Program) (pre : Array Oper) (o : Oper) (Q : Exit → Act → World → Prop) : Exit → Act → World → Prop
 | .normal, a, w => wpOp P (pre.push o) Q pre.size (fun a w => Q .normal a w) a w
 | x, a, w => Q x a w
theorem nD {l : Array Bool} {i : Nat} {d : Bool} (h : i < l.size) : (l.push false).getD i d = l.getD i d := by
 simp [Array.getD, h, Array.getElem_push, Nat.lt_succ_of_lt h]
theorem aJc {l : Array Bool} {d : Bool} : (l.push false).getD l.size d = false := by simp [Array.getD]
theorem G9 {i : Nat} (h : i < pre.size) : (pre.push o)[i]? = pre[i]? := by rw [fV]; rw [if_neg (by omega)]
theorem aJe {l : Array Bool} (hlt : ∀ i p, pre[i]? = some p → ∀ e ∈ anyPre p, e < i) (hl : l.size = pre.size) (hr : Region.ready .any pre l = []) : ∀ i, i < pre.size → l.getD i false = true := by
 intro i
 induction i using Nat.strongRecOn with
 | ind i ih =>
   intro hi
   have ho : pre[i]? = some pre[i] := by simp [hi]
   have hn : i ∉ Region.ready .any pre l := by rw [hr]; simp
   rw [mem_ready] at hn
   have hli : i < l.size := by omega
   cases hc : l[i] with
   | true => simp [Array.getD, hli, hc]
   | false =>
     refine absurd ⟨by simp [Array.getD, hli, hc], pre[i], ho, fun d hd hb => ?_⟩ hn
     have hlt' := hlt i pre[i] ho d.on (jT.2 ⟨d, hd, hb, rfl⟩)
     exact ih d.on hlt' (by omega)
theorem aQv {l : Array Bool} (hL : aFv pre o = true) (hc : Cl pre l) (hd : ∀ e ∈ anyPre o, l.getD e false = true) : ∀ i, i < pre.size → l.getD i false = true := by
 simp only [aFv, aB, aU, gU, bO] at hL
 have key : ∀ k i, pre.size - i ≤ k → i < pre.size → l.getD i false = true := by
   intro k
   induction k with
   | zero => intro i h1 h2; omega
   | succ k ih =>
     intro i h1 h2
     rcases hL.2 i h2 with h | h
     · exact hd i (iJ.1 h)
     · rw [List.any_eq_true] at h
       obtain ⟨j, hj, hj2⟩ := h
       rw [gU] at hj
       simp only [aB, decide_eq_true_eq] at hj2
       have hp : pre[j]? = some pre[j] := by simp [hj]
       rw [hp] at hj2
       exact hc j _ hp (ih j (by omega) hj) i (iJ.1 hj2.2)
 exact fun i h => key _ i (bG _) h
theorem A4 {l : Array Bool} {i : Nat} (hlt : ∀ i p, pre[i]? = some p → ∀ e ∈ anyPre p, e < i) (hl : l.size = pre.size) (hi : i < pre.size) : i ∈ Region.ready .any (pre.push o) (l.push false) ↔ i ∈ Region.ready .any pre l := by
 rw [mem_ready, mem_ready, G9 hi, nD (by omega)]
 have ho : pre[i]? = some pre[i] := by simp [hi]
 rw [ho]
 have h1 : ∀ d ∈ pre[i].after, Region.binds .any d = true → (l.push false).getD d.on false = l.getD d.on false := fun d hd hb => nD (by have := hlt i _ ho d.on (jT.2 ⟨d, hd, hb, rfl⟩); omega)
 constructor
 · rintro ⟨a, p, hp, hall⟩; cases hp; exact ⟨a, _, rfl, fun d hd hb => (h1 d hd hb).symm.trans (hall d hd hb)⟩
 · rintro ⟨a, p, hp, hall⟩; cases hp; exact ⟨a, _, rfl, fun d hd hb => (h1 d hd hb).trans (hall d hd hb)⟩
theorem aTl {ops : Array Oper} {l : Array Bool} (hl : ∀ i, i < ops.size → l.getD i true = true) {a : Act} {w : World} (q : Q .normal a w) : ∀ fuel, wpAny P .any ops Q fuel l a w := by
 have hr : Region.ready .any ops l = [] := by
   rw [qY]
   intro i hi
   obtain ⟨h1, p, hp, _⟩ := mem_ready.1 hi
   have := hl i (aN.1 hp).1
   rw [h1] at this; cases this
 intro fuel
 cases fuel with
 | zero => exact ⟨hr, q⟩
 | succ f => exact ⟨fun _ => q, fun i hi => by rw [hr] at hi; cases hi⟩
theorem V8 (hg : Q7 pre = true) {i : Nat} {p : Oper} (hp : pre[i]? = some p) (ts : Array Value) : Region.wanted p (yielded (pre.push o) ts) = Region.wanted p (yielded pre ts) := by
 simp only [Q7, aU] at hg
 have := hg p (Array.mem_toList_iff.2 (Array.mem_of_getElem? hp))
 unfold Region.wanted
 cases hq : p.guard with
 | none => rfl
 | some q =>
   obtain ⟨j, b⟩ := q
   rw [hq] at this
   simp only [decide_eq_true_eq] at this
   simp only [yielded, G9 this]
theorem aEs {o : Oper} {a : Act} {w : World} {K : Act → World → Prop} {Q Q' : Exit → Act → World → Prop} (hQ : ∀ x a w, x ≠ .normal → Q x a w → Q' x a w) (hL : LetsOut Q → LetsOut Q') (h : o.wp P a w K Q) : o.wp P a w K Q' := by
 unfold Oper.wp at *
 generalize (execOp a.eval o).run P w = r at *
 cases r with
 | ok n w' =>
   cases n <;> simp only [Oper.upon] at h ⊢ <;> first
     | exact h
     | exact Calls.mono h (fun e w'' he => by cases e <;> first | exact he | exact hQ _ _ _ (by simp) he | exact hL he)
 | halt x w' => cases x <;> simp only [Oper.upon] at h ⊢ <;> first | exact h | exact hQ _ _ _ (by simp) h
theorem aNs (hlt : ∀ i p, pre[i]? = some p → ∀ e ∈ anyPre p, e < i) (hL : aFv pre o = true) (hg : Q7 pre = true) :
   ∀ (fuel : Nat) (l : Array Bool), l.size = pre.size → Cl pre l → ∀ (a : Act) (w : World), wpAny P .any pre (K0 P pre o Q) fuel l a w → wpAny P .any (pre.push o) Q (fuel + 1) (l.push false) a w := by
 have hn : (pre.push o)[pre.size]? = some o := by simp
 have hdl : ∀ e ∈ anyPre o, e < pre.size := by
   simp only [aFv, aB, aU, decide_eq_true_eq] at hL
   exact hL.1
 have fin : ∀ (fuel : Nat) (l : Array Bool), l.size = pre.size → (∀ i, i < pre.size → l.getD i false = true) → ∀ (a : Act) (w : World), K0 P pre o Q .normal a w → wpAny P .any (pre.push o) Q (fuel + 1) (l.push false) a w := by
   intro fuel l hl hall a w hB
   have hmem : pre.size ∈ Region.ready .any (pre.push o) (l.push false) := by
     rw [mem_ready]
     refine ⟨by rw [← hl]; exact aJc, o, hn, fun d hd hb => ?_⟩
     have := hdl d.on (jT.2 ⟨d, hd, hb, rfl⟩)
     rw [nD (by omega)]
     exact hall _ this
   refine ⟨fun hr => (by rw [hr] at hmem; cases hmem), fun i hi => ?_⟩
   have hlt2 : i < pre.size + 1 := by
     obtain ⟨_, p, hp, _⟩ := mem_ready.1 hi
     have := (aN.1 hp).1
     simpa using this
   by_cases hin : i < pre.size
   · have h1 := (mem_ready.1 hi).1
     rw [nD (by omega)] at h1
     have h2 := hall i hin
     have hli : i < l.size := by omega
     simp [Array.getD, hli] at h1 h2
     rw [h1] at h2; cases h2
   · obtain rfl : i = pre.size := by omega
     refine wpOp_mono (fun a w q => aTl (fun k hk => ?_) q fuel) hB
     rw [Array.size_push] at hk
     by_cases hk2 : k < pre.size
     · have h2 := hall k hk2
       have hkl : k < l.size := by omega
       have : ((l.push false).setIfInBounds pre.size true).getD k true = l.getD k false := by
         rw [getD_set_ne true (by omega), nD hkl]
         simp [Array.getD, hkl]
       rw [this]; exact h2
     · obtain rfl : k = pre.size := by omega
       rw [← hl]; simp [Array.getD]
 intro fuel
 induction fuel with
 | zero =>
   intro l hl hc a w h
   exact fin 0 l hl (aJe hlt hl h.1) a w h.2
 | succ fuel ih =>
   intro l hl hc a w h
   by_cases hr : Region.ready .any pre l = []
   · exact fin (fuel + 1) l hl (aJe hlt hl hr) a w (h.1 hr)
   · refine ⟨fun hr' => ?_, fun i hi => ?_⟩
     · obtain ⟨k, hk⟩ := List.exists_mem_of_ne_nil _ hr
       have hkl : k < pre.size := by obtain ⟨_, p, hp, _⟩ := mem_ready.1 hk; exact (aN.1 hp).1
       have := (A4 (o := o) hlt hl hkl).2 hk
       rw [hr'] at this; cases this
     · have hlt2 : i < pre.size + 1 := by
         obtain ⟨_, p, hp, _⟩ := mem_ready.1 hi
         have := (aN.1 hp).1
         simpa using this
       by_cases hin : i < pre.size
       · have hi' := (A4 hlt hl hin).1 hi
         have h2 := h.2 i hi'
         have hp : pre[i]? = some pre[i] := by simp [hin]
         have hli : i < l.size := by omega
         have hset : (l.push false).setIfInBounds i true = (l.setIfInBounds i true).push false := by
           apply Array.ext
           · simp
           · intro k h1 h2
             have q1 := cJ (xs := l.push false) (i := i) (j := k) (a := true)
             rw [bP h1] at q1
             have q2 := fV (xs := l.setIfInBounds i true) (x := false) (i := k)
             rw [bP h2] at q2
             apply gG
             rw [q1, q2, cJ, fV]
             simp only [Array.size_push, Array.size_setIfInBounds]
             by_cases hik : i = k
             · subst hik; rw [if_pos rfl, if_pos (by omega), if_neg (by omega), if_pos rfl, if_pos hli]
             · rw [if_neg hik]
               by_cases hkl : k = l.size
               · rw [if_pos hkl, if_pos hkl]
               · rw [if_neg hkl, if_neg hkl, if_neg hik]
         have K : ∀ a w, wpAny P .any pre (K0 P pre o Q) fuel (l.setIfInBounds i true) a w → wpAny P .any (pre.push o) Q (fuel + 1) ((l.push false).setIfInBounds i true) a w := fun a w q => by
           rw [hset]
           refine ih _ (by simp [hl]) ?_ a w q
           intro k p hp' hk e he
           by_cases hik : i = k
           · subst hik
             obtain ⟨_, p2, hp2, hall⟩ := mem_ready.1 hi'
             rw [hp'] at hp2; cases hp2
             obtain ⟨d, hd1, hd2, rfl⟩ := jT.1 he
             have := hlt _ _ hp' d.on he
             rw [getD_set_ne false (by omega)]
             exact hall d hd1 hd2
           · rw [getD_set_ne false hik] at hk
             have := hc k p hp' hk e he
             by_cases hie : i = e
             · subst hie; simp [Array.getD, hli]
             · rw [getD_set_ne false hie]; exact this
         unfold wpOp at h2 ⊢
         rw [G9 hin, hp]
         rw [hp] at h2
         dsimp only at h2 ⊢
         rw [V8 hg hp]
         by_cases hw : Region.wanted pre[i] (yielded pre a.tmps) = true
         · rw [if_pos hw] at h2 ⊢
           have up : LetsOut (K0 P pre o Q) → LetsOut Q := fun ⟨a, w, q⟩ => ⟨a, w, q⟩
           rcases h2 with h2 | ⟨h2, h3⟩
           · exact .inl (aEs (fun x a w hx q => by cases x <;> first | exact absurd rfl hx | exact q) up (Oper.wp_mono K h2))
           · exact .inr ⟨h2, up h3⟩
         · rw [if_neg hw] at h2 ⊢
           exact K _ _ h2
       · obtain rfl : i = pre.size := by omega
         exfalso
         apply hr
         have hall := aQv hL hc (fun e he => by
           obtain ⟨_, p, hp, hd⟩ := mem_ready.1 hi
           rw [hn] at hp; cases hp
           obtain ⟨d, hd1, hd2, rfl⟩ := jT.1 he
           have := hd d hd1 hd2
           rwa [nD (by have := hdl _ he; omega)] at this)
         rw [qY]
         intro k hk
         obtain ⟨h1, p, hp, _⟩ := mem_ready.1 hk
         have hkl := (aN.1 hp).1
         have h2 := hall k hkl
         have hkl' : k < l.size := by omega
         simp [Array.getD, hkl'] at h1 h2
         rw [h1] at h2; cases h2
end
section
variable {P : Program} {G : eW} {N : DR} {rx : RX} {pre : Array Oper} {o : Oper}
theorem aLr (hm : P.follows .mixedOrders = true) {id : Nat} (hd : C7 rx pre = true) (hL : aFv pre o = true) (hg : Q7 pre = true) {al : List fD} {ao : fD} (hl : dZ rx pre (rO pre) = some al) (ho : jB .off (pre.push o) o = some ao)
   {K : List AV → List AObj → Prop} {env : List AV} {h : List AObj} {X : Ctx} {w : World} {a : Act} {Q : Exit → Act → World → Prop}
   (e : cT P G (some N) al (fun env h => cT P G Option.none [ao] K env h) env h) (g : GH G X w h) (r : EnvOK X w h env a) (hQ : ∀ a' w', V0 G X w h K a' w' → Q .normal a' w') : (Code.region id (pre.push o) true).wp P Q a w := by
 have D := aVh hd
 refine wp_region_any hm ?_
 have e1 : (pre.push o).size = pre.size + 1 := by simp
 have e2 : Array.replicate (pre.size + 1) false = (Array.replicate pre.size false).push false := by
   apply Array.ext
   · simp
   · intro k h1 h2; simp [Array.getElem_push]
 rw [e1, e2]
 refine aNs (fun i p hp => D.lt i p hp) hL hg _ _ (by simp) ?_ a _ (aCz hd hl e g r ?_)
 · intro i p hp hi
   exfalso
   have := (aN.1 hp).1
   simp [Array.getD, this] at hi
 · rintro a' w' ⟨env', h', X', k1, k2, k3, k4⟩
   have hlst : dZ .off (pre.push o) [o] = some [ao] := by simp only [dZ, ho]
   have wl := I8 (ops := pre.push o) (Q := Q) [o] [ao] hlst env' h' X' w' a' k1 k2 k3 (fun a2 w2 ⟨env2, h2, X2, m1, m2, m3, m4⟩ => hQ a2 w2 ⟨env2, h2, X2, m1, m2, m3, k4.trans m4⟩)
   have hn : (pre.push o)[pre.size]? = some o := by simp
   show wpOp P (pre.push o) Q pre.size (fun a w => Q .normal a w) a' w'
   unfold wpOp
   rw [hn]
   exact wl
end

def sF : Option TH → Bool
 | some t => t.split
 | Option.none => false
def sG : List Oper → Option (List Oper × Oper)
 | [] => Option.none
 | [o] => some ([], o)
 | a :: b :: l => match sG (b :: l) with
   | some (p, o) => some (a :: p, o)
   | Option.none => Option.none
theorem N3 : ∀ {l p : List Oper} {o : Oper}, sG l = some (p, o) → l = p ++ [o]
 | [], _, _, h => by cases h
 | [a], p, o, h => by cases h; rfl
 | a :: b :: l, p, o, h => by
   rw [sG] at h
   cases hs : sG (b :: l) with
   | none => rw [hs] at h; cases h
   | some q =>
     rw [hs] at h
     cases h
     rw [N3 hs]; rfl
def aUw (rx : RX) (ops : Array Oper) : Bool := match sG ops.toList with
 | some (p, o) => C7 rx p.toArray && (aFv p.toArray o && Q7 p.toArray)
 | Option.none => false
def strip (rx : Bool) (th : Nat → Option TH) : Code → Option jV
 | .skip => some .skip
 | .region id ops true => match sF (th id) with
   | true => match sG ops.toList with
     | some (p, o) => match dZ (aIl rx (th id)) p.toArray (rO p.toArray), jB .off ops o with
       | some l, some a => some (.seq (.draw (th id) l) (.region [a]))
       | _, _ => Option.none
     | Option.none => Option.none
   | false => match dZ (aIl rx (th id)) ops (rO ops) with
     | some l => some (.draw (th id) l)
     | Option.none => Option.none
 | .region _ ops false => match dZ .off ops ops.toList with
   | some l => some (.region l)
   | Option.none => Option.none
 | .seq a b => match strip rx th a, strip rx th b with
   | some x, some y => some (.seq x y)
   | _, _ => Option.none
 | .cond c a b => match strip rx th a, strip rx th b with
   | some x, some y => some (.cond c x y)
   | _, _ => Option.none
 | .block id c => match strip rx th c with
   | some x => some (.block id x)
   | Option.none => Option.none
 | .loop c => match strip rx th c with
   | some x => some (.loop x)
   | Option.none => Option.none
 | .exit id => some (.exit id)
 | .ret => some .ret
 | _ => Option.none

def hZ (rx : Bool) (th : Nat → Option TH) : Code → Bool
 | .region id ops true => match sF (th id) with
   | true => aUw (aIl rx (th id)) ops
   | false => C7 (aIl rx (th id)) ops
 | .seq a b | .cond _ a b => hZ rx th a && hZ rx th b
 | .block _ c | .loop c => hZ rx th c
 | _ => true

section
variable {P : Program} {G : eW} {rx : Bool} {th : Nat → Option TH}

theorem aEm {c : Code} {S : Type} (I : S → Act → World → Prop) (μ : S → Nat) {Q : Exit → Act → World → Prop} (s0 : S) {a : Act} {w : World} (h₀ : I s0 a w)
   (round : ∀ s a w, I s a w → c.wp P (Exit.then (fun a' w' => ∃ s', I s' a' w' ∧ μ s' < μ s) Q) a w) : (Code.loop c).wp P Q a w := by
 intro b k cs
 have key : ∀ n s a w, μ s = n → I s a w →
     ∃ e a' w', Q e a' w' ∧ Arrives P (lone (b.at a (.code c :: .inLoop c :: k)) cs w) b k cs e a' w' := by
   intro n
   induction n using Nat.strongRecOn with
   | _ n ih =>
     intro s a w hn hI
     obtain ⟨e, a₁, w₁, hq, harr⟩ := round s a w hI b (.inLoop c :: k) cs
     cases e with
     | normal =>
       obtain ⟨s', hI₁, hlt⟩ := hq
       obtain ⟨e₂, a₂, w₂, hq₂, harr₂⟩ := ih (μ s') (hn ▸ hlt) s' a₁ w₁ rfl hI₁
       exact ⟨e₂, a₂, w₂, hq₂, .of_steps (Steps.trans harr (.one step_inLoop)) harr₂⟩
     | exit id => exact ⟨_, a₁, w₁, hq, .pass (x := .inLoop c) rfl (fun _ _ => .inl (by simp)) harr⟩
     | goto l => exact ⟨_, a₁, w₁, hq, .pass (x := .inLoop c) rfl (fun _ _ => .inl (by simp)) harr⟩
     | ret => exact ⟨_, a₁, w₁, hq, .pass (x := .inLoop c) rfl (fun _ _ => .inl (by simp)) harr⟩
     | panic ch => exact ⟨_, a₁, w₁, hq, .pass (x := .inLoop c) rfl (fun _ _ => .inl (by simp)) harr⟩
     | outgrown => exact ⟨_, a₁, w₁, hq, .pass (x := .inLoop c) rfl (fun _ _ => .inl (by simp)) harr⟩
 obtain ⟨e, a', w', hq, harr⟩ := key _ s0 a w rfl h₀
 exact ⟨e, a', w', hq, .of_steps (.one step_loop) harr⟩

theorem V0.trans {X X1 : Ctx} {w w1 : World} {h h1 : List AObj} {K : List AV → List AObj → Prop} {a' : Act} {w' : World} (t : Tr X w h X1 w1 h1) (k : V0 G X1 w1 h1 K a' w') : V0 G X w h K a' w' := by
 obtain ⟨env', h', X', k1, k2, k3, k4⟩ := k
 exact ⟨env', h', X', k1, k2, k3, t.trans k4⟩

theorem rG (hm : P.follows .mixedOrders = true) : ∀ (c : Code) (ac : jV), hZ rx th c = true → strip rx th c = some ac → ∀ (Q : Exit → List AV → List AObj → Prop) (env : List AV) (h : List AObj), awx P G ac Q env h → AW P G c Q env h
 | .skip, ac, hd, hs, Q, env, h, e => by
   simp only [strip, aA] at hs; subst hs
   intro X w a g r
   exact wp_skip ⟨env, h, X, e, g, r, .refl _ _ _⟩
 | .region id ops false, ac, hd, hs, Q, env, h, e => by
   simp only [strip] at hs
   cases hl : dZ .off ops ops.toList with
   | none => simp [hl] at hs
   | some al =>
     simp only [hl, aA] at hs
     subst hs
     intro X w a g r
     exact wp_region_list (I8 ops.toList al hl env h X w a e g r (fun a' w' k => k))
 | .region id ops true, ac, hd, hs, Q, env, h, e => by
   simp only [strip] at hs
   simp only [hZ] at hd
   cases hq : sF (th id) with
   | true =>
     rw [hq] at hs hd
     simp only [aUw] at hs hd
     cases hb : sG ops.toList with
     | none => simp [hb] at hs
     | some q =>
       obtain ⟨p, o⟩ := q
       rw [hb] at hs hd
       simp only [aB] at hs hd
       have hops : ops = p.toArray.push o := by
         apply Array.ext'
         rw [N3 hb]; simp
       split at hs
       · rename_i l a' h2 h3
         simp only [aA] at hs
         subst hs
         intro X w a g r
         rw [hops]
         exact aLr hm hd.1 hd.2.1 hd.2.2 h2 (hops ▸ h3) e g r (fun a' w' k => k)
       · cases hs
   | false =>
   rw [hq] at hs hd
   simp only at hs hd
   cases hl : dZ (aIl rx (th id)) ops (rO ops) with
   | none => simp [hl] at hs
   | some al =>
     simp only [hl, aA] at hs
     subst hs
     intro X w a g r
     exact bAh hm hd hl e g r (fun a' w' k => k)
 | .seq x y, ac, hd, hs, Q, env, h, e => by
   simp only [hZ, aB] at hd
   simp only [strip] at hs
   cases hx : strip rx th x with
   | none => simp [hx] at hs
   | some ax =>
   cases hy : strip rx th y with
   | none => simp [hx, hy] at hs
   | some ay =>
     simp only [hx, hy, aA] at hs
     subst hs
     intro X w a g r
     refine wp_seq (wp_mono (rG hm x ax hd.1 hx _ env h e X w a g r) ?_)
     intro e' a' w' k
     cases e' with
     | normal =>
       obtain ⟨env', h', X', k1, k2, k3, k4⟩ := k
       exact wp_mono (rG hm y ay hd.2 hy _ env' h' k1 X' w' a' k2 k3) (fun e2 a2 w2 k5 => k5.trans k4)
     | _ => exact k
 | .cond c x y, ac, hd, hs, Q, env, h, e => by
   simp only [hZ, aB] at hd
   simp only [strip] at hs
   cases hx : strip rx th x with
   | none => simp [hx] at hs
   | some ax =>
   cases hy : strip rx th y with
   | none => simp [hx, hy] at hs
   | some ay =>
     simp only [hx, hy, aA] at hs
     subst hs
     intro X w a g r
     have rc := gA g r c
     simp only [awx] at e
     cases hc : aev G env c with
     | b t =>
       rw [hc] at e rc
       have hv := aAk rc
       cases t with
       | true => exact wp_cond_true hv (rG hm x ax hd.1 hx _ env h (e.1 rfl) X w a g r)
       | false => exact wp_cond_false hv (rG hm y ay hd.2 hy _ env h (e.2 rfl) X w a g r)
     | _ => rw [hc] at e; exact e.elim
 | .block id c, ac, hd, hs, Q, env, h, e => by
   simp only [hZ] at hd
   simp only [strip] at hs
   cases hx : strip rx th c with
   | none => simp [hx] at hs
   | some ax =>
     simp only [hx, aA] at hs
     subst hs
     intro X w a g r
     refine wp_block (wp_mono (rG hm c ax hd hx _ env h e X w a g r) ?_)
     intro e' a' w' k
     cases e' with
     | exit i =>
       simp only [Exit.inBlock]
       obtain ⟨env', h', X', k1, k2, k3, k4⟩ := k
       simp only [yK] at k1
       split
       · rename_i hi; rw [if_pos hi] at k1; exact ⟨env', h', X', k1, k2, k3, k4⟩
       · rename_i hi; rw [if_neg hi] at k1; exact ⟨env', h', X', k1, k2, k3, k4⟩
     | _ => exact k
 | .loop c, ac, hd, hs, Q, env, h, e => by
   simp only [hZ] at hd
   simp only [strip] at hs
   cases hx : strip rx th c with
   | none => simp [hx] at hs
   | some ax =>
     simp only [hx, aA] at hs
     subst hs
     intro X w a g r
     simp only [awx, Loop] at e
     obtain ⟨S, I, μ, s0, h0, hround⟩ := e
     refine aEm (S := S × List AV × List AObj × Ctx) (fun s a' w' => I s.1 s.2.1 s.2.2.1 ∧ GH G s.2.2.2 w' s.2.2.1 ∧ EnvOK s.2.2.2 w' s.2.2.1 s.2.1 a' ∧ Tr X w h s.2.2.2 w' s.2.2.1) (fun s => μ s.1) (s0, env, h, X) ⟨h0, g, r, .refl _ _ _⟩ ?_
     rintro ⟨s1, env1, h1, X1⟩ a1 w1 ⟨i1, g1, r1, t1⟩
     refine wp_mono (rG hm c ax hd hx _ env1 h1 (hround s1 env1 h1 i1) X1 w1 a1 g1 r1) ?_
     intro e' a' w' k
     cases e' with
     | normal =>
       obtain ⟨env', h', X', ⟨s', k1, k1'⟩, k2, k3, k4⟩ := k
       exact ⟨(s', env', h', X'), ⟨k1, k2, k3, t1.trans k4⟩, k1'⟩
     | _ => exact k.trans t1
 | .exit id, ac, hd, hs, Q, env, h, e => by
   simp only [strip, aA] at hs; subst hs
   intro X w a g r
   exact wp_exit ⟨env, h, X, e, g, r, .refl _ _ _⟩
 | .ret, ac, hd, hs, Q, env, h, e => by
   simp only [strip, aA] at hs; subst hs
   intro X w a g r
   exact wp_ret ⟨env, h, X, e, g, r, .refl _ _ _⟩
 | .rangeFunc _ _ _ _, ac, hd, hs, Q, env, h, e => by simp [strip] at hs
 | .scope _, ac, hd, hs, Q, env, h, e => by simp [strip] at hs
 | .label _, ac, hd, hs, Q, env, h, e => by simp [strip] at hs
 | .goto _, ac, hd, hs, Q, env, h, e => by simp [strip] at hs
 | .refuse _, ac, hd, hs, Q, env, h, e => by simp [strip] at hs
end

mutual
def bK : AV → AV → List Nat
 | .hs id _ _ _, .own .. => [id]
 | .agg xs, .agg rs => finIdsL xs rs
 | .tup xs, .tup rs => finIdsL xs rs
 | _, _ => []
def finIdsL : List AV → List AV → List Nat
 | x :: xs, r :: rs => bK x r ++ finIdsL xs rs
 | _, _ => []
end
mutual
def hJ (h : List AObj) : AV → AV → List Nat
 | .hs _ _ _ _, .own .. => []
 | .e0, .own .. => []
 | .agg xs, .agg rs => finRchL h xs rs
 | .tup xs, .tup rs => finRchL h xs rs
 | x, _ => dN dep h x
def finRchL (h : List AObj) : List AV → List AV → List Nat
 | x :: xs, r :: rs => hJ h x r ++ finRchL h xs rs
 | _, _ => []
end
mutual
def lR (h : List AObj) : AV → AV → Prop
 | .hs id off n t, .own sz cells m => t = false ∧ m = n ∧ ∃ cs, h[id]? = some (.arr false sz cs) ∧ off + n * sz ≤ cs.length ∧ cells = (cs.drop off).take (n * sz) ∧ persL cells = true
 | .e0, .own sz cells m => cells = [] ∧ m = 0
 | .agg xs, .agg rs => finOKL h xs rs
 | .tup xs, .tup rs => finOKL h xs rs
 | x, r => r = gJ dep h x
def finOKL (h : List AObj) : List AV → List AV → Prop
 | [], [] => True
 | x :: xs, r :: rs => lR h x r ∧ finOKL h xs rs
 | _, _ => False
end

def Fin (h : List AObj) (x r : AV) : Prop := (r = x ∧ pers x = true) ∨ (lR h x r ∧ (bK x r).Nodup ∧ ∀ i ∈ bK x r, i ∉ hJ h x r)

def FB (X : Ctx) (ids : List Nat) (b : Nat) : Prop := X.F b ∨ ∃ id o, id ∉ ids ∧ X.ι id = some (b, o)

section
variable {P : Program} {G : eW} {X : Ctx} {w : World} {h : List AObj}

def K8 (X : Ctx) (ids : List Nat) : List Nat := ids.filterMap fun i => (X.ι i).map (·.1)
theorem aAl (X : Ctx) (a b : List Nat) : K8 X (a ++ b) = K8 X a ++ K8 X b := by simp [K8]
theorem aDp {X : Ctx} {ids : List Nat} {b : Nat} (hb : b ∈ K8 X ids) : ∃ id ∈ ids, ∃ o, X.ι id = some (b, o) := by
 simp only [K8, List.mem_filterMap, bD] at hb
 obtain ⟨id, hi, ⟨c, o⟩, hc, rfl⟩ := hb
 exact ⟨id, hi, o, hc⟩
theorem D1 (g : GH G X w h) : ∀ {ids : List Nat}, ids.Nodup → (K8 X ids).Nodup
 | [], _ => by simp [K8]
 | id :: ids, hn => by
   rw [oP] at hn
   have ih := D1 g hn.2
   simp only [K8, jI]
   cases hb : X.ι id with
   | none => simp only [Option.map_none]; exact ih
   | some bo =>
     obtain ⟨b, o⟩ := bo
     simp only [hb, cD]
     rw [oP]
     refine ⟨fun hm => ?_, ih⟩
     obtain ⟨id', hi', o', ho'⟩ := aDp (X := X) (ids := ids) hm
     exact hn.1 (g.inj _ _ _ _ _ hb ho' ▸ hi')

theorem gK (g : GH G X w h) (ids : List Nat) {x : AV} {v : Value} (r : RV X w h x v) (hd : ∀ i ∈ ids, i ∉ dN dep h x) : RR (FB X ids) w (gJ dep h x) v [] := by
 refine RR.val ((E6 g dep x v r).monoF ?_)
 rintro b (hb | ⟨id, hi, o, ho⟩)
 · exact .inl hb
 · exact .inr ⟨id, o, fun hm => hd id hm hi, ho⟩

mutual
theorem aVf (g : GH G X w h) (ids : List Nat) : ∀ (x r : AV) (v : Value), lR h x r → RV X w h x v → (∀ i ∈ ids, i ∉ hJ h x r) → RR (FB X ids) w r v (K8 X (bK x r))
 | .hs id off n t, r, v, e, rv, hd => by
   have gen : lR h (.hs id off n t) r = (r = gJ dep h (.hs id off n t)) → bK (.hs id off n t) r = [] → hJ h (.hs id off n t) r = dN dep h (.hs id off n t) → RR (FB X ids) w r v (K8 X (bK (.hs id off n t) r)) := by
     intro e1 e2 e3
     rw [e1] at e
     rw [e2, e]
     rw [e3] at hd
     exact gK g ids rv hd
   cases r with
   | own sz cells m =>
     clear gen
     simp only [lR] at e
     obtain ⟨rfl, rfl, cs, hid, hle, rfl, hp⟩ := e
     simp only [bK, RR]
     cases rv with
     | dead hr hd' _ => simp [AV.refs] at hr; subst hr; rw [hid] at hd'; cases hd'
     | hs0 hid' hf ho => exact .inr ⟨by simp, rfl, _, rfl⟩
     | @hs _ _ _ _ fz' s' cells' b o cap T N hid' hι hsh hn hcc hN htt hff =>
       rw [hid] at hid'; cases hid'
       have ok := g.objs _ _ hid
       cases ok with
       | absent h0 => rw [h0] at hι; cases hι
       | @arr _ _ _ b' o' cur T' fr h0 hb hf1 hf2 hl h1 hr =>
       rw [h0] at hι; cases hι
       obtain ⟨hF, rfl⟩ := hf2 rfl
       have hNs : N = cur.size := by simp [World.shape?, hb] at hsh; exact hsh.2.symm
       subst hNs
       refine .inl ⟨b, o + off, cur, T', cap, by simp [K8, h0], rfl, hb, by simp; omega, hcc, hN, ?_, ?_⟩
       · intro j u hj hu
         simp at hj
         exact h1 (off + j) u (by omega) (by rw [← cX]; exact hu)
       · intro j y u hy hu
         have hy' := hy
         rw [eI] at hy
         split at hy
         · rw [dL] at hy
           exact (hr (off + j) y u hy (by rw [← cX]; exact hu)).pers (fZ hp j y hy') (fun b hb => .inl hb) (fun _ _ => rfl)
         · cases hy
   | _ => exact gen rfl rfl rfl
 | .e0, r, v, e, rv, hd => by
   have gen : lR h .e0 r = (r = gJ dep h .e0) → bK .e0 r = [] → hJ h .e0 r = dN dep h .e0 → RR (FB X ids) w r v (K8 X (bK .e0 r)) := by
     intro e1 e2 e3
     rw [e1] at e
     rw [e2, e]
     rw [e3] at hd
     exact gK g ids rv hd
   cases r with
   | own sz cells m =>
     clear gen
     simp only [lR] at e
     obtain ⟨rfl, rfl⟩ := e
     simp only [bK, RR]
     cases rv with
     | e0 a => exact .inr ⟨trivial, trivial, a, rfl⟩
     | dead hr _ _ => simp [AV.refs] at hr
   | _ => exact gen rfl rfl rfl
 | .agg xs, r, v, e, rv, hd => by
   have gen : lR h (.agg xs) r = (r = gJ dep h (.agg xs)) → bK (.agg xs) r = [] → hJ h (.agg xs) r = dN dep h (.agg xs) → RR (FB X ids) w r v (K8 X (bK (.agg xs) r)) := by
     intro e1 e2 e3
     rw [e1] at e
     rw [e2, e]
     rw [e3] at hd
     exact gK g ids rv hd
   cases r with
   | agg rs =>
     clear gen
     simp only [lR] at e
     simp only [bK]
     cases rv with
     | @agg _ vs hl h1 hr => exact ⟨vs, rfl, h1, finL_ok g ids xs rs vs.toList e (by simpa using hl) (fun j a v ha hv => hr j a v ha (by simpa using hv)) hd⟩
     | dead hr _ _ => simp [AV.refs] at hr
   | _ => exact gen rfl rfl rfl
 | .tup xs, r, v, e, rv, hd => by
   have gen : lR h (.tup xs) r = (r = gJ dep h (.tup xs)) → bK (.tup xs) r = [] → hJ h (.tup xs) r = dN dep h (.tup xs) → RR (FB X ids) w r v (K8 X (bK (.tup xs) r)) := by
     intro e1 e2 e3
     rw [e1] at e
     rw [e2, e]
     rw [e3] at hd
     exact gK g ids rv hd
   cases r with
   | tup rs =>
     clear gen
     simp only [lR] at e
     simp only [bK]
     cases rv with
     | @tup _ vs hl hr => exact ⟨vs, rfl, finL_ok g ids xs rs vs.toList e (by simpa using hl) (fun j a v ha hv => hr j a v ha (by simpa using hv)) hd⟩
     | dead hr _ _ => simp [AV.refs] at hr
   | _ => exact gen rfl rfl rfl
 | .u, r, v, e, rv, hd => by
   have e' : r = gJ dep h (.u) := by cases r <;> exact e
   have e2 : bK (.u) r = [] := by cases r <;> rfl
   have e3 : hJ h (.u) r = dN dep h (.u) := by cases r <;> rfl
   rw [e2, e']
   rw [e3] at hd
   exact gK g ids rv hd
 | .b x, r, v, e, rv, hd => by
   have e' : r = gJ dep h (.b x) := by cases r <;> exact e
   have e2 : bK (.b x) r = [] := by cases r <;> rfl
   have e3 : hJ h (.b x) r = dN dep h (.b x) := by cases r <;> rfl
   rw [e2, e']
   rw [e3] at hd
   exact gK g ids rv hd
 | .i k n, r, v, e, rv, hd => by
   have e' : r = gJ dep h (.i k n) := by cases r <;> exact e
   have e2 : bK (.i k n) r = [] := by cases r <;> rfl
   have e3 : hJ h (.i k n) r = dN dep h (.i k n) := by cases r <;> rfl
   rw [e2, e']
   rw [e3] at hd
   exact gK g ids rv hd
 | .s l, r, v, e, rv, hd => by
   have e' : r = gJ dep h (.s l) := by cases r <;> exact e
   have e2 : bK (.s l) r = [] := by cases r <;> rfl
   have e3 : hJ h (.s l) r = dN dep h (.s l) := by cases r <;> rfl
   rw [e2, e']
   rw [e3] at hd
   exact gK g ids rv hd
 | .p v', r, v, e, rv, hd => by
   have e' : r = gJ dep h (.p v') := by cases r <;> exact e
   have e2 : bK (.p v') r = [] := by cases r <;> rfl
   have e3 : hJ h (.p v') r = dN dep h (.p v') := by cases r <;> rfl
   rw [e2, e']
   rw [e3] at hd
   exact gK g ids rv hd
 | .sl cells n, r, v, e, rv, hd => by
   have e' : r = gJ dep h (.sl cells n) := by cases r <;> exact e
   have e2 : bK (.sl cells n) r = [] := by cases r <;> rfl
   have e3 : hJ h (.sl cells n) r = dN dep h (.sl cells n) := by cases r <;> rfl
   rw [e2, e']
   rw [e3] at hd
   exact gK g ids rv hd
 | .own sz cells n, r, v, e, rv, hd => by
   have e' : r = gJ dep h (.own sz cells n) := by cases r <;> exact e
   have e2 : bK (.own sz cells n) r = [] := by cases r <;> rfl
   have e3 : hJ h (.own sz cells n) r = dN dep h (.own sz cells n) := by cases r <;> rfl
   rw [e2, e']
   rw [e3] at hd
   exact gK g ids rv hd
 | .ptr id off, r, v, e, rv, hd => by
   have e' : r = gJ dep h (.ptr id off) := by cases r <;> exact e
   have e2 : bK (.ptr id off) r = [] := by cases r <;> rfl
   have e3 : hJ h (.ptr id off) r = dN dep h (.ptr id off) := by cases r <;> rfl
   rw [e2, e']
   rw [e3] at hd
   exact gK g ids rv hd
 | .box cells off, r, v, e, rv, hd => by
   have e' : r = gJ dep h (.box cells off) := by cases r <;> exact e
   have e2 : bK (.box cells off) r = [] := by cases r <;> rfl
   have e3 : hJ h (.box cells off) r = dN dep h (.box cells off) := by cases r <;> rfl
   rw [e2, e']
   rw [e3] at hd
   exact gK g ids rv hd
 | .mp id, r, v, e, rv, hd => by
   have e' : r = gJ dep h (.mp id) := by cases r <;> exact e
   have e2 : bK (.mp id) r = [] := by cases r <;> rfl
   have e3 : hJ h (.mp id) r = dN dep h (.mp id) := by cases r <;> rfl
   rw [e2, e']
   rw [e3] at hd
   exact gK g ids rv hd
 | .mapv ks vs, r, v, e, rv, hd => by
   have e' : r = gJ dep h (.mapv ks vs) := by cases r <;> exact e
   have e2 : bK (.mapv ks vs) r = [] := by cases r <;> rfl
   have e3 : hJ h (.mapv ks vs) r = dN dep h (.mapv ks vs) := by cases r <;> rfl
   rw [e2, e']
   rw [e3] at hd
   exact gK g ids rv hd
 | .fn f first capt, r, v, e, rv, hd => by
   have e' : r = gJ dep h (.fn f first capt) := by cases r <;> exact e
   have e2 : bK (.fn f first capt) r = [] := by cases r <;> rfl
   have e3 : hJ h (.fn f first capt) r = dN dep h (.fn f first capt) := by cases r <;> rfl
   rw [e2, e']
   rw [e3] at hd
   exact gK g ids rv hd
theorem finL_ok (g : GH G X w h) (ids : List Nat) : ∀ (xs rs : List AV) (vs : List Value), finOKL h xs rs → xs.length = vs.length → (∀ (j : Nat) (a : AV) (v : Value), xs[j]? = some a → vs[j]? = some v → RV X w h a v) → (∀ i ∈ ids, i ∉ finRchL h xs rs) →
   RRs (FB X ids) w rs vs (K8 X (finIdsL xs rs))
 | [], [], [], e, hl, hr, hd => by simp [finIdsL, K8, RRs]
 | x :: xs, r :: rs, v :: vs, e, hl, hr, hd => by
   simp only [finOKL] at e
   simp only [finRchL] at hd
   simp only [finIdsL, aAl]
   exact ⟨_, _, rfl, aVf g ids x r v e.1 (hr 0 x v rfl rfl) (fun i hi hm => hd i hi (dP _ hm)),
     finL_ok g ids xs rs vs e.2 (by simpa using hl) (fun j a v ha hv => hr (j + 1) a v (by simpa using ha) (by simpa using hv)) (fun i hi hm => hd i hi (cW _ hm))⟩
 | [], r :: rs, vs, e, hl, hr, hd => by simp [finOKL] at e
 | x :: xs, [], vs, e, hl, hr, hd => by simp [finOKL] at e
 | [], [], _ :: _, e, hl, hr, hd => by simp at hl
 | _ :: _, _ :: _, [], e, hl, hr, hd => by simp at hl
end

mutual
theorem aCt : ∀ (x r : AV), lR h x r → ∀ i ∈ bK x r, ∃ sz cs, h[i]? = some (.arr false sz cs)
 | .hs id off n t, r, e, i, hi => by
   cases r with
   | own sz cells m =>
     simp only [lR] at e
     obtain ⟨rfl, rfl, cs, hid, _⟩ := e
     simp only [bK, cL] at hi
     subst hi
     exact ⟨_, _, hid⟩
   | _ => simp [bK] at hi
 | .agg xs, r, e, i, hi => by
   cases r with
   | agg rs => simp only [lR] at e; simp only [bK] at hi; exact finL_live xs rs e i hi
   | _ => simp [bK] at hi
 | .tup xs, r, e, i, hi => by
   cases r with
   | tup rs => simp only [lR] at e; simp only [bK] at hi; exact finL_live xs rs e i hi
   | _ => simp [bK] at hi
 | .e0, r, e, i, hi => by cases r <;> simp [bK] at hi
 | .u, r, e, i, hi => by cases r <;> simp [bK] at hi
 | .b x, r, e, i, hi => by cases r <;> simp [bK] at hi
 | .i k n, r, e, i, hi => by cases r <;> simp [bK] at hi
 | .s l, r, e, i, hi => by cases r <;> simp [bK] at hi
 | .p v', r, e, i, hi => by cases r <;> simp [bK] at hi
 | .sl cells n, r, e, i, hi => by cases r <;> simp [bK] at hi
 | .own sz cells n, r, e, i, hi => by cases r <;> simp [bK] at hi
 | .ptr id off, r, e, i, hi => by cases r <;> simp [bK] at hi
 | .box cells off, r, e, i, hi => by cases r <;> simp [bK] at hi
 | .mp id, r, e, i, hi => by cases r <;> simp [bK] at hi
 | .mapv ks vs, r, e, i, hi => by cases r <;> simp [bK] at hi
 | .fn f first capt, r, e, i, hi => by cases r <;> simp [bK] at hi
theorem finL_live : ∀ (xs rs : List AV), finOKL h xs rs → ∀ i ∈ finIdsL xs rs, ∃ sz cs, h[i]? = some (.arr false sz cs)
 | [], [], e, i, hi => by simp [finIdsL] at hi
 | x :: xs, r :: rs, e, i, hi => by
   simp only [finOKL] at e
   simp only [finIdsL, bY] at hi
   rcases hi with hi | hi
   · exact aCt x r e.1 i hi
   · exact finL_live xs rs e.2 i hi
 | [], _ :: _, e, i, hi => by simp [finOKL] at e
 | _ :: _, [], e, i, hi => by simp [finOKL] at e
end

def U1 (P : Program) (env : List AV) (h : List AObj) : ResultVar → Option AV
 | .tmp t => some (env.getD t .u)
 | .cell a T => tL P T h (env.getD a .u)
def vV (P : Program) (env : List AV) (h : List AObj) : List ResultVar → Option (List AV)
 | [] => some []
 | r :: rs => match U1 P env h r, vV P env h rs with
   | some x, some l => some (x :: l)
   | _, _ => Option.none
def aEb (P : Program) (rs : List ResultVar) (env : List AV) (h : List AObj) : Option AV :=
 match vV P env h rs with
 | some [x] => some x
 | some l => some (.tup l)
 | Option.none => Option.none

def aBo (tmps : Array Value) : ResultVar → Go.Sem Value
 | .tmp t => pure (tmps.getD t undef)
 | .cell b t => do loadVar t (← asAddr (tmps.getD b undef))
theorem aFg (fn : Func) (tmps : Array Value) : results fn tmps = (do
   let vs ← fn.results.mapM (aBo tmps)
   pure (if h : vs.size = 1 then vs[0] else .tuple vs)) := rfl

theorem aTk {env : List AV} {a : Act} (g : GH G X w h) (r : EnvOK X w h env a) (rv : ResultVar) {x : AV} (e : U1 P env h rv = some x) :
   ∃ v, (aBo a.tmps rv).run P w = .ok v w ∧ RV X w h x v := by
 cases rv with
 | tmp t =>
   simp only [U1, aA] at e
   subst e
   exact ⟨_, rfl, gA g r (.tmp t)⟩
 | cell b T =>
   simp only [U1] at e
   have rb := gA g r (.tmp b)
   simp only [aev, Act.eval] at rb
   obtain ⟨u, hu, ru⟩ := aKl g rb e
   refine ⟨u, ?_, ru⟩
   have : ∃ ad, a.tmps.getD b undef = .pointer (some ad) := by
     unfold tL at e
     cases ho : aEc h (env.getD b .u) with
     | none => rw [ho] at e; cases e
     | some q =>
       obtain ⟨cells, off⟩ := q
       obtain ⟨b', o, cs, T', fr, hv, _⟩ := aNr g rb ho
       exact ⟨_, hv⟩
   obtain ⟨ad, had⟩ := this
   simp only [aBo]
   rw [had] at hu ⊢
   simpa [Instr.loadAt, Instr.sureAddr, asAddr] using hu

theorem aEa {env : List AV} {a : Act} (g : GH G X w h) (r : EnvOK X w h env a) : ∀ (rs : List ResultVar) (l : List AV), vV P env h rs = some l →
   ∃ vs : List Value, (rs.mapM (aBo a.tmps)).run P w = .ok vs w ∧ l.length = vs.length ∧ ∀ (j : Nat) (x : AV) (v : Value), l[j]? = some x → vs[j]? = some v → RV X w h x v
 | [], l, e => by
   simp only [vV, aA] at e
   subst e
   exact ⟨[], by simp, rfl, by simp⟩
 | rv :: rs, l, e => by
   simp only [vV] at e
   cases h1 : U1 P env h rv with
   | none => simp [h1] at e
   | some x =>
   cases h2 : vV P env h rs with
   | none => simp [h1, h2] at e
   | some l' =>
     simp only [h1, h2, aA] at e
     subst e
     obtain ⟨v, hv, rx⟩ := aTk g r rv h1
     obtain ⟨vs, hvs, hl, hr⟩ := aEa g r rs l' h2
     refine ⟨v :: vs, ?_, by simp [hl], ?_⟩
     · rw [List.mapM_cons, aW, hv, aL, aW, hvs]; rfl
     · intro j y u hy hu
       cases j with
       | zero => simp at hy hu; exact hy ▸ hu ▸ rx
       | succ j => exact hr j y u (by simpa using hy) (by simpa using hu)

theorem aNo {env : List AV} {a : Act} {fn : Func} (g : GH G X w h) (r : EnvOK X w h env a) {x : AV} (e : aEb P fn.results.toList env h = some x) : ∃ v, (results fn a.tmps).run P w = .ok v w ∧ RV X w h x v := by
 unfold aEb at e
 cases hl : vV P env h fn.results.toList with
 | none => simp [hl] at e
 | some l =>
   obtain ⟨vs, hvs, hlen, hr⟩ := aEa g r _ l hl
   have hrun : (results fn a.tmps).run P w = .ok (if h : vs.toArray.size = 1 then vs.toArray[0] else .tuple vs.toArray) w := by
     rw [aFg, aW, Array.mapM_eq_mapM_toList, Sem.run_map, hvs]
     rfl
   rw [hrun]
   rw [hl] at e
   clear hl hvs hrun
   cases l with
   | nil =>
     cases vs with
     | cons => simp at hlen
     | nil =>
       simp only [aA] at e
       subst e
       exact ⟨_, rfl, by simpa using .tup (vs := #[]) rfl (by simp)⟩
   | cons y l =>
     cases vs with
     | nil => simp at hlen
     | cons v vs =>
       cases l with
       | nil =>
         have hvs0 : vs = [] := List.eq_nil_of_length_eq_zero (by simpa using hlen.symm)
         subst hvs0
         simp only [aA] at e
         subst e
         exact ⟨v, by simp, hr 0 y v rfl rfl⟩
       | cons z l =>
         simp only [aA] at e
         subst e
         refine ⟨_, rfl, ?_⟩
         have : (v :: vs).toArray.size ≠ 1 := by simp at hlen ⊢; intro h0; rw [h0] at hlen; simp at hlen
         rw [dif_neg this]
         exact .tup (by simpa using hlen) (fun j a v ha hv => hr j a v ha (by simpa using hv))
end

theorem aUh {P : Program} {G : eW} {f : FuncId} {fn : Func} {c : Code} {args : List AV} {r : AV} (hf : P.funcs[f]? = some fn) (hb : fn.body = some c) (hcal : gR P f = true) (hG : qZ G)
   (h : AW P G c (fun e env h => (e = .normal ∨ e = .ret) ∧ ∃ x, aEb P fn.results.toList env h = some x ∧ Fin h x r) (args ++ List.replicate (fn.ntmps - args.length) .u) []) : Ctr P G f args r := by
 refine ⟨hcal, hG, ?_⟩
 intro F w vs hF hgl hl hr
 have g0 : GH G (.none F) w [] := ⟨fun id ob h => by simp at h, fun id bo h => by simp [Ctx.none] at h, fun id id' b o o' h => by simp [Ctx.none] at h, fun id b o h => by simp [Ctx.none] at h, hF, hgl⟩
 have r0 : EnvOK (.none F) w [] (args ++ List.replicate (fn.ntmps - args.length) .u) { tmps := vs ++ Array.replicate (fn.ntmps - vs.size) undef, defers := [] } := by
   refine ⟨rfl, by simp [hl], ?_⟩
   intro j x v hx hv
   by_cases hj : j < args.length
   · rw [aC hj] at hx
     rw [fS (by omega)] at hv
     exact hr j x v hx hv
   · rw [aH (by omega), List.getElem?_replicate] at hx
     split at hx
     · cases hx; exact .u _
     · cases hx
 refine calls_of_wp hf hb (wp_mono (h (.none F) w _ g0 r0) ?_)
 rintro e a' w' ⟨env', h', X', ⟨he, x, hres, hfin⟩, g', r', t⟩
 obtain ⟨v, hrun, rx⟩ := aNo g' r' hres
 have hgr : yX w w' := ⟨fun b hb => t.step.frame b hb (fun id o e => by simp [Ctx.none] at e), t.step.size, t.step.os, t.step.tape, t.step.output⟩
 have hι : ∀ id b o, X'.ι id = some (b, o) → w.heap.size ≤ b := by
   intro id b o hb
   rcases t.step.new id b o hb with h | ⟨_, _, h⟩
   · exact h
   · simp [Ctx.none] at h
 have hXF : ∀ b, X'.F b → F b ∨ w.heap.size ≤ b := by
   intro b hb
   rcases t.step.fnew b hb with h | h | ⟨_, _, h⟩
   · exact .inl h
   · exact .inr h
   · simp [Ctx.none] at h
 have hFB : ∀ (ids : List Nat), (∀ b, F b → FB X' ids b) ∧ (∀ b, FB X' ids b → F b ∨ w.heap.size ≤ b) ∧ (∀ b, FB X' ids b → b < w'.heap.size) := by
   intro ids
   refine ⟨fun b hb => .inl (t.ext.fr b hb), ?_, ?_⟩
   · rintro b (hb | ⟨id, o, _, ho⟩)
     · exact hXF b hb
     · exact .inr (hι _ _ _ ho)
   · rintro b (hb | ⟨id, o, _, ho⟩)
     · exact g'.fbnd b hb
     · exact g'.bnd _ _ _ ho
 have hR : ∃ v' F' bs, Ending.returned v = .returned v' ∧ yX w w' ∧ (∀ b, F b → F' b) ∧ (∀ b, F' b → F b ∨ w.heap.size ≤ b) ∧ (∀ b, F' b → b < w'.heap.size) ∧ RR F' w' r v' bs ∧ bs.Nodup ∧ ∀ b ∈ bs, ¬ F' b ∧ w.heap.size ≤ b := by
   rcases hfin with ⟨rfl, hp⟩ | ⟨hok, hnd, hdis⟩
   · exact ⟨v, FB X' [], [], rfl, hgr, (hFB []).1, (hFB []).2.1, (hFB []).2.2, RR.val (rx.pers hp (fun b hb => .inl hb) (fun _ _ => rfl)), eC, by simp⟩
   · refine ⟨v, FB X' (bK x r), K8 X' (bK x r), rfl, hgr, (hFB _).1, (hFB _).2.1, (hFB _).2.2, aVf g' _ x r v hok rx hdis, D1 g' hnd, ?_⟩
     intro b hb
     obtain ⟨id, hi, o, ho⟩ := aDp hb
     refine ⟨?_, hι _ _ _ ho⟩
     rintro (hF' | ⟨id', o', hn, ho'⟩)
     · obtain ⟨sz, cs, hid⟩ := aCt x r hok id hi
       have ok := g'.objs _ _ hid
       cases ok with
       | arr h0 h1 h2 h3 => rw [h0] at ho; cases ho; exact (h3 rfl).1 hF'
       | absent h0 => rw [h0] at ho; cases ho
     · exact hn (g'.inj _ _ _ _ _ ho ho' ▸ hi)
 rcases he with rfl | rfl
 · exact ⟨r'.defers, v, hrun, hR⟩
 · exact ⟨r'.defers, v, hrun, hR⟩
theorem sI {rx : Bool} {th : Nat → Option TH} {P : Program} (hm : P.follows .mixedOrders = true) {G : eW} {f : FuncId} {fn : Func} {c : Code} {ac : jV} {args : List AV} {r : AV} (hf : P.funcs[f]? = some fn) (hb : fn.body = some c) (hcal : gR P f = true) (hd : hZ rx th c = true) (hs : strip rx th c = some ac) (hG : qZ G)
   (h : awx P G ac (fun e env h => (e = .normal ∨ e = .ret) ∧ ∃ x, aEb P fn.results.toList env h = some x ∧ Fin h x r) (args ++ List.replicate (fn.ntmps - args.length) .u) []) : Ctr P G f args r :=
 aUh hf hb hcal hG (rG hm c ac hd hs _ _ _ h)

section
variable (P : Program) (G : eW) (dr : Option DR)

def dK (op : Op) (d : Option Nat) (os : List fD) (K : List AV → List AObj → Prop) (env : List AV) (h : List AObj) : Prop :=
 oW P G dr op (fun r h' => cT P G dr os K (fR env d r) h') env h
def mU (x : Option AV) (d : Option Nat) (os : List fD) (K : List AV → List AObj → Prop) (env : List AV) (h : List AObj) : Prop :=
 match x with
 | some v => cT P G dr os K (fR env d v) h
 | Option.none => False
def bAt (x : Option (List AObj)) (d : Option Nat) (os : List fD) (K : List AV → List AObj → Prop) (env : List AV) : Prop :=
 match x with
 | some h' => cT P G dr os K (fR env d .u) h'
 | Option.none => False
def mK (x : Option (AV × List AObj)) (d : Option Nat) (os : List fD) (K : List AV → List AObj → Prop) (env : List AV) : Prop :=
 match x with
 | some (v, h') => cT P G dr os K (fR env d v) h'
 | Option.none => False
def bBd (fv : AV) (args : List AV) (d : Option Nat) (os : List fD) (K : List AV → List AObj → Prop) (env : List AV) (h : List AObj) : Prop :=
 match fv with
 | .fn f first capt => zK P G dr.isSome f (first ++ args ++ capt) h (fun r h' => cT P G dr os K (fR env d r) h')
 | _ => False
def tH (f : FuncId) (A : List AV) (d : Option Nat) (os : List fD) (K : List AV → List AObj → Prop) (env : List AV) (h : List AObj) : Prop :=
 zK P G dr.isSome f A h (fun r h' => cT P G dr os K (fR env d r) h')
def kE (c : AV) (want : Bool) (op : Op) (d : Option Nat) (os : List fD) (K : List AV → List AObj → Prop) (env : List AV) (h : List AObj) : Prop :=
 pP (wE c want) (dK P G dr op d os K env h) (cT P G dr os K (fR env d (.tup [])) h)
def aAe (c : AV) (a b : jV) (Q : Exit → List AV → List AObj → Prop) (env : List AV) (h : List AObj) : Prop :=
 pP c (awx P G a Q env h) (awx P G b Q env h)
end

section
variable {P : Program} {G : eW} {dr : Option DR} {d : Option Nat} {os : List fD} {K : List AV → List AObj → Prop} {env : List AV} {h : List AObj} {Q : Exit → List AV → List AObj → Prop}

theorem aYh : cT P G dr [] K env h = K env h := rfl
theorem aUi {op : Op} {K : AV → List AObj → Prop} : aOe P G dr false op K env h = oW P G dr op K env h := by
 cases op with
 | call c => obtain ⟨ce, as, ts⟩ := c; cases ce <;> rfl
 | _ => rfl
theorem aQc {op : Op} : cT P G dr (⟨d, op, none, false⟩ :: os) K env h = dK P G dr op d os K env h := by simp only [cT, aGj, true_and, aUi]; rfl
theorem aJs {op : Op} {t : Nat} {want : Bool} : cT P G dr (⟨d, op, some (t, want), false⟩ :: os) K env h = kE P G dr (env.getD t .u) want op d os K env h := by simp only [cT, aGj, true_and, aUi]; rfl
def ckV (P : Program) (G : eW) (N : DR) (op : Op) (d : Option Nat) (os : List fD) (K : List AV → List AObj → Prop) (env : List AV) (h : List AObj) : Prop :=
 match op with
 | .buildSlice T len ps => mU P G (some N) (aGt P (aev G env) T len ps) d os K env h
 | .call ⟨.value f, as, ts⟩ => bCd P G N ⟨.value f, as, ts⟩ (fun r h' => cT P G (some N) os K (fR env d r) h') env h
 | op => I4 G N op env ∧ dK P G (some N) op d os K env h
theorem aUq {op : Op} {N : DR} : cT P G (some N) (⟨d, op, none, true⟩ :: os) K env h = ckV P G N op d os K env h := by
 cases op with
 | buildSlice T len ps =>
   have e : cT P G (some N) (⟨d, .buildSlice T len ps, none, true⟩ :: os) K env h = (True ∧ xJ ((aGt P (aev G env) T len ps).map fun v => (v, h)) (fun r h' => cT P G (some N) os K (fR env d r) h')) := rfl
   rw [e, ckV, true_and]
   cases aGt P (aev G env) T len ps <;> rfl
 | call c =>
   obtain ⟨ce, as, ts⟩ := c
   cases ce with
   | value f =>
     have e : cT P G (some N) (⟨d, .call ⟨.value f, as, ts⟩, none, true⟩ :: os) K env h = (True ∧ bCd P G N ⟨.value f, as, ts⟩ (fun r h' => cT P G (some N) os K (fR env d r) h') env h) := rfl
     rw [e, true_and]
     rfl
   | _ => rfl
 | _ => rfl
def bKu (P : Program) (G : eW) (N : DR) (f : FuncId) (A : List AV) (d : Option Nat) (os : List fD) (K : List AV → List AObj → Prop) (env : List AV) (h : List AObj) : Prop :=
 ∃ x h', ACalls P G f A h (fun x1 h1 => x1 = x ∧ h1 = h') ∧ jU N h h' ∧ cT P G (some N) os K (fR env d x) h'
def bOh (P : Program) (G : eW) (N : DR) (fv : AV) (args : List AV) (d : Option Nat) (os : List fD) (K : List AV → List AObj → Prop) (env : List AV) (h : List AObj) : Prop :=
 match fv with
 | .fn f first capt => bKu P G N f (first ++ args ++ capt) d os K env h
 | _ => False
theorem aKq {fx : Operand} {args : Array Operand} {tys : Array TypeId} {N : DR} : ckV P G N (.call ⟨.value fx, args, tys⟩) d os K env h = bOh P G N (aev G env fx) (args.toList.map (aev G env)) d os K env h := by
 rw [ckV]
 simp only [bCd, eK, mD, bOh, bKu]
 cases aev G env fx <;> simp [zK]
theorem bJt {f : FuncId} {a b args : List AV} {N : DR} : bOh P G N (.fn f a b) args d os K env h = bKu P G N f (a ++ args ++ b) d os K env h := rfl
def asl : Option (AV × List AObj) → Option AV
 | some (.hs _ _ n _, [.arr _ _ cells]) => if 0 < n ∧ persL cells = true then some (.sl cells n) else Option.none
 | _ => Option.none
theorem aTg {i o n sz : Nat} {t fz : Bool} {cells : List AV} : asl (some (.hs i o n t, [.arr fz sz cells])) = if 0 < n ∧ persL cells = true then some (.sl cells n) else Option.none := rfl
theorem aRc {op : Op} : kE P G dr (.b true) true op d os K env h = dK P G dr op d os K env h := by simp [kE, wE, pP]
theorem aRg {op : Op} : kE P G dr (.b false) false op d os K env h = dK P G dr op d os K env h := by simp [kE, wE, pP]
theorem aRd {op : Op} : kE P G dr (.b true) false op d os K env h = cT P G dr os K (fR env d (.tup [])) h := by simp [kE, wE, pP]
theorem aRf {op : Op} : kE P G dr (.b false) true op d os K env h = cT P G dr os K (fR env d (.tup [])) h := by simp [kE, wE, pP]
theorem aRe {op : Op} {want : Bool} : kE P G dr (.tup []) want op d os K env h = cT P G dr os K (fR env d (.tup [])) h := by simp [kE, wE, pP]
theorem xR {op : Op} {x want : Bool} (h1 : x = want → dK P G dr op d os K env h) (h2 : x = (!want) → cT P G dr os K (fR env d (.tup [])) h) : kE P G dr (.b x) want op d os K env h := by
 cases x <;> cases want <;> simp_all [kE, wE, pP]

theorem bCe : awx P G .skip Q env h = Q .normal env h := rfl
theorem aOm {ops : List fD} : awx P G (.region ops) Q env h = cT P G none ops (Q .normal) env h := rfl
theorem bCg {ops : List fD} : awx P G (.draw Option.none ops) Q env h = cT P G (some ⟨h.length, []⟩) ops (Q .normal) env h := rfl
theorem aWm {N : Nat} {L : List Nat} {v m s : Bool} {xs zs : List Nat} {ops : List fD} : awx P G (.draw (some ⟨some N, L, v, m, s, xs, zs⟩) ops) Q env h = cT P G (some ⟨N, L⟩) ops (Q .normal) env h := rfl
theorem aWn {L : List Nat} {v m s : Bool} {xs zs : List Nat} {ops : List fD} : awx P G (.draw (some ⟨none, L, v, m, s, xs, zs⟩) ops) Q env h = cT P G (some ⟨h.length, L⟩) ops (Q .normal) env h := rfl
theorem bKy {a b : jV} : awx P G (.seq a b) Q env h = awx P G a (zE (awx P G b Q) Q) env h := rfl
theorem bCh {c : Operand} {a b : jV} : awx P G (.cond c a b) Q env h = aAe P G (aev G env c) a b Q env h := rfl
theorem aWo {i : Nat} {c : jV} : awx P G (.block i c) Q env h = awx P G c (yK i Q) env h := rfl
theorem bCf {i : Nat} : awx P G (.exit i) Q env h = Q (.exit i) env h := rfl
theorem bKz : awx P G .ret Q env h = Q .ret env h := rfl
theorem W1 {K : List AV → List AObj → Prop} : zE K Q .normal env h = K env h := rfl
theorem aHo {K : List AV → List AObj → Prop} {i : Nat} : zE K Q (.exit i) env h = Q (.exit i) env h := rfl
theorem aOs {K : List AV → List AObj → Prop} : zE K Q .ret env h = Q .ret env h := rfl
theorem T9 {i : Nat} : yK i Q .normal env h = Q .normal env h := rfl
theorem aNh {i : Nat} : yK i Q .ret env h = Q .ret env h := rfl
theorem aGp {i j : Nat} : yK i Q (.exit j) env h = if j = i then Q .normal env h else Q (.exit j) env h := rfl
theorem bJb {a b : jV} : aAe P G (.b true) a b Q env h = awx P G a Q env h := by simp [aAe, pP]
theorem bJc {a b : jV} : aAe P G (.b false) a b Q env h = awx P G b Q env h := by simp [aAe, pP]
theorem C9 {a b : jV} {x : Bool} (h1 : x = true → awx P G a Q env h) (h2 : x = false → awx P G b Q env h) : aAe P G (.b x) a b Q env h := ⟨h1, h2⟩

theorem aWl {c : jV} {S : Type} (I : S → List AV → List AObj → Prop) (μ : S → Nat) (s0 : S) (h0 : I s0 env h) (round : ∀ s env h, I s env h → awx P G c (zE (fun e' h' => ∃ s', I s' e' h' ∧ μ s' < μ s) Q) env h) : awx P G (.loop c) Q env h :=
 ⟨S, I, μ, s0, h0, round⟩

theorem bDo {x : Operand} : dK P G dr (.move x) d os K env h = cT P G dr os K (fR env d (aev G env x)) h := rfl
theorem aPs {x : Operand} : dK P G dr (.assign x) d os K env h = cT P G dr os K (fR env d (aev G env x)) h := rfl
def bKc : AV → AV → AV → Option AV
 | .b t, a, b => some (if t then a else b)
 | _, _, _ => Option.none
theorem jX {x : Option AV} : xJ (match x with | some v => some (v, h) | Option.none => Option.none) (fun r h' => cT P G dr os K (fR env d r) h') = mU P G dr x d os K env h := by cases x <;> rfl
theorem bDn {c a b : Operand} : dK P G dr (.pick c a b) d os K env h = mU P G dr (bKc (aev G env c) (aev G env a) (aev G env b)) d os K env h := by
 simp only [dK, oW, dW, pS, eK, aop]
 cases aev G env c <;> rfl
def aNw : Bool → Option Nat → Option (List AV) → List AObj → Option (AV × List AObj)
 | true, some sz, some cells, h => some (.ptr h.length 0, h ++ [.arr false sz cells])
 | true, Option.none, some cells, h => some (.ptr h.length 0, h ++ [.box false cells])
 | false, _, some cells, h => some (.ptr h.length 0, h ++ [.box false cells])
 | _, _, Option.none, _ => Option.none
theorem aNv {c : List AV} {h : List AObj} : aNw true Option.none (some c) h = some (.ptr h.length 0, h ++ [.box false c]) := rfl
theorem aYb {T : TypeId} : dK P G dr (.alloc T) d os K env h = mK P G dr (aNw dr.isNone (iP P T) (zeroOf P T) h) d os K env := by
 simp only [dK, oW, dW, pS, eK, aop]
 cases iP P T <;> cases zeroOf P T <;> cases dr <;> rfl
theorem bLp {T : TypeId} {x : Operand} : dK P G dr (.box T x) d os K env h = mK P G dr (aNw dr.isNone (iP P T) (iA (aev G env x)) h) d os K env := by
 simp only [dK, oW, dW, pS, eK, aop]
 cases iP P T <;> cases iA (aev G env x) <;> cases dr <;> rfl
def aOb (pl : Option (List (Nat × Nat))) (z : Option (List AV)) (parts : List (Nat × AV)) : Option AV :=
 match pl, z with
 | some pl, some z => (kI (fun i => pl[i]?) z parts).map .agg
 | _, _ => Option.none
theorem aXy {T : TypeId} {parts : Array (Nat × Operand)} : dK P G dr (.build T parts) d os K env h = mU P G dr (aOb (gQ P T) (zeroOf P T) (parts.toList.map fun (i, x) => (i, aev G env x))) d os K env h := by
 simp only [dK, oW, dW, pS, eK, aop]
 cases gQ P T with
 | none => rfl
 | some pl =>
   cases zeroOf P T with
   | none => rfl
   | some z =>
     simp only [aOb]
     cases kI (fun i => pl[i]?) z (parts.toList.map fun (i, x) => (i, aev G env x)) <;> rfl
def gE (h : List AObj) (el : Option TypeId) (len : Nat) (parts : List (Nat × AV)) : Option (AV × List AObj) :=
 match el with
 | some e => match zeroOf P e with
   | some z => if jA P e = some z.length ∧ 0 < z.length ∧ len * z.length ≤ 65536 then
       (if len = 0 ∧ parts = [] then some (.e0, h) else (kI (fun i => some (i * z.length, z.length)) (List.replicate len z).flatten parts).map fun cells => (.hs h.length 0 len false, h ++ [.arr false z.length cells])) else Option.none
   | Option.none => Option.none
 | Option.none => Option.none
def aMn (dr : Option DR) (l : List (Nat × Operand)) (a b : Option (AV × List AObj)) : Option (AV × List AObj) := if (dr.isSome && aGi l) = true then a else b
theorem bTh {l : List (Nat × Operand)} {a b : Option (AV × List AObj)} : aMn Option.none l a b = b := rfl
theorem bTi {N : DR} {a b : Option (AV × List AObj)} : aMn (some N) [] a b = b := rfl
theorem bTg {N : DR} {i : Nat} {t : Tmp} {l : List (Nat × Operand)} {a b : Option (AV × List AObj)} : aMn (some N) ((i, .tmp t) :: l) a b = b := rfl
theorem bKe {T : TypeId} {len : Nat} {parts : Array (Nat × Operand)} : aop P G env h (.buildSlice T len parts) = gE (P := P) h (dX P T) len (parts.toList.map fun (i, x) => (i, aev G env x)) := by
 simp only [aop, gE]
 cases dX P T with
 | none => rfl
 | some e =>
   simp only
   cases zeroOf P e with
   | none => rfl
   | some z =>
     simp only
     have hm : (parts.toList = []) ↔ ((parts.toList.map fun (i, x) => (i, aev G env x)) = []) := by simp
     simp only [hm]
     split
     · split
       · rfl
       · cases kI (fun i => some (i * z.length, z.length)) (List.replicate len z).flatten (parts.toList.map fun (i, x) => (i, aev G env x)) <;> rfl
     · rfl
theorem Y0 {x : Option (AV × List AObj)} : xJ x (fun r h' => cT P G dr os K (fR env d r) h') = mK P G dr x d os K env := by
 cases x <;> rfl
theorem O5 {T : TypeId} {len : Nat} {parts : Array (Nat × Operand)} : dK P G dr (.buildSlice T len parts) d os K env h = mK P G dr (aMn dr parts.toList ((aTh P T len parts).map fun v => (v, h)) (gE (P := P) h (dX P T) len (parts.toList.map fun (i, x) => (i, aev G env x)))) d os K env := by
 rw [← bKe]
 simp only [dK, oW, dW, pS, eK]
 exact Y0
def jF : Nat → List (Nat × AV) → Option (List AV)
 | _, [] => some []
 | i, (j, a) :: rest => if j = i then (match iA a with
   | some [c] => (jF (i + 1) rest).map (c :: ·)
   | _ => Option.none) else Option.none
theorem U4 : ∀ (parts : List (Nat × AV)) (i : Nat) (cells pre : List AV) (z : AV), jF i parts = some cells → pre.length = i →
   kI (fun i => some (i * 1, 1)) (pre ++ List.replicate cells.length z) parts = some (pre ++ cells)
 | [], i, cells, pre, z, h, hp => by
   simp only [jF, aA] at h
   subst h
   simp [kI]
 | (j, a) :: rest, i, cells, pre, z, h, hp => by
   simp only [jF] at h
   split at h
   case isFalse => cases h
   rename_i hj
   subst hj
   split at h
   case h_2 => cases h
   rename_i c hc
   cases hr : jF (j + 1) rest with
   | none => simp [hr] at h
   | some cs =>
     simp only [hr, cD, aA] at h
     subst h
     have ih := U4 rest (j + 1) cs (pre ++ [c]) z hr (by simp [hp])
     simp only [kI, hc, aK, bJ, aI, List.length_replicate, Nat.mul_one, dB]
     rw [if_pos ⟨trivial, by omega⟩]
     have hs : kN (pre ++ List.replicate (cs.length + 1) z) j [c] = (pre ++ [c]) ++ List.replicate cs.length z := by
       unfold kN
       rw [List.take_left' hp, List.length_singleton, List.drop_append, aQ (by omega), hp]
       have : j + 1 - j = 1 := by omega
       rw [this, dG, gW, fF, dJ]
     have e1 : (fun i => some (i * 1, 1)) = (fun i : Nat => some (i, 1)) := by funext i; rw [Nat.mul_one]
     rw [e1] at ih
     rw [hs, ih, bW]; rfl
theorem aRr {i : Nat} : jF i [] = some [] := rfl
theorem bEy {i : Nat} {rest : List (Nat × AV)} {l : List UInt8} : jF i ((i, .s l) :: rest) = (jF (i + 1) rest).map (.s l :: ·) := by simp [jF, iA, AV.one]
theorem bEz {i : Nat} {rest : List (Nat × AV)} {k : IntKind} {n : Int} : jF i ((i, .i k n) :: rest) = (jF (i + 1) rest).map (.i k n :: ·) := by simp [jF, iA, AV.one]
theorem bAb {i : Nat} {rest : List (Nat × AV)} {c : List AV} {n : Nat} : jF i ((i, .sl c n) :: rest) = (jF (i + 1) rest).map (.sl c n :: ·) := by simp [jF, iA, AV.one]
theorem bAc {i : Nat} {rest : List (Nat × AV)} {id o n : Nat} {t : Bool} : jF i ((i, .hs id o n t) :: rest) = (jF (i + 1) rest).map (.hs id o n t :: ·) := by simp [jF, iA, AV.one]
def kG (h : List AObj) (el : Option TypeId) (len : Nat) (parts : List (Nat × AV)) : Option (AV × List AObj) :=
 match el with
 | some e => match zeroOf P e, jA P e, jF 0 parts with
   | some [_], some 1, some cells => if cells.length = len ∧ 0 < len ∧ len ≤ 65536 then some (.hs h.length 0 len false, h ++ [.arr false 1 cells]) else gE (P := P) h (some e) len parts
   | _, _, _ => gE (P := P) h (some e) len parts
 | Option.none => Option.none
theorem pV {el : Option TypeId} {len : Nat} {parts : List (Nat × AV)} : gE (P := P) h el len parts = kG (P := P) h el len parts := by
 unfold kG
 cases el with
 | none => rfl
 | some e =>
   simp only
   split
   · rename_i z cells hz hs hf
     split
     · rename_i hc
       obtain ⟨hc1, hc0, hc2⟩ := hc
       have := U4 parts 0 cells [] z hf rfl
       simp only [gE, hz, hs, List.length_singleton]
       rw [if_pos ⟨trivial, by omega, by omega⟩, if_neg (by omega)]
       have e2 : (List.replicate len [z]).flatten = [] ++ List.replicate cells.length z := by
         rw [hc1, dG]
         clear this hc1 hc0 hc2 hf
         induction len with
         | zero => rfl
         | succ n ih => rw [gW, bV, ih, gW]; rfl
       rw [e2, this]; rfl
     · rfl
   · rfl
theorem F5 {T : TypeId} {len : Nat} {parts : Array (Nat × Operand)} : dK P G dr (.buildSlice T len parts) d os K env h = mK P G dr (aMn dr parts.toList ((aTh P T len parts).map fun v => (v, h)) (kG (P := P) h (dX P T) len (parts.toList.map fun (i, x) => (i, aev G env x)))) d os K env := by
 rw [O5, pV]
theorem bJx {T : TypeId} {len : Nat} {parts : Array (Nat × Operand)} : aGt P (aev G env) T len parts = asl (gE (P := P) [] (dX P T) len (parts.toList.map fun (i, x) => (i, aev G env x))) := by
 unfold aGt gE
 cases dX P T with
 | none => rfl
 | some e =>
   simp only
   cases zeroOf P e with
   | none => rfl
   | some z =>
     simp only
     by_cases h1 : jA P e = some z.length ∧ 0 < z.length ∧ len * z.length ≤ 65536
     · rw [if_pos h1]
       by_cases h2 : 0 < len
       · rw [if_pos ⟨h1.1, h1.2.1, h2, h1.2.2⟩, if_neg (fun q => by omega)]
         cases kI (fun i => some (i * z.length, z.length)) (List.replicate len z).flatten (parts.toList.map fun (i, x) => (i, aev G env x)) with
         | none => rfl
         | some cells => simp only [cD, asl, dG, h2, true_and]
       · rw [if_neg (fun q => h2 q.2.2.1)]
         split
         · rfl
         · cases kI (fun i => some (i * z.length, z.length)) (List.replicate len z).flatten (parts.toList.map fun (i, x) => (i, aev G env x)) with
           | none => rfl
           | some cells => simp only [cD, asl, dG, h2, false_and, if_false]
     · rw [if_neg h1, if_neg (fun q => h1 ⟨q.1, q.2.1, q.2.2.2⟩)]; rfl
theorem aZi {T : TypeId} {len : Nat} {parts : Array (Nat × Operand)} {N : DR} : ckV P G N (.buildSlice T len parts) d os K env h = mU P G (some N) (asl (kG (P := P) [] (dX P T) len (parts.toList.map fun (i, x) => (i, aev G env x)))) d os K env h := by
 rw [← pV, ← bJx]; rfl
theorem bDp {T : TypeId} {x : Operand} : dK P G dr (.load T x) d os K env h = mU P G dr (tL P T h (aev G env x)) d os K env h := by
 simp only [dK, oW, dW, pS, eK, aop]; exact jX
theorem aXt {T : TypeId} {x y : Operand} : dK P G dr (.store T x y) d os K env h = bAt P G dr (rH P h T (aev G env x) (aev G env y)) d os K env := by
 simp only [dK, oW, dW, pS, eK, aop]
 cases rH P h T (aev G env x) (aev G env y) <;> rfl
def bOo (h : List AObj) : AV → Option AV
 | .ptr id off => match h[id]? with | some (.box ..) | some (.arr ..) | some (.held false _) => some (.ptr id off) | _ => Option.none
 | .box cells off => some (.box cells off)
 | .fn f a b => some (.fn f a b)
 | _ => Option.none
theorem aFl {x : Operand} : dK P G dr (.nilCheck x) d os K env h = mU P G dr (bOo h (aev G env x)) d os K env h := by
 simp only [dK, oW, dW, pS, eK, aop, bOo]
 cases aev G env x with
 | ptr id off =>
   simp only
   cases h[id]? with
   | none => rfl
   | some ob => cases ob with
     | held m q => cases m <;> rfl
     | _ => rfl
 | _ => rfl
theorem bLq {op : BinOp} {T U : TypeId} {x : Operand} {t : Nat} : dK P G dr (.binOp op T x (.tmp t) U) d os K env h = mU P G dr (aTy P op T (aev G env x) (aev G env (.tmp t))) d os K env h := by
 simp only [dK, oW, dW, pS, bBy, eK, aop]; exact jX
theorem aYa {op : BinOp} {T U : TypeId} {x : Operand} {k : IntKind} {n : Int} : dK P G dr (.binOp op T x (.const (.int k n)) U) d os K env h = mU P G dr (aTy P op T (aev G env x) (.i k n)) d os K env h := by
 simp only [dK, oW, dW, pS, bBy, eK, aop]; exact jX
theorem aXz {op : BinOp} {T U : TypeId} {x : Operand} {b : ByteArray} : dK P G dr (.binOp op T x (.const (.string b)) U) d os K env h = mU P G dr (aTy P op T (aev G env x) (aev G env (.const (.string b)))) d os K env h := by
 simp only [dK, oW, dW, pS, bBy, eK, aop]; exact jX
def bLt (P : Program) (G : eW) (A : Option TypeDesc) (v : AV) (d : Option Nat) (os : List fD) (K : List AV → List AObj → Prop) (env : List AV) (h : List AObj) : Prop :=
 match A with
 | some (.slice _) => (match v with
   | .e0 => cT P G none os K (fR env d (.b true)) h ∧ cT P G none os K (fR env d (.b false)) h
   | .sl _ n => (n = 0 → cT P G none os K (fR env d (.b true)) h) ∧ cT P G none os K (fR env d (.b false)) h
   | _ => False)
 | _ => False
theorem bLm {T U : TypeId} {x : Operand} : dK P G none (.binOp .eql T x (.const (.slice none 0 0)) U) d os K env h = bLt P G (P.underlying T) (aev G env x) d os K env h := by
 simp only [dK, oW, dW, pS, bBy, bEg, bLt]
 cases P.underlying T with
 | none => rfl
 | some t => cases t <;> first | rfl | (cases aev G env x <;> rfl)
theorem aUt {e : TypeId} {cells : List AV} {n : Nat} (h1 : n = 0 → cT P G none os K (fR env d (.b true)) h) (h2 : cT P G none os K (fR env d (.b false)) h) : bLt P G (some (.slice e)) (.sl cells n) d os K env h := ⟨h1, h2⟩
theorem bRv {op : UnOp} {T : TypeId} {x : Operand} : dK P G dr (.unOp op T x) d os K env h = mU P G dr (aUn op (aev G env x)) d os K env h := by
 simp only [dK, oW, dW, pS, eK, aop]; exact jX
theorem aFm {f : FuncId} {a b : Array Operand} : dK P G dr (.makeFunc (.func f) a b) d os K env h = cT P G dr os K (fR env d (.fn f (a.toList.map (aev G env)) (b.toList.map (aev G env)))) h := rfl
theorem aIz {T : TypeId} : dK P G dr (.makeMap T none) d os K env h = cT P G dr os K (fR env d (.mp h.length)) (h ++ [.map false [] []]) := rfl
theorem aXu {T : TypeId} {x : Operand} {l hi m : Option Operand} : dK P G dr (.slice T x l hi m) d os K env h = mU P G dr (oU P h T (aev G env x) (l.map (aev G env)) (hi.map (aev G env)) (m.map (aev G env))) d os K env h := by
 simp only [dK, oW, dW, pS, eK, aop]; exact jX
def uJ (h : List AObj) (q : Option (Nat × Option Nat)) (x : AV) : Option AV :=
 match q with
 | some (fo, some (_ + 1)) => match x with
   | .ptr id off => match h[id]? with | some (.box ..) | some (.arr ..) | some (.held false _) => some (.ptr id (off + fo)) | _ => Option.none
   | .box cells off => some (.box cells (off + fo))
   | _ => Option.none
 | _ => Option.none
def cH (P : Program) (S : TypeId) (f : Nat) : Option (Nat × Option Nat) := (iS P S f).map fun q => (q.1, jA P q.2)
theorem X6 {S : TypeId} {x : Operand} {f : Nat} : dK P G dr (.fieldAddr S x f) d os K env h = mU P G dr (uJ h (cH P S f) (aev G env x)) d os K env h := by
 simp only [dK, oW, dW, pS, eK, aop, uJ, cH]
 cases iS P S f with
 | none => rfl
 | some q =>
   obtain ⟨fo, ft⟩ := q
   simp only [cD]
   cases jA P ft with
   | none => rfl
   | some n =>
     cases n with
     | zero => rfl
     | succ n =>
       cases aev G env x with
       | ptr id off =>
         simp only
         cases h[id]? with
         | none => rfl
         | some ob => cases ob with
           | held m q => cases m <;> rfl
           | _ => rfl
       | _ => rfl
theorem X5 {T : TypeId} {x i : Operand} : dK P G dr (.indexAddr T x i) d os K env h = mU P G dr (gN P h T (aev G env x) (aev G env i)) d os K env h := by
 simp only [dK, oW, dW, pS, eK, aop]; exact jX
theorem aXx {T : TypeId} {x i : Operand} : dK P G dr (.index T x i) d os K env h = mU P G dr (yU P T (aev G env x) (aev G env i)) d os K env h := by
 simp only [dK, oW, dW, pS, eK, aop]; exact jX
theorem aPr {T : TypeId} {m k : Operand} {ok : Bool} : dK P G dr (.lookup T m k ok) d os K env h = mU P G dr (lV P h T (aev G env m) (aev G env k) ok) d os K env h := by
 simp only [dK, oW, dW, pS, eK, aop]; exact jX
def bBf (P : Program) (h : List AObj) (T : TypeId) (m k x : AV) : Option (List AObj) :=
 if pers x then eF P h T m k x else eF P (freeze (dN dep h x) h) T m k (gJ dep h x)
theorem X4 {T : TypeId} {m k x : Operand} : dK P G dr (.mapUpdate T m k x) d os K env h = bAt P G dr (bBf P h T (aev G env m) (aev G env k) (aev G env x)) d os K env := by
 simp only [dK, oW, dW, pS, eK, bBf]
 split
 · cases eF P h T (aev G env m) (aev G env k) (aev G env x) <;> rfl
 · cases eF P (freeze (dN dep h (aev G env x)) h) T (aev G env m) (aev G env k) (gJ dep h (aev G env x)) <;> rfl
def bOj : AV → Nat → Option AV
 | .tup vs, i => vs[i]?
 | _, _ => Option.none
theorem aJa {x : Operand} {i : Nat} : dK P G dr (.extract x i) d os K env h = mU P G dr (bOj (aev G env x) i) d os K env h := by
 simp only [dK, oW, dW, pS, eK, aop, bOj]
 cases aev G env x with
 | tup vs => exact jX
 | _ => rfl
theorem bLn {T : TypeId} {x : Operand} : dK P G dr (.call ⟨.builtin .len, #[x], #[T]⟩) d os K env h = mU P G dr ((aNy P h T (aev G env x)).map fun n => .i .i64 (Int.ofNat n)) d os K env h := by
 simp only [dK, oW, dW, pS, eK, mD, hY, aY, bS]
 cases aNy P h T (aev G env x) <;> rfl
def U8 (P : Program) (h : List AObj) (T : TypeId) (s x : AV) : Option (AV × List AObj) :=
 if pD h x then eY P h T s x else eY P (freeze (dN dep h x) h) T s (gJ dep h x)
theorem aPt {T : TypeId} {s x : Operand} : dK P G dr (.call ⟨.builtin .append, #[s, x], #[T, T]⟩) d os K env h = mK P G dr (U8 P h T (aev G env s) (aev G env x)) d os K env := by
 simp only [dK, oW, dW, pS, eK, mD, aY, bS, if_true, U8]
 split
 · cases eY P h T (aev G env s) (aev G env x) <;> rfl
 · cases eY P (freeze (dN dep h (aev G env x)) h) T (aev G env s) (gJ dep h (aev G env x)) <;> rfl
def L7 (P : Program) (G : eW) (dr : Option DR) (A : Option TypeDesc) (q : Option (AV × List AObj)) (d : Option Nat) (os : List fD) (K : List AV → List AObj → Prop) (env : List AV) : Prop :=
 match A with
 | some (.int _) => mK P G dr q d os K env
 | _ => False
theorem aHe {k : IntKind} {q : Option (AV × List AObj)} : L7 P G dr (some (.int k)) q d os K env = mK P G dr q d os K env := rfl
theorem sM {T U : TypeId} (hTU : T ≠ U) {s x : Operand} : dK P G dr (.call ⟨.builtin .append, #[s, x], #[T, U]⟩) d os K env h = L7 P G dr (P.underlying U) (nO P h T (aev G env s) (aev G env x)) d os K env := by
 simp only [dK, oW, dW, pS, eK, mD, aY, bS, if_neg hTU]
 generalize nO P h T (aev G env s) (aev G env x) = q
 cases P.underlying U with
 | none => rfl
 | some t => cases t <;> first | rfl | (cases q <;> rfl)
theorem bLo {T : TypeId} {x : Operand} : dK P G dr (.call ⟨.builtin .cap, #[x], #[T]⟩) d os K env h = mK P G dr (hY P h .cap #[T] [aev G env x]) d os K env := by
 simp only [dK, oW, dW, pS, eK, mD, aY, bS]
 cases hY P h .cap #[T] [aev G env x] <;> rfl
theorem aMw {T e : TypeId} {h : List AObj} (hT : P.underlying T = some (.slice e)) : hY P h .cap #[T] [.e0] = some (.i .i64 0, h) := by simp [hY, hT]
theorem aTq {T : TypeId} {x : AV} {h : List AObj} : U8 P h T .e0 x = if pD h x then eY P h T .e0 x else eY P (freeze (dN dep h x) h) T .e0 (gJ dep h x) := rfl
theorem aTp {T : TypeId} {x : AV} {h : List AObj} {id o n : Nat} {t : Bool} : U8 P h T (.hs id o n t) x = if pD h x then eY P h T (.hs id o n t) x else eY P (freeze (dN dep h x) h) T (.hs id o n t) (gJ dep h x) := rfl
theorem bDq {fx : Operand} {args : Array Operand} {tys : Array TypeId} : dK P G dr (.call ⟨.value fx, args, tys⟩) d os K env h = bBd P G dr (aev G env fx) (args.toList.map (aev G env)) d os K env h := by
 simp only [dK, oW, dW, pS, eK, mD, bBd]
 cases aev G env fx <;> rfl
def aIy (P : Program) (G : eW) (T : Option TypeDesc) (x : AV) (h1 : List AObj) (d : Option Nat) (os : List fD) (K : List AV → List AObj → Prop) (env : List AV) : Prop :=
 match T, x with
 | some (.map _ _), .mapv ks vs => cT P G none os K (fR env d (.ptr h1.length 0)) (h1 ++ [.mit none ks vs])
 | some .string, .s l => cT P G none os K (fR env d (.ptr h1.length 0)) (h1 ++ [.sit l 0])
 | _, _ => False
theorem aXv {T : TypeId} {x : Operand} : dK P G none (.range T x) d os K env h = aIy P G (P.underlying T) (gJ dep h (aev G env x)) (freeze (dN dep h (aev G env x)) h) d os K env := by
 simp only [dK, oW, dW, pS, eK, wH, aP, if_false, aIy]
 cases P.underlying T with
 | none => rfl
 | some t => cases t <;> first | rfl | (cases gJ dep h (aev G env x) <;> rfl)
def bSe (P : Program) (G : eW) (x : AV) (d : Option Nat) (os : List fD) (K : List AV → List AObj → Prop) (env : List AV) (h : List AObj) : Prop :=
 match x with
 | .ptr id 0 => match h[id]? with
   | some (.mit _ ks vs) => (ks = [] → cT P G none os K (fR env d (.tup [.b false])) h) ∧ ∀ (j : Nat) (k v : AV), ks[j]? = some k → vs[j]? = some v → cT P G none os K (fR env d (.tup [.b true, k, v])) (h.set id (.mit (some (k, v)) (ks.eraseIdx j) (vs.eraseIdx j)))
   | _ => False
 | _ => False
theorem aIv {l : List UInt8} {h1 : List AObj} : aIy P G (some .string) (.s l) h1 d os K env = cT P G none os K (fR env d (.ptr h1.length 0)) (h1 ++ [.sit l 0]) := rfl
def aCf (P : Program) (G : eW) (x : AV) (d : Option Nat) (os : List fD) (K : List AV → List AObj → Prop) (env : List AV) (h : List AObj) : Prop :=
 match x with
 | .ptr id 0 => match h[id]? with
   | some (.sit l pos) => (l.length ≤ pos → cT P G none os K (fR env d (.tup [.b false])) h) ∧ ∀ (c : UInt8), l[pos]? = some c → (c.toNat < 128 → cT P G none os K (fR env d (.tup [.b true, .i .i64 pos, .i .i32 c.toNat])) (h.set id (.sit l (pos + 1)))) ∧
       ∀ (rn k : Nat), 128 ≤ c.toNat → 128 ≤ rn → rn ≤ 2147483647 → 1 ≤ k → cT P G none os K (fR env d (.tup [.b true, .i .i64 pos, .i .i32 rn])) (h.set id (.sit l (pos + k)))
   | _ => False
 | _ => False
theorem aXw {x : Operand} : dK P G none (.next x true) d os K env h = aCf P G (aev G env x) d os K env h := by
 simp only [dK, oW, dW, pS, eK, wH, aP, if_false, aCf]
 cases aev G env x with
 | ptr id o => cases o with
   | zero => simp only; cases h[id]? with
     | none => rfl
     | some ob => cases ob <;> rfl
   | succ o => rfl
 | _ => rfl
theorem Y7 {id : Nat} {l : List UInt8} {pos : Nat} (hid : h[id]? = some (.sit l pos)) (h0 : l.length ≤ pos → cT P G none os K (fR env d (.tup [.b false])) h)
   (h1 : ∀ (c : UInt8), l[pos]? = some c → c.toNat < 128 → cT P G none os K (fR env d (.tup [.b true, .i .i64 pos, .i .i32 c.toNat])) (h.set id (.sit l (pos + 1))))
   (h2 : ∀ (c : UInt8) (rn k : Nat), l[pos]? = some c → 128 ≤ c.toNat → 128 ≤ rn → rn ≤ 2147483647 → 1 ≤ k → cT P G none os K (fR env d (.tup [.b true, .i .i64 pos, .i .i32 rn])) (h.set id (.sit l (pos + k)))) : aCf P G (.ptr id 0) d os K env h := by
 unfold aCf
 simp only [hid]
 exact ⟨h0, fun c hc => ⟨h1 c hc, fun rn k => h2 c rn k hc⟩⟩
theorem bTl {f : FuncId} {a b args : List AV} : bBd P G dr (.fn f a b) args d os K env h = tH P G dr f (a ++ args ++ b) d os K env h := rfl
theorem aGl {f : FuncId} {A : List AV} {r : AV} (s : Ctr P G f (A.map (gJ dep h)) r) (k : cT P G dr os K (fR env d (mat r (fI r h A)).1) (mat r (fI r h A)).2) : tH P G dr f A d os K env h := by
 cases dr
 · exact ACalls.sem s k
 · exact ⟨r, s, k⟩

def aPc (h : List AObj) : AV → AV
 | .e0 => .e0
 | a => gJ dep h a
theorem aMy {f : FuncId} {A A' : List AV} {r : AV} (s : Ctr P G f A' r) (hA : A.map (aPc h) = A') (k : cT P G none os K (fR env d (mat r (fI r h A)).1) (mat r (fI r h A)).2) : tH P G none f A d os K env h := by
 subst hA
 refine ACalls.sem0 s (by simp) (fun j a a' h1 h2 => ?_) k
 rw [dR, h1] at h2
 simp only [cD, aA] at h2
 subst h2
 cases a <;> first | exact .inr ⟨rfl, rfl⟩ | exact .inl rfl

theorem bCo {v : AV} : mU P G dr (some v) d os K env h = cT P G dr os K (fR env d v) h := rfl
theorem bLe {c : Prop} [Decidable c] {v : AV} : mU P G dr (if c then some v else Option.none) d os K env h = (c ∧ cT P G dr os K (fR env d v) h) := by
 by_cases hc : c <;> simp [hc, mU]
theorem bEs {h' : List AObj} : bAt P G dr (some h') d os K env = cT P G dr os K (fR env d .u) h' := rfl
theorem aWv {v : AV} {h' : List AObj} : mK P G dr (some (v, h')) d os K env = cT P G dr os K (fR env d v) h' := rfl
theorem bCn {c : Prop} [Decidable c] {v : AV} {h' : List AObj} : mK P G dr (if c then some (v, h') else Option.none) d os K env = (c ∧ cT P G dr os K (fR env d v) h') := by
 by_cases hc : c <;> simp [hc, mK]
theorem aPu {n : Nat} {x : AV} : fR env (some n) x = env.set n x := rfl
theorem aPv {x : AV} : fR env Option.none x = env := rfl
theorem bFa {t : Nat} : aev G env (.tmp t) = env.getD t .u := rfl
theorem aRt {v : Value} : aev G env (.const v) = aWg v := rfl
theorem bAe {f : FuncId} : aev G env (.func f) = .fn f [] [] := rfl
end

attribute [go_sem] aRr bEy bEz bAb bAc
attribute [go_sem ↓] bCe aOm bCg aWm aWn bKy bCh aWo aYh aQc aJs aUq bDo aPs bDn aYb bLp aXy F5 bDp aXt aFl bLq aYa aXz bLm bRv aFm aIz aXu X6 X5 aXx aPr X4 aJa bLn aPt sM bLo bDq aXv aXw
attribute [go_sem] Int.toNat_one aHe bCf bKz W1 aHo aOs T9 aNh aGp bJb bJc aRc aRg aRd aRf aRe bTl bJt bCo bLe bEs aWv bCn aPu aPv bFa aRt bAe
attribute [go_sem ↓] aZi aKq
attribute [go_sem] aTg aNv
attribute [go_sem] bTh bTi bTg aWg aGs aNy gN yU tL aEc apart rH kN iA AV.one aTy aTx bKt aTv aEq iO aUn aGy oU I9 pD lV nP bBf eF aTq aTp nO eY nQ aIv bKc uJ bOj bOo aOb kG gE kI
attribute [go_sem] List.set_cons_succ List.set_cons_zero List.getD_cons_succ uL aY bS cD Int.ofNat_eq_natCast Int.toNat_natCast Nat.mul_one wI dB aAw cM cU aK bJ dG dE List.append_nil eM yV fF dJ
attribute [go_sem] dN pers persL flat flatL mat matL fI aEb vV U1

inductive bKj where
 | k
 | j
 | v (x : AV)

def vM (F : Nat → AV) : Nat → List bKj → List AV → List AV
 | i, .k :: ps, v :: vs => v :: vM F (i + 1) ps vs
 | i, .j :: ps, _ :: vs => F i :: vM F (i + 1) ps vs
 | i, .v x :: ps, _ :: vs => x :: vM F (i + 1) ps vs
 | _, _, _ => []
def eQ : List bKj → List AV → List AV → Prop
 | .k :: ps, v :: vs, w :: ws => w = v ∧ eQ ps vs ws
 | .j :: ps, _ :: vs, _ :: ws => eQ ps vs ws
 | .v x :: ps, _ :: vs, w :: ws => w = x ∧ eQ ps vs ws
 | [], [], [] => True
 | _, _, _ => False

theorem aZb : ∀ (ps : List bKj) (E e : List AV) (i : Nat) (F : Nat → AV), (∀ m v, e[m]? = some v → F (i + m) = v) → eQ ps E e → vM F i ps E = e := by
 intro ps
 induction ps with
 | nil => intro E e i F _ h; cases E <;> cases e <;> simp [eQ] at h; simp [vM]
 | cons p ps ih =>
   intro E e i F hF h
   cases E with
   | nil => cases e <;> cases p <;> simp [eQ] at h
   | cons v vs =>
     cases e with
     | nil => cases p <;> simp [eQ] at h
     | cons w ws =>
       have hF' : ∀ m v, ws[m]? = some v → F (i + 1 + m) = v := fun m u hm => by have := hF (m + 1) u (by simpa using hm); rw [← this]; congr 1; omega
       cases p with
       | k => obtain ⟨h1, h2⟩ := h; simp only [vM]; rw [ih vs ws _ F hF' h2, h1]
       | j => simp only [vM]; rw [ih vs ws _ F hF' h]; have := hF 0 w rfl; simpa using this
       | v x => obtain ⟨h1, h2⟩ := h; simp only [vM]; rw [ih vs ws _ F hF' h2, h1]

section
variable {P : Program} {G : eW} {env : List AV} {h : List AObj} {Q : Exit → List AV → List AObj → Prop}

theorem bT {c : jV} {S : Type} (ps : S → List bKj) (hp : S → List AObj) (I : S → Prop) (μ : S → Nat) (s0 : S) (h0 : I s0) (hh : h = hp s0) (k0 : eQ (ps s0) env env)
   (round : ∀ (s : S) (j : Nat → AV), I s → awx P G c (zE (fun e' h' => ∃ s', I s' ∧ μ s' < μ s ∧ h' = hp s' ∧ eQ (ps s') env e') Q) (vM j 0 (ps s) env) (hp s)) : awx P G (.loop c) Q env h := by
 refine aWl (fun s e h' => I s ∧ h' = hp s ∧ eQ (ps s) env e) μ s0 ⟨h0, hh, k0⟩ ?_
 rintro s e h' ⟨hI, rfl, hf⟩
 have he : vM (fun n => e.getD n .u) 0 (ps s) env = e := aZb _ env e 0 _ (fun m v hv => by simp [List.getD, hv]) hf
 have r := round s (fun n => e.getD n .u) hI
 rw [he] at r
 have mono : (fun e2 h2 => ∃ s', I s' ∧ μ s' < μ s ∧ h2 = hp s' ∧ eQ (ps s') env e2) = fun e2 h2 => ∃ s', (I s' ∧ h2 = hp s' ∧ eQ (ps s') env e2) ∧ μ s' < μ s := by
   funext e2 h2
   exact propext ⟨fun ⟨s', a, b, c, d⟩ => ⟨s', ⟨a, c, d⟩, b⟩, fun ⟨s', ⟨a, c, d⟩, b⟩ => ⟨s', a, b, c, d⟩⟩
 rw [mono] at r
 exact r

end

section
variable {P : Program} {G : eW} {env : List AV} {h : List AObj} {Q : Exit → List AV → List AObj → Prop}
theorem dV {c : jV} {S : Type} (ps : S → List bKj) (hp : S → List AObj) (I : S → Prop) (μ : S → Nat) (s0 : S) (g0 : List AObj) (h0 : I s0) (hh : h = hp s0 ++ g0) (k0 : eQ (ps s0) env env)
   (round : ∀ (s : S) (g : List AObj) (j : Nat → AV), I s → awx P G c (zE (fun e' h' => ∃ s' g', I s' ∧ μ s' < μ s ∧ h' = hp s' ++ g' ∧ eQ (ps s') env e') Q) (vM j 0 (ps s) env) (hp s ++ g)) : awx P G (.loop c) Q env h := by
 refine bT (S := S × List AObj) (fun s => ps s.1) (fun s => hp s.1 ++ s.2) (fun s => I s.1) (fun s => μ s.1) (s0, g0) h0 hh k0 ?_
 rintro ⟨s, g⟩ j hI
 have r := round s g j hI
 have mono : (fun (e2 : List AV) (h2 : List AObj) => ∃ s' g', I s' ∧ μ s' < μ s ∧ h2 = hp s' ++ g' ∧ eQ (ps s') env e2) = fun e2 h2 => ∃ s' : S × List AObj, I s'.1 ∧ μ s'.1 < μ s ∧ h2 = hp s'.1 ++ s'.2 ∧ eQ (ps s'.1) env e2 := by
   funext e2 h2
   exact propext ⟨fun ⟨s', g', a, b, c, d⟩ => ⟨(s', g'), a, b, c, d⟩, fun ⟨s', a, b, c, d⟩ => ⟨s'.1, s'.2, a, b, c, d⟩⟩
 rw [mono] at r
 exact r
end

section
variable {α : Type} {f : α → List AV} {m : Nat}
theorem mJ (hf : ∀ x, (f x).length = m) : ∀ (l : List α), (l.flatMap f).length = l.length * m
 | [] => by simp
 | x :: l => by rw [cY, aI, hf, mJ hf l, aK, Nat.succ_mul, mX]
theorem R5 (hf : ∀ x, (f x).length = m) : ∀ (l : List α) (k : Nat), (l.flatMap f).drop (k * m) = (l.drop k).flatMap f
 | l, 0 => by simp
 | [], k + 1 => by simp
 | x :: l, k + 1 => by
   rw [cY, Nat.succ_mul, mX, ← yW, List.drop_left' (hf x), R5 hf l k, fF]
theorem R4 (hf : ∀ x, (f x).length = m) : ∀ (l : List α) (k : Nat), (l.flatMap f).take (k * m) = (l.take k).flatMap f
 | l, 0 => by simp
 | [], k + 1 => by simp
 | x :: l, k + 1 => by
   rw [cY, Nat.succ_mul, mX, List.take_append, hf, Nat.add_sub_cancel_left, R4 hf l k, eM, cY, aS (by rw [hf]; omega)]
theorem oG (hf : ∀ x, (f x).length = m) (l : List α) (k : Nat) : ((l.flatMap f).drop (k * m)).take m = ((l[k]?).map f).getD [] := by
 rw [R5 hf]
 have : (l.drop k).flatMap f = ((l[k]?).map f).getD [] ++ (l.drop (k + 1)).flatMap f := by
   cases hk : l[k]? with
   | none =>
     have hle := List.getElem?_eq_none_iff.1 hk
     rw [aQ hle, aQ (by omega)]; simp
   | some x =>
     obtain ⟨hlt, hx⟩ := eD.1 hk
     rw [bB hlt, cY, hx]; simp
 rw [this]
 cases hk : l[k]? with
 | none =>
   have hle := List.getElem?_eq_none_iff.1 hk
   rw [aQ (by omega)]; simp
 | some x => simp [List.take_left' (hf x)]
theorem aCq (hf : ∀ x, (f x).length = m) (l : List α) (k : Nat) {j : Nat} (hj : j < m) : (l.flatMap f)[k * m + j]? = (l[k]?).bind fun x => (f x)[j]? := by
 have h1 : (l.flatMap f)[k * m + j]? = ((((l.flatMap f).drop (k * m)).take m))[j]? := by
   rw [List.getElem?_take_of_lt hj, dL]
 rw [h1, oG hf]
 cases hk : l[k]? with
 | none => simp
 | some x => simp
end
end Go.Vo

namespace Go.Vo
section
variable {P : Program} {G : eW} {dr : Option DR} {d : Option Nat} {os : List fD} {K : List AV → List AObj → Prop} {env : List AV} {h : List AObj} {Q : Exit → List AV → List AObj → Prop}
theorem aVb {op : Op} {x : Bool} (h1 : x = true → dK P G dr op d os K env h) (h2 : x = false → cT P G dr os K (fR env d (.tup [])) h) : kE P G dr (.b x) true op d os K env h := xR h1 h2
theorem aKx {op : Op} {x : Bool} (h1 : x = false → dK P G dr op d os K env h) (h2 : x = true → cT P G dr os K (fR env d (.tup [])) h) : kE P G dr (.b x) false op d os K env h := xR h1 h2
end
theorem aE {h : List AObj} {x r : AV} (hr : r = x) (hp : pers x = true) : Fin h x r := .inl ⟨hr, hp⟩
attribute [go_sem] true_and and_true if_true if_false aP aA exists_eq_left' reduceCtorEq or_true false_or true_or or_false
attribute [go_sem] vM eQ
theorem wrap64 {x : Int} (h1 : -9223372036854775808 ≤ x) (h2 : x ≤ 9223372036854775807) : IntKind.i64.wrap x = x := IntWalk.i64_in _ (by omega)
theorem aXe {s : List UInt8} : decide (s = []) = decide (s.length = 0) := by cases s <;> simp
attribute [go_sem] wrap64 aXe Int.toNat_zero Bool.not_true Bool.not_false
theorem aNt {d : Nat} : tK Option.none d = some d := rfl
theorem aTn {k : IntKind} {n : Int} {d : Nat} (h : 0 ≤ n) : tK (some (.i k n)) d = some n.toNat := if_pos h
theorem aEv {m : Nat} : ((m : Int) - 1).toNat = m - 1 := by omega
theorem aEu {m : Nat} : ((m : Int) - 2).toNat = m - 2 := by omega
theorem W0 {m : Nat} (h : 2 ≤ m) : ((m : Int) - 2 + 1).toNat = m - 1 := by omega
attribute [go_sem] aNt aTn aEv aEu W0 Option.map_none wH Option.isSome_some iH iG Bool.and_false Bool.false_and Bool.true_and Bool.and_true
theorem aKh {l : List (List UInt8)} {k : Nat} (h : k < l.length) : (l.map AV.s)[k]? = some (.s (l.getD k [])) := by simp [h]
theorem P9 {q : IntKind} {l : List Int} {k : Nat} (h : k < l.length) : (l.map (AV.i q))[k]? = some (.i q (l.getD k 0)) := by simp [h]
attribute [go_sem] aKh P9
theorem H4 {h : List AObj} {id sz n m : Nat} {cells cs : List AV} (hid : h[id]? = some (.arr false sz cs)) (hm : m = n) (hc : cells = cs) (hl : cs.length = n * sz) (hp : persL cs = true) : Fin h (.hs id 0 n false) (.own sz cells m) := by
 subst hm hc
 refine .inr ⟨⟨rfl, rfl, cells, hid, by omega, ?_, hp⟩, by simp [bK], by simp [bK, hJ]⟩
 rw [dJ, aS (by omega)]
theorem aOv {α : Type} {l : List α} {n : Nat} (h : l.length ≤ n) : l.take n = l := aS h
attribute [go_sem] kK
def E7 (h : List AObj) (a : AV) : AV :=
 let L := fun l => if persL l then l else l.map (gJ 8 h)
 match a with
 | .e0 => .sl [] 0
 | .hs id off n _ => match h[id]? with
   | some (.arr _ sz cells) => if off + n * sz ≤ cells.length then .sl (L ((cells.drop off).take (n * sz))) n else .u
   | _ => .u
 | .ptr id off => match h[id]? with
   | some (.box _ cells) => .box (L cells) off
   | some (.arr _ _ cells) => .box (L cells) off
   | _ => .u
 | .mp id => match h[id]? with
   | some (.map _ ks vs) => .mapv (L ks) (L vs)
   | _ => .u
 | .fn f a b => .fn f (L a) (L b)
 | .agg cs => .agg (L cs)
 | .tup vs => .tup (L vs)
 | _ => .u
theorem jC {h : List AObj} {a : AV} : gJ dep h a = if pers a then a else E7 h a := rfl
theorem iN {l : List (List UInt8)} : persL (l.map AV.s) = true := by
 induction l with
 | nil => rfl
 | cons x l ih => simp [persL, pers, ih]
theorem fP {k : IntKind} {l : List Int} : persL (l.map (AV.i k)) = true := by
 induction l with
 | nil => rfl
 | cons x l ih => simp [persL, pers, ih]
theorem aX {P : Program} {G : eW} {dr : Option DR} {d : Option Nat} {os : List fD} {K : List AV → List AObj → Prop} {env : List AV} {h : List AObj} {f : FuncId} {A A' : List AV} {r : AV} (s : Ctr P G f A' r) (hA : A.map (gJ dep h) = A')
   (k : cT P G dr os K (fR env d (mat r (fI r h A)).1) (mat r (fI r h A)).2) : tH P G dr f A d os K env h := aGl (hA ▸ s) k
theorem aOu {α β : Type} {f : α → β} {l : List α} {k : Nat} : (l.map f).take k = (l.take k).map f := List.map_take.symm
theorem aRx {α β : Type} {f : α → β} {l : List α} {k : Nat} : (l.map f).drop k = (l.drop k).map f := List.map_drop.symm
theorem aQs {α : Type} {l : List α} {k : Nat} (h : k ≤ l.length) : (l.take k).length = k := by simp; omega
attribute [go_sem] jC E7 iN fP aOu aRx aQs List.length_drop Nat.sub_zero
attribute [go_sem] aOv
theorem aZs {l : List (List UInt8)} : flatL (l.map AV.s) = true := by
 induction l with
 | nil => rfl
 | cons x l ih => simp [flatL, flat, ih]
theorem aZt {k : IntKind} {l : List Int} : flatL (l.map (AV.i k)) = true := by
 induction l with
 | nil => rfl
 | cons x l ih => simp [flatL, flat, ih]
attribute [go_sem] bG aZs aZt iB mO cY freeze AObj.fz
section
variable {P : Program} {G : eW} {N : DR} {env : List AV}
theorem bAv {T : TypeId} {x : Operand} : I4 G N (.load T x) env = jO N (aev G env x) := by simp [I4, Op.operands, pJ]
theorem bJe {x : Operand} : I4 G N (.nilCheck x) env = jO N (aev G env x) := by simp [I4, Op.operands, pJ]
theorem T3 {T : TypeId} {x : Operand} {f : Nat} : I4 G N (.fieldAddr T x f) env = jO N (aev G env x) := by simp [I4, Op.operands, pJ]
theorem T2 {T : TypeId} {x i : Operand} : I4 G N (.indexAddr T x i) env = (jO N (aev G env x) ∧ jO N (aev G env i)) := by simp [I4, Op.operands, pJ]
theorem bJf {T : TypeId} {x : Operand} : I4 G N (.call ⟨.builtin .len, #[x], #[T]⟩) env = jO N (aev G env x) := by simp [I4, Op.operands, Call.operands, pJ]
theorem aMt {T : TypeId} {s x : Operand} : I4 G N (.call ⟨.builtin .append, #[s, x], #[T, T]⟩) env = uT N (aev G env s) := by simp [I4]
variable {P : Program} {d : Option Nat} {os : List fD} {K : List AV → List AObj → Prop} {h : List AObj}
theorem bEm {T : TypeId} {x : Operand} : ckV P G N (.load T x) d os K env h = (jO N (aev G env x) ∧ dK P G (some N) (.load T x) d os K env h) := by rw [← bAv (T := T)]; rfl
theorem aZh {T : TypeId} {a x : Operand} : ckV P G N (.store T a x) d os K env h = (uT N (aev G env a) ∧ dK P G (some N) (.store T a x) d os K env h) := rfl
theorem bLz {x : Operand} : ckV P G N (.nilCheck x) d os K env h = (jO N (aev G env x) ∧ dK P G (some N) (.nilCheck x) d os K env h) := by rw [← bJe]; rfl
theorem Z6 {T : TypeId} {x : Operand} {f : Nat} : ckV P G N (.fieldAddr T x f) d os K env h = (jO N (aev G env x) ∧ dK P G (some N) (.fieldAddr T x f) d os K env h) := by rw [← T3 (T := T) (f := f)]; rfl
theorem Z5 {T : TypeId} {x i : Operand} : ckV P G N (.indexAddr T x i) d os K env h = ((jO N (aev G env x) ∧ jO N (aev G env i)) ∧ dK P G (some N) (.indexAddr T x i) d os K env h) := by rw [← T2 (T := T)]; rfl
theorem bMa {T : TypeId} {x : Operand} : ckV P G N (.call ⟨.builtin .len, #[x], #[T]⟩) d os K env h = (jO N (aev G env x) ∧ dK P G (some N) (.call ⟨.builtin .len, #[x], #[T]⟩) d os K env h) := by rw [← bJf (T := T)]; rfl
theorem aQx {T : TypeId} {s x : Operand} : ckV P G N (.call ⟨.builtin .append, #[s, x], #[T, T]⟩) d os K env h = (uT N (aev G env s) ∧ dK P G (some N) (.call ⟨.builtin .append, #[s, x], #[T, T]⟩) d os K env h) := by rw [← aMt (T := T) (x := x)]; rfl
theorem aYn {n id : Nat} : DR.old ⟨n, []⟩ id = (id < n) := rfl
theorem aYm {n x id : Nat} : DR.old ⟨n, [x]⟩ id = (id < n ∧ ¬ id = x) := by simp [DR.old]
theorem aZa {n id : Nat} : DR.mut ⟨n, []⟩ id = (n ≤ id) := rfl
theorem aYz {n x id : Nat} : DR.mut ⟨n, [x]⟩ id = (n ≤ id ∨ id = x) := by simp [DR.mut]
end
theorem aZn {α : Type} {l m : List α} {n : Nat} : (l ++ m)[l.length + n]? = m[n]? := by rw [aH (by omega)]; congr 1; omega
theorem H0 {α : Type} {l m : List α} : (l ++ m)[l.length]? = m[0]? := by rw [aH (by omega)]; congr 1; omega
theorem aXi {α : Type} {l m : List α} {n : Nat} {a : α} : (l ++ m).set (l.length + n) a = l ++ m.set n a := by rw [qV _ _ (by omega)]; congr 2; omega
theorem aPe {α : Type} {l m : List α} {a : α} : (l ++ m).set l.length a = l ++ m.set 0 a := by rw [qV _ _ (by omega)]; congr 2; omega
attribute [go_sem] aZn H0 aXi aPe bW aI
attribute [go_sem ↓] bEm aZh bLz Z6 Z5 bMa aQx
attribute [go_sem] jO uT AV.refs aYn aYm aZa aYz
def eZ (sz N : Nat) (g : List AObj) (out : AV) (cells : List AV) (n : Nat) : Prop :=
 (out = .e0 ∧ cells = [] ∧ n = 0) ∨ ∃ i, out = .hs (i + N) 0 n false ∧ g[i]? = some (.arr false sz cells) ∧ cells.length = n * sz
theorem kU {sz N : Nat} {g : List AObj} : eZ sz N g .e0 [] 0 := .inl ⟨rfl, rfl, rfl⟩
theorem eZ.more {sz N : Nat} {g : List AObj} {out : AV} {cells : List AV} {n : Nat} (h : eZ sz N g out cells n) (g' : List AObj) : eZ sz N (g ++ g') out cells n := by
 rcases h with h | ⟨i, h1, h2, h3⟩
 · exact .inl h
 · exact .inr ⟨i, h1, by rw [aC (aM h2)]; exact h2, h3⟩
section
variable {P : Program} {G : eW} {dr : Option DR} {d : Option Nat} {os : List fD} {K : List AV → List AObj → Prop} {env : List AV}
theorem aNp {pre g : List AObj} {T e by_ : Nat} {z : List AV} {out x : AV} {cells news : List AV} {n m : Nat} (ho : eZ z.length pre.length g out cells n) (hT : dX P T = some e) (hz : zeroOf P e = some z) (hs : jA P e = some z.length) (hb : aDm P e = some by_)
   (hpos : 0 < z.length) (hp : pD (pre ++ g) x = true) (hx : I9 (pre ++ g) z.length x = some (news, m)) (hbd : (n + m) * by_ ≤ 140737488355328 ∧ n + m ≤ 140737488355328)
   (k : ∀ out' g', eZ z.length pre.length g' out' (cells ++ news) (n + m) → (∀ (i : Nat) (o : AObj), g[i]? = some o → (∀ c : List AV, o ≠ .arr false z.length c) → g'[i]? = some o) → cT P G dr os K (fR env d out') (pre ++ g')) : mK P G dr (U8 P (pre ++ g) T out x) d os K env := by
 have hm : news.length = m * z.length := by
   cases x with
   | e0 => simp only [I9, aA, aJ] at hx; obtain ⟨rfl, rfl⟩ := hx; simp
   | sl c q =>
     simp only [I9] at hx
     split at hx
     · simp only [aA, aJ] at hx; obtain ⟨rfl, rfl⟩ := hx; assumption
     · cases hx
   | hs id off q t =>
     simp only [I9] at hx
     split at hx
     · split at hx
       · rename_i hc
         simp only [aA, aJ] at hx; obtain ⟨rfl, rfl⟩ := hx
         rw [jL, List.length_drop]; omega
       · cases hx
     · cases hx
   | _ => simp [I9] at hx
 have e1 : U8 P (pre ++ g) T out x = eY P (pre ++ g) T out x := by simp [U8, hp]
 rw [e1]
 rcases ho with ⟨rfl, rfl, rfl⟩ | ⟨i, rfl, hi, hl⟩
 · have e2 : eY P (pre ++ g) T .e0 x = some (.hs (pre ++ g).length 0 m false, (pre ++ g) ++ [.arr false z.length news]) := by
     simp only [eY, hT, hz, hb, hpos, hs, hx, and_self, if_true, true_and]
     rw [if_pos (by simpa using hbd)]
   rw [e2]
   show cT P G dr os K _ _
   rw [bW]
   refine k _ _ (.inr ⟨g.length, ?_, by simp, by simpa using hm⟩) (fun i o ho _ => by rw [aC (aM ho)]; exact ho)
   simp [mX]
 · have hlt := aM hi
   have hg : (pre ++ g)[i + pre.length]? = some (.arr false z.length cells) := by
     rw [aH (by omega)]; simpa using hi
   have e2 : eY P (pre ++ g) T (.hs (i + pre.length) 0 n false) x = some (.hs (pre ++ g).length 0 (n + m) false, (pre ++ g).set (i + pre.length) .dead ++ [.arr false z.length (cells ++ news)]) := by
     simp only [eY, hT, hz, hb, hpos, hs, hx, hg, and_self, if_true, true_and, hl, dB, bG, hbd, aP, if_false, dJ]
   rw [e2]
   show cT P G dr os K _ _
   rw [qV _ _ (by omega), bW, Nat.add_sub_cancel]
   refine k _ _ (.inr ⟨g.length, ?_, by simp, ?_⟩) (fun j o hj hn => ?_)
   · simp [mX]
   · rw [aI, hl, hm, Nat.add_mul]
   · have hne : i ≠ j := by
       rintro rfl
       rw [hi] at hj; cases hj
       exact hn _ rfl
     rw [aC (by simpa using aM hj), cN hne]
     exact hj
theorem fN {h pre g more : List AObj} {T e by_ sz N : Nat} {z : List AV} {out x : AV} {cells news : List AV} {n m : Nat} (ho : eZ sz N g out cells n) (hN : pre.length = N) (hh : h = pre ++ (g ++ more)) (hT : dX P T = some e) (hz : zeroOf P e = some z) (hs : jA P e = some sz) (hb : aDm P e = some by_)
   (hzl : z.length = sz) (hpos : 0 < sz) (hp : pD h x = true) (hx : I9 h sz x = some (news, m)) (hbd : (n + m) * by_ ≤ 140737488355328 ∧ n + m ≤ 140737488355328)
   (k : ∀ out' g', eZ sz N g' out' (cells ++ news) (n + m) → (∀ (i : Nat) (o : AObj), g[i]? = some o → (∀ c : List AV, o ≠ .arr false sz c) → g'[i]? = some o) → cT P G dr os K (fR env d out') (pre ++ g')) : mK P G dr (U8 P h T out x) d os K env := by
 subst hh hzl hN
 exact aNp (ho.more more) hT hz hs hb hpos hp hx hbd (fun out' g' h1 h2 => k out' g' h1 (fun i o hi hn => h2 i o (by rw [aC (aM hi)]; exact hi) hn))
end
theorem uB {pre g : List AObj} {sz n : Nat} {out : AV} {cells : List AV} (ho : eZ sz pre.length g out cells n) (hp : persL cells = true) : Fin (pre ++ g) out (.own sz cells n) := by
 rcases ho with ⟨rfl, rfl, rfl⟩ | ⟨i, rfl, hi, hl⟩
 · exact .inr ⟨⟨rfl, rfl⟩, by simp [bK], by simp [bK]⟩
 · exact H4 (by rw [aH (by omega)]; simpa using hi) rfl rfl hl hp

def bDb (k : Nat) (h : List AObj) (a : AV) : AV :=
 let L := fun l => if persL l then l else l.map (gJ k h)
 match a with
 | .e0 => .sl [] 0
 | .hs id off n _ => match h[id]? with
   | some (.arr _ sz cells) => if off + n * sz ≤ cells.length then .sl (L ((cells.drop off).take (n * sz))) n else .u
   | _ => .u
 | .ptr id off => match h[id]? with
   | some (.box _ cells) => .box (L cells) off
   | some (.arr _ _ cells) => .box (L cells) off
   | _ => .u
 | .mp id => match h[id]? with
   | some (.map _ ks vs) => .mapv (L ks) (L vs)
   | _ => .u
 | .fn f a b => .fn f (L a) (L b)
 | .agg cs => .agg (L cs)
 | .tup vs => .tup (L vs)
 | _ => .u
def aBr (k : Nat) (h : List AObj) (a : AV) : List Nat :=
 let L := fun l => if persL l then [] else l.flatMap (dN k h)
 match a with
 | .hs id off n _ => match h[id]? with
   | some (.arr _ sz cells) => id :: L ((cells.drop off).take (n * sz))
   | _ => []
 | .ptr id off => match h[id]? with
   | some (.box _ cells) => id :: L cells
   | some (.arr _ _ cells) => id :: L cells
   | _ => []
 | .mp id => match h[id]? with
   | some (.map _ ks vs) => id :: (L ks ++ L vs)
   | _ => []
 | .fn f a b => L a ++ L b
 | .agg cs => L cs
 | .tup vs => L vs
 | _ => []
theorem xA {h : List AObj} {a : AV} : dN dep h a = if pers a then [] else aBr 8 h a := rfl
theorem bDa {h : List AObj} {a : AV} : gJ 8 h a = if pers a then a else bDb 7 h a := rfl
theorem bTa {a : AObj} {l : List AObj} {f : AObj → AObj} : (a :: l).modify 0 f = f a :: l := rfl
theorem bSz {a : AObj} {l : List AObj} {n : Nat} {f : AObj → AObj} : (a :: l).modify (n + 1) f = a :: l.modify n f := rfl
theorem aVc {l m : List AObj} {n : Nat} {f : AObj → AObj} : (l ++ m).modify (l.length + n) f = l ++ m.modify n f := by
 apply List.ext_getElem?
 intro i
 rw [aHb]
 by_cases h : i < l.length
 · rw [aC h, aC h]
   have : l.length + n ≠ i := by omega
   simp [this]
 · rw [aH (by omega), aH (by omega), aHb]
   by_cases e : l.length + n = i
   · subst e; simp
   · have : n ≠ i - l.length := by omega
     simp [e, this]
theorem aZp {l m : List AObj} {f : AObj → AObj} : (l ++ m).modify l.length f = l ++ m.modify 0 f := by
 have := aVc (l := l) (m := m) (n := 0) (f := f); simpa using this
attribute [go_sem] xA bDa bDb aBr bTa bSz aVc aZp
section
variable {P : Program} {G : eW}
theorem vJ {rx : Bool} {th : Nat → Option TH} (hm : P.follows .mixedOrders = true) {f : FuncId} {fn : Func} {c : Code} {ac : jV} {args : List AV} {h : List AObj} {K : AV → List AObj → Prop} (hf : P.funcs[f]? = some fn) (hb : fn.body = some c) (hcal : gR P f = true) (hd : hZ rx th c = true) (hs : strip rx th c = some ac)
   (H : awx P G ac (fun e env h' => (e = .normal ∨ e = .ret) ∧ ∃ x, aEb P fn.results.toList env h' = some x ∧ K x h') (args ++ List.replicate (fn.ntmps - args.length) .u) h) : ACalls P G f args h K := by
 refine ⟨hcal, ?_⟩
 intro X w vs g hl hr
 have r0 : EnvOK X w h (args ++ List.replicate (fn.ntmps - args.length) .u) { tmps := vs ++ Array.replicate (fn.ntmps - vs.size) undef, defers := [] } := by
   refine ⟨rfl, by simp [hl], ?_⟩
   intro j x v hx hv
   by_cases hj : j < args.length
   · rw [aC hj] at hx
     rw [fS (by omega)] at hv
     exact hr j x v hx hv
   · rw [aH (by omega), List.getElem?_replicate] at hx
     split at hx
     · cases hx; exact .u _
     · cases hx
 refine calls_of_wp hf hb (wp_mono (rG hm c ac hd hs _ _ _ H X w _ g r0) ?_)
 rintro e a' w' ⟨env', h', X', ⟨he, x, hres, hK⟩, g', r', t⟩
 obtain ⟨v, hrun, rx⟩ := aNo g' r' hres
 rcases he with rfl | rfl
 · exact ⟨r'.defers, v, hrun, v, x, h', X', rfl, hK, g', rx, t⟩
 · exact ⟨r'.defers, v, hrun, v, x, h', X', rfl, hK, g', rx, t⟩
end

mutual
def ren (σ : Nat → Nat) : AV → AV
 | .hs id off n t => .hs (σ id) off n t
 | .ptr id off => .ptr (σ id) off
 | .mp id => .mp (σ id)
 | .sl cells n => .sl (renL σ cells) n
 | .own sz cells n => .own sz (renL σ cells) n
 | .box cells off => .box (renL σ cells) off
 | .mapv ks vs => .mapv (renL σ ks) (renL σ vs)
 | .fn f a b => .fn f (renL σ a) (renL σ b)
 | .agg cells => .agg (renL σ cells)
 | .tup cells => .tup (renL σ cells)
 | .u => .u
 | .b x => .b x
 | .i k n => .i k n
 | .s l => .s l
 | .p v => .p v
 | .e0 => .e0
def renL (σ : Nat → Nat) : List AV → List AV
 | [] => []
 | a :: l => ren σ a :: renL σ l
end
theorem F4 (σ : Nat → Nat) : ∀ (l : List AV), renL σ l = l.map (ren σ)
 | [] => rfl
 | a :: l => by simp only [renL, aY, F4 σ l]
theorem cS {σ : Nat → Nat} {l : List AV} : (renL σ l).length = l.length := by rw [F4, kK]
theorem fY {σ : Nat → Nat} {l : List AV} {j : Nat} : (renL σ l)[j]? = (l[j]?).map (ren σ) := by rw [F4, dR]
theorem fX {σ : Nat → Nat} {l : List AV} {j : Nat} {a : AV} (h : (renL σ l)[j]? = some a) : ∃ b, l[j]? = some b ∧ a = ren σ b := by
 rw [fY] at h
 obtain ⟨b, h1, h2⟩ := bD.1 h
 exact ⟨b, h1, h2.symm⟩
mutual
theorem F3 (σ : Nat → Nat) : ∀ (a : AV), pers a = true → ren σ a = a
 | .sl cells n, h => by simp only [ren, renL_pers σ cells (by simpa [pers] using h)]
 | .box cells n, h => by simp only [ren, renL_pers σ cells (by simpa [pers] using h)]
 | .mapv ks vs, h => by
   simp only [pers, aB] at h
   simp only [ren, renL_pers σ ks h.1, renL_pers σ vs h.2]
 | .fn f a b, h => by
   simp only [pers, aB] at h
   simp only [ren, renL_pers σ a h.1, renL_pers σ b h.2]
 | .agg cells, h => by simp only [ren, renL_pers σ cells (by simpa [pers] using h)]
 | .tup cells, h => by simp only [ren, renL_pers σ cells (by simpa [pers] using h)]
 | .u, _ | .b _, _ | .i _ _, _ | .s _, _ | .p _, _ | .e0, _ => by simp [ren]
 | .own .., h | .hs .., h | .ptr .., h | .mp _, h => by simp [pers] at h
theorem renL_pers (σ : Nat → Nat) : ∀ (l : List AV), persL l = true → renL σ l = l
 | [], _ => rfl
 | a :: l, h => by
   simp only [persL, aB] at h
   simp only [renL, F3 σ a h.1, renL_pers σ l h.2]
end
theorem aBq {σ : Nat → Nat} {a : AV} : (ren σ a).refs = a.refs.map σ := by cases a <;> simp [ren, AV.refs]
def AObj.ren (σ : Nat → Nat) : AObj → AObj
 | .dead => .dead
 | .box fz c => .box fz (renL σ c)
 | .arr fz s c => .arr fz s (renL σ c)
 | .map fz ks vs => .map fz (renL σ ks) (renL σ vs)
 | .sit l p => .sit l p
 | .held m q => .held m q
 | .mit cur ks vs => .mit (cur.map fun (k, v) => (Vo.ren σ k, Vo.ren σ v)) (renL σ ks) (renL σ vs)

theorem AObj.ren_isH {σ : Nat → Nat} {a : AObj} : (a.ren σ).isH = a.isH := by cases a <;> rfl
theorem AObj.ren_mv {σ : Nat → Nat} {a : AObj} : (a.ren σ).mv = a.mv := by cases a <;> rfl
section
variable {X X' : Ctx} {w : World} {h h' : List AObj} {σ : Nat → Nat}
theorem RV.up {a : AV} {v : Value} (r : RV X w h a v) (hF : ∀ b, X.F b → X'.F b) (ho : ∀ (i : Nat) (o : AObj), h[i]? = some o → h'[σ i]? = some (o.ren σ)) (hι : ∀ (i : Nat) (o : AObj), h[i]? = some o → X'.ι (σ i) = X.ι i) : RV X' w h' (ren σ a) v := by
 induction r with
 | u v => exact .u v
 | b x => exact .b x
 | i k n => exact .i k n
 | s l => exact .s l
 | p v hv => exact .p v hv
 | e0 a => exact .e0 a
 | sl0 a cap => exact .sl0 a cap
 | sl h1 h2 h3 h4 h5 _ ih =>
   refine .sl (hF _ h1) h2 (by rw [cS]; exact h3) h4 (fun j v hj hv => h5 j v (by rw [cS] at hj; exact hj) hv) ?_
   intro j a v ha hv
   obtain ⟨b, hb, rfl⟩ := fX ha
   exact ih j b v hb hv
 | @hs id off n t fz sz cells b o cap T N hid h2 h3 h4 h5 h6 h7 h8 => exact .hs (ho _ _ hid) ((hι _ _ hid).trans h2) h3 (by rw [cS]; exact h4) h5 h6 h7 (by rw [cS]; exact h8)
 | hs0 hid h2 h3 => exact .hs0 (ho _ _ hid) (by rw [cS]; exact h2) (by rw [cS]; exact h3)
 | @ptr id off ob b o hid h2 h3 => exact .ptr (ho _ _ hid) ⟨by have := h2.1; cases ob <;> simp [AObj.ren] at this ⊢, AObj.ren_mv.trans h2.2⟩ ((hι _ _ hid).trans h3)
 | mp hid h2 => exact .mp (ho _ _ hid) ((hι _ _ hid).trans h2)
 | @dead a id v h1 hid h3 => exact .dead (id := σ id) (by rw [aBq, h1]; rfl) (ho _ _ hid) h3
 | box h1 h2 h3 h5 _ ih =>
   refine .box (hF _ h1) h2 (by rw [cS]; exact h3) (fun j v hj hv => h5 j v (by rw [cS] at hj; exact hj) hv) ?_
   intro j a v ha hv
   obtain ⟨b, hb, rfl⟩ := fX ha
   exact ih j b v hb hv
 | mapv h1 h2 h3 h4 _ _ h7 h8 ihk ihv =>
   refine .mapv (hF _ h1) h2 (by rw [cS]; exact h3) (by rw [cS]; exact h4) ?_ ?_ h7 h8
   · intro j a v ha hv
     obtain ⟨b, hb, rfl⟩ := fX ha
     exact ihk j b v hb hv
   · intro j a v ha hv
     obtain ⟨b, hb, rfl⟩ := fX ha
     exact ihv j b v hb hv
 | fn h1 h2 _ _ ih1 ih2 =>
   refine .fn (by rw [cS]; exact h1) (by rw [cS]; exact h2) ?_ ?_
   · intro j a v ha hv
     obtain ⟨b, hb, rfl⟩ := fX ha
     exact ih1 j b v hb hv
   · intro j a v ha hv
     obtain ⟨b, hb, rfl⟩ := fX ha
     exact ih2 j b v hb hv
 | agg h1 h2 _ ih =>
   refine .agg (by rw [cS]; exact h1) h2 ?_
   intro j a v ha hv
   obtain ⟨b, hb, rfl⟩ := fX ha
   exact ih j b v hb hv
 | tup h1 _ ih =>
   refine .tup (by rw [cS]; exact h1) ?_
   intro j a v ha hv
   obtain ⟨b, hb, rfl⟩ := fX ha
   exact ih j b v hb hv

def bBt (σ : Nat → Nat) (h h' : List AObj) : Prop := ∀ (i : Nat) (o' : AObj), h'[σ i]? = some o' → ∃ o, h[i]? = some o ∧ o' = o.ren σ
theorem RV.down {a' : AV} {v : Value} (r : RV X' w h' a' v) (hF : ∀ b, X'.F b → X.F b) (ho : bBt σ h h') (hι : ∀ (i : Nat) (bo : Nat × Nat), X'.ι (σ i) = some bo → X.ι i = some bo) : ∀ a, a' = ren σ a → RV X w h a v := by
 induction r with
 | u v => intro a e; cases a <;> simp [ren] at e; exact .u v
 | b x => intro a e; cases a <;> simp [ren] at e; subst e; exact .b x
 | i k n => intro a e; cases a <;> simp [ren] at e; obtain ⟨rfl, rfl⟩ := e; exact .i k n
 | s l => intro a e; cases a <;> simp [ren] at e; subst e; exact .s l
 | p v hv => intro a e; cases a <;> simp [ren] at e; subst e; exact .p v hv
 | e0 a => intro a e; cases a <;> simp [ren] at e; exact .e0 _
 | sl0 a cap =>
   intro a e; cases a <;> simp [ren] at e
   rename_i cells n
   obtain ⟨h1, rfl⟩ := e
   have : cells = [] := by cases cells <;> simp [renL] at h1 ⊢
   subst this
   exact .sl0 _ _
 | sl h1 h2 h3 h4 h5 _ ih =>
   intro a e; cases a <;> simp [ren] at e
   obtain ⟨rfl, rfl⟩ := e
   rw [cS] at h3
   exact .sl (hF _ h1) h2 h3 h4 (fun j v hj hv => h5 j v (by rw [cS]; exact hj) hv) (fun j a v ha hv => ih j _ v (by rw [fY, ha]; rfl) hv a rfl)
 | @hs id off n t fz sz cells b o cap T N hid h2 h3 h4 h5 h6 h7 h8 =>
   intro a e; cases a <;> simp [ren] at e
   obtain ⟨rfl, rfl, rfl, rfl⟩ := e
   obtain ⟨o0, h1, e0⟩ := ho _ _ hid
   cases o0 <;> simp [AObj.ren] at e0
   obtain ⟨rfl, rfl, rfl⟩ := e0
   rw [cS] at h4 h8
   exact .hs h1 (hι _ _ h2) h3 h4 h5 h6 h7 h8
 | hs0 hid h2 h3 =>
   intro a e; cases a <;> simp [ren] at e
   obtain ⟨rfl, rfl, rfl, rfl⟩ := e
   obtain ⟨o0, h1, e0⟩ := ho _ _ hid
   cases o0 <;> simp [AObj.ren] at e0
   obtain ⟨rfl, rfl, rfl⟩ := e0
   rw [cS] at h2 h3
   exact .hs0 h1 h2 h3
 | @ptr id off ob b o hid h2 h3 =>
   intro a e; cases a <;> simp [ren] at e
   obtain ⟨rfl, rfl⟩ := e
   obtain ⟨o0, h1, rfl⟩ := ho _ _ hid
   exact .ptr h1 ⟨by rintro rfl; exact h2.1 rfl, AObj.ren_mv.symm.trans h2.2⟩ (hι _ _ h3)
 | mp hid h2 =>
   intro a e; cases a <;> simp [ren] at e
   subst e
   obtain ⟨o0, h1, e0⟩ := ho _ _ hid
   cases o0 <;> simp [AObj.ren] at e0
   exact .mp h1 (hι _ _ h2)
 | @dead a' id v h1 hid h3 =>
   intro a e
   subst e
   rw [aBq] at h1
   obtain ⟨i, hi, rfl⟩ := bD.1 h1
   obtain ⟨o0, h1', e0⟩ := ho _ _ hid
   cases o0 <;> simp [AObj.ren] at e0
   exact .dead hi h1' h3
 | box h1 h2 h3 h5 _ ih =>
   intro a e; cases a <;> simp [ren] at e
   obtain ⟨rfl, rfl⟩ := e
   rw [cS] at h3
   exact .box (hF _ h1) h2 h3 (fun j v hj hv => h5 j v (by rw [cS]; exact hj) hv) (fun j a v ha hv => ih j _ v (by rw [fY, ha]; rfl) hv a rfl)
 | mapv h1 h2 h3 h4 _ _ h7 h8 ihk ihv =>
   intro a e; cases a <;> simp [ren] at e
   obtain ⟨rfl, rfl⟩ := e
   rw [cS] at h3 h4
   exact .mapv (hF _ h1) h2 h3 h4 (fun j a v ha hv => ihk j _ v (by rw [fY, ha]; rfl) hv a rfl) (fun j a v ha hv => ihv j _ v (by rw [fY, ha]; rfl) hv a rfl) h7 h8
 | fn h1 h2 _ _ ih1 ih2 =>
   intro a e; cases a <;> simp [ren] at e
   obtain ⟨rfl, rfl, rfl⟩ := e
   rw [cS] at h1 h2
   exact .fn h1 h2 (fun j a v ha hv => ih1 j _ v (by rw [fY, ha]; rfl) hv a rfl) (fun j a v ha hv => ih2 j _ v (by rw [fY, ha]; rfl) hv a rfl)
 | agg h1 h2 _ ih =>
   intro a e; cases a <;> simp [ren] at e
   subst e
   rw [cS] at h1
   exact .agg h1 h2 (fun j a v ha hv => ih j _ v (by rw [fY, ha]; rfl) hv a rfl)
 | tup h1 _ ih =>
   intro a e; cases a <;> simp [ren] at e
   subst e
   rw [cS] at h1
   exact .tup h1 (fun j a v ha hv => ih j _ v (by rw [fY, ha]; rfl) hv a rfl)

theorem ObjOK.up {ob : AObj} {i : Nat} (r : ObjOK X w h i ob) (hF : ∀ b, X.F b ↔ X'.F b) (ho : ∀ (i : Nat) (o : AObj), h[i]? = some o → h'[σ i]? = some (o.ren σ)) (hι : ∀ (i : Nat) (o : AObj), h[i]? = some o → X'.ι (σ i) = X.ι i) (hi : X'.ι (σ i) = X.ι i) : ObjOK X' w h' (σ i) (ob.ren σ) := by
 have U : ∀ {a v}, RV X w h a v → RV X' w h' (ren σ a) v := fun r => r.up (fun b => (hF b).1) ho hι
 cases r with
 | absent h0 hh => exact .absent (hi.trans h0) (AObj.ren_isH.trans hh)
 | away h0 h1 => exact .away (hi.trans h0) h1
 | box h0 h1 h2 h3 h4 h5 h6 =>
   refine .box (hi.trans h0) h1 (fun f => (hF _).1 (h2 f)) (fun f => ⟨fun g => (h3 f).1 ((hF _).2 g), (h3 f).2⟩) (by rw [cS]; exact h4) (fun j v hj hv => h5 j v (by rw [cS] at hj; exact hj) hv) ?_
   intro j a v ha hv
   obtain ⟨b, hb, rfl⟩ := fX ha
   exact U (h6 j b v hb hv)
 | arr h0 h1 h2 h3 h4 h5 h6 =>
   refine .arr (hi.trans h0) h1 (fun f => (hF _).1 (h2 f)) (fun f => ⟨fun g => (h3 f).1 ((hF _).2 g), (h3 f).2⟩) (by rw [cS]; exact h4) (fun j v hj hv => h5 j v (by rw [cS] at hj; exact hj) hv) ?_
   intro j a v ha hv
   obtain ⟨b, hb, rfl⟩ := fX ha
   exact U (h6 j b v hb hv)
 | map h0 h1 h2 h3 h4 h5 h6 h7 h8 h9 =>
   refine .map (hi.trans h0) h1 (fun f => (hF _).1 (h2 f)) (fun f g => h3 f ((hF _).2 g)) (by rw [cS]; exact h4) (by rw [cS]; exact h5) ?_ ?_ h8 h9
   · intro j a v ha hv
     obtain ⟨b, hb, rfl⟩ := fX ha
     exact U (h6 j b v hb hv)
   · intro j a v ha hv
     obtain ⟨b, hb, rfl⟩ := fX ha
     exact U (h7 j b v hb hv)
 | held h0 h1 h2 h3 => exact .held (hi.trans h0) (fun g => h1 ((hF _).2 g)) h2 h3
 | sit h0 h1 h2 => exact .sit (hi.trans h0) (fun g => h1 ((hF _).2 g)) h2
 | mit h0 h1 h2 h3 h4 h5 h6 h7 h8 h9 h10 h11 =>
   refine .mit (hi.trans h0) (fun g => h1 ((hF _).2 g)) h2 ((hF _).1 h3) h4 h5 h6 (by rw [cS]; exact h7) (by rw [cS]; exact h8) ?_ ?_ ?_
   · intro j a v ha hv
     obtain ⟨b, hb, rfl⟩ := fX ha
     exact U (h9 j b v hb hv)
   · intro j a v ha hv
     obtain ⟨b, hb, rfl⟩ := fX ha
     exact U (h10 j b v hb hv)
   · intro k v hc
     obtain ⟨⟨k0, v0⟩, hc0, e⟩ := bD.1 hc
     simp only [aJ] at e
     obtain ⟨rfl, rfl⟩ := e
     obtain ⟨en, a1, a2, a3, a4⟩ := h11 k0 v0 hc0
     exact ⟨en, a1, a2, U a3, U a4⟩
theorem ObjOK.down {ob : AObj} {i : Nat} (r : ObjOK X' w h' (σ i) (ob.ren σ)) (hF : ∀ b, X'.F b ↔ X.F b) (ho : bBt σ h h') (hι : ∀ (i : Nat) (bo : Nat × Nat), X'.ι (σ i) = some bo → X.ι i = some bo) (hi : X.ι i = X'.ι (σ i)) : ObjOK X w h i ob := by
 have D : ∀ {a v}, RV X' w h' (ren σ a) v → RV X w h a v := fun r => r.down (fun b => (hF b).1) ho hι _ rfl
 have L : ∀ {l : List AV} {j a} {Q : AV → Prop}, (∀ b, (renL σ l)[j]? = some b → Q b) → l[j]? = some a → Q (ren σ a) := fun hq ha => hq _ (by rw [fY, ha]; rfl)
 generalize hob : ob.ren σ = ob' at r
 cases r with
 | absent h0 hh => exact .absent (hi.trans h0) (by rw [← AObj.ren_isH (σ := σ), hob]; exact hh)
 | away h0 h1 =>
   cases ob <;> simp [AObj.ren] at hob
   obtain ⟨rfl, rfl⟩ := hob
   exact .away (hi.trans h0) h1
 | box h0 h1 h2 h3 h4 h5 h6 =>
   cases ob <;> simp [AObj.ren] at hob
   obtain ⟨rfl, rfl⟩ := hob
   rw [cS] at h4
   exact .box (hi.trans h0) h1 (fun f => (hF _).1 (h2 f)) (fun f => ⟨fun g => (h3 f).1 ((hF _).2 g), (h3 f).2⟩) h4 (fun j v hj hv => h5 j v (by rw [cS]; exact hj) hv) (fun j a v ha hv => D (h6 j _ v (by rw [fY, ha]; rfl) hv))
 | arr h0 h1 h2 h3 h4 h5 h6 =>
   cases ob <;> simp [AObj.ren] at hob
   obtain ⟨rfl, rfl, rfl⟩ := hob
   rw [cS] at h4
   exact .arr (hi.trans h0) h1 (fun f => (hF _).1 (h2 f)) (fun f => ⟨fun g => (h3 f).1 ((hF _).2 g), (h3 f).2⟩) h4 (fun j v hj hv => h5 j v (by rw [cS]; exact hj) hv) (fun j a v ha hv => D (h6 j _ v (by rw [fY, ha]; rfl) hv))
 | map h0 h1 h2 h3 h4 h5 h6 h7 h8 h9 =>
   cases ob <;> simp [AObj.ren] at hob
   obtain ⟨rfl, rfl, rfl⟩ := hob
   rw [cS] at h4 h5
   exact .map (hi.trans h0) h1 (fun f => (hF _).1 (h2 f)) (fun f g => h3 f ((hF _).2 g)) h4 h5 (fun j a v ha hv => D (h6 j _ v (by rw [fY, ha]; rfl) hv)) (fun j a v ha hv => D (h7 j _ v (by rw [fY, ha]; rfl) hv)) h8 h9
 | held h0 h1 h2 h3 =>
   cases ob <;> simp [AObj.ren] at hob
   obtain ⟨rfl, rfl⟩ := hob
   exact .held (hi.trans h0) (fun g => h1 ((hF _).2 g)) h2 h3
 | sit h0 h1 h2 =>
   cases ob <;> simp [AObj.ren] at hob
   obtain ⟨rfl, rfl⟩ := hob
   exact .sit (hi.trans h0) (fun g => h1 ((hF _).2 g)) h2
 | mit h0 h1 h2 h3 h4 h5 h6 h7 h8 h9 h10 h11 =>
   cases ob <;> simp [AObj.ren] at hob
   obtain ⟨rfl, rfl, rfl⟩ := hob
   rw [cS] at h7 h8
   refine .mit (hi.trans h0) (fun g => h1 ((hF _).2 g)) h2 ((hF _).1 h3) h4 h5 h6 h7 h8 (fun j a v ha hv => D (h9 j _ v (by rw [fY, ha]; rfl) hv)) (fun j a v ha hv => D (h10 j _ v (by rw [fY, ha]; rfl) hv)) ?_
   rintro k v rfl
   obtain ⟨en, a1, a2, a3, a4⟩ := h11 _ _ rfl
   exact ⟨en, a1, a2, D a3, D a4⟩
theorem AObj.ren_like {σ : Nat → Nat} {a b : AObj} (h : a.like b) : (a.ren σ).like (b.ren σ) := by
 cases a <;> cases b <;> simp [AObj.like, AObj.ren, cS] at h ⊢ <;> exact h
end
def emb (is : List Nat) (N : Nat) (i : Nat) : Nat := if i < is.length then is.getD i 0 else N + (i - is.length)
def jM : List AObj → List Nat → List AObj → List AObj
 | h, i :: is, o :: os => jM (h.set i o) is os
 | h, _, _ => h
def qO (h : List AObj) (is : List Nat) (σ : Nat → Nat) (h1 : List AObj) : List AObj := jM h is (h1.map (AObj.ren σ)) ++ (h1.drop is.length).map (AObj.ren σ)
theorem nB : ∀ (is : List Nat) (os : List AObj) (h : List AObj), (jM h is os).length = h.length
 | [], os, h => by cases os <;> simp [jM]
 | i :: is, [], h => by simp [jM]
 | i :: is, o :: os, h => by rw [jM, nB is os, List.length_set]
theorem tR : ∀ (is : List Nat) (os : List AObj) (h : List AObj) (j : Nat), j ∉ is → (jM h is os)[j]? = h[j]?
 | [], os, h, j, _ => by cases os <;> simp [jM]
 | i :: is, [], h, j, _ => by simp [jM]
 | i :: is, o :: os, h, j, hj => by
   simp only [bZ, not_or] at hj
   rw [jM, tR is os _ j hj.2, cN (fun e => hj.1 e.symm)]
theorem N5 : ∀ (is : List Nat) (os : List AObj) (h : List AObj) (k j : Nat) (o : AObj), is.Nodup → is[k]? = some j → os[k]? = some o → j < h.length → (jM h is os)[j]? = some o
 | [], os, h, k, j, o, _, h1, _, _ => by simp at h1
 | i :: is, [], h, k, j, o, _, _, h2, _ => by simp at h2
 | i :: is, a :: os, h, 0, j, o, hn, h1, h2, h3 => by
   simp only [cM, aA] at h1 h2
   subst h1 h2
   rw [jM, tR is os _ _ (oP.1 hn).1, List.getElem?_set_self h3]
 | i :: is, a :: os, h, k + 1, j, o, hn, h1, h2, h3 => by
   rw [jM]
   exact N5 is os _ k j o (oP.1 hn).2 (by simpa using h1) (by simpa using h2) (by simpa using h3)
section
variable {P : Program} {G : eW}
theorem frame {f : FuncId} {A0 A : List AV} {h0 h : List AObj} {K : AV → List AObj → Prop} {is : List Nat} (hG : qZ G) (s : ACalls P G f A0 h0 K) (hnd : is.Nodup) (hlen : is.length = h0.length)
   (hobj : ∀ (i : Nat) (o : AObj), h0[i]? = some o → h[is.getD i 0]? = some (o.ren (emb is h.length))) (hA : A = renL (emb is h.length) A0) :
   ACalls P G f A h (fun r h' => ∃ r0 h1, K r0 h1 ∧ h0.length ≤ h1.length ∧ r = ren (emb is h.length) r0 ∧ h' = qO h is (emb is h.length) h1) := by
 subst hA
 refine ⟨s.1, ?_⟩
 intro X w vs g hl hr
 generalize hσ : emb is h.length = σ at *
 have hlt : ∀ i, i < is.length → σ i = is.getD i 0 := fun i hi => by rw [← hσ]; simp [emb, hi]
 have hge : ∀ i, is.length ≤ i → σ i = h.length + (i - is.length) := fun i hi => by rw [← hσ]; simp [emb, Nat.not_lt.2 hi]
 have hin : ∀ i, i < is.length → is.getD i 0 < h.length := fun i hi => by
   have : h0[i]? = some h0[i] := bN (by omega)
   exact aM (hobj i _ this)
 have hmem : ∀ i, i < is.length → is.getD i 0 ∈ is := fun i hi => by
   simp only [List.getD, bN hi, K9]; exact L4 hi
 have hinj : ∀ i k, i < is.length → k < is.length → is.getD i 0 = is.getD k 0 → i = k := fun i k hi hk e => by
   simp only [List.getD, bN hi, bN hk, K9] at e
   exact (List.getElem_inj hnd).1 e
 have hcase : ∀ j, (∃ i, j = σ i) ∨ (j < h.length ∧ j ∉ is) := fun j => by
   by_cases hj : j ∈ is
   · obtain ⟨i, hi, rfl⟩ := bR.1 hj
     exact .inl ⟨i, by rw [hlt i hi]; simp [List.getD, hi]⟩
   · by_cases hjl : j < h.length
     · exact .inr ⟨hjl, hj⟩
     · exact .inl ⟨j - h.length + is.length, by rw [hge _ (by omega)]; omega⟩
 let X0 : Ctx := ⟨X.F, fun i => if i < is.length then X.ι (is.getD i 0) else Option.none⟩
 have hι0 : ∀ i, i < is.length → X0.ι i = X.ι (is.getD i 0) := fun i hi => by simp [X0, hi]
 have hι0' : ∀ i, is.length ≤ i → X0.ι i = Option.none := fun i hi => by simp [X0, Nat.not_lt.2 hi]
 have hRO : bBt σ h0 h := by
   intro i o' ho'
   by_cases hi : i < is.length
   · rw [hlt i hi] at ho'
     have h1 : h0[i]? = some h0[i] := bN (by omega)
     have h2 := hobj i _ h1
     rw [h2] at ho'
     cases ho'
     exact ⟨_, h1, rfl⟩
   · rw [hge i (by omega)] at ho'
     have := aM ho'
     omega
 have hdι : ∀ (i : Nat) (bo : Nat × Nat), X.ι (σ i) = some bo → X0.ι i = some bo := by
   intro i bo hb
   by_cases hi : i < is.length
   · rw [hι0 i hi, ← hlt i hi]; exact hb
   · obtain ⟨ob, hob⟩ := g.dom _ _ hb
     rw [hge i (by omega)] at hob
     have := aM hob
     omega
 have D : ∀ {a v}, RV X w h (ren σ a) v → RV X0 w h0 a v := fun r => RV.down (X := X0) r (fun b hb => hb) hRO hdι _ rfl
 have g0 : GH G X0 w h0 := by
   refine ⟨?_, ?_, ?_, ?_, g.fbnd, fun k a hk => (g.gl k a hk).pers (hG k a hk) (fun b hb => hb) (fun _ _ => rfl)⟩
   · intro i ob hob
     have hi : i < is.length := by have := aM hob; omega
     have h1 := g.objs _ _ (hobj i ob hob)
     rw [← hlt i hi] at h1
     exact h1.down (fun b => Iff.rfl) hRO hdι (by rw [hι0 i hi, hlt i hi])
   · intro i bo hb
     by_cases hi : i < is.length
     · exact ⟨_, bN (by omega)⟩
     · rw [hι0' i (by omega)] at hb; cases hb
   · intro i k b o o' hb hb'
     by_cases hi : i < is.length
     · by_cases hk : k < is.length
       · rw [hι0 i hi] at hb
         rw [hι0 k hk] at hb'
         exact hinj i k hi hk (g.inj _ _ _ _ _ hb hb')
       · rw [hι0' k (by omega)] at hb'; cases hb'
     · rw [hι0' i (by omega)] at hb; cases hb
   · intro i b o hb
     by_cases hi : i < is.length
     · rw [hι0 i hi] at hb; exact g.bnd _ _ _ hb
     · rw [hι0' i (by omega)] at hb; cases hb
 rw [cS] at hl
 refine (s.2 X0 w vs g0 hl (fun j a v ha hv => D (hr j _ v (by rw [fY, ha]; rfl) hv))).mono ?_
 rintro e w' ⟨v, r0, h1, X1, rfl, hK, g1, r1, t1⟩
 have hle : h0.length ≤ h1.length := by
   rcases jY h0.length with hz | hz
   · omega
   · obtain ⟨o1, ho1, _⟩ := t1.ext.obj (h0.length - 1) _ (bN (by omega))
     have := aM ho1
     omega
 let X' : Ctx := ⟨X1.F, fun j => if j ∈ is then X1.ι (is.idxOf j) else if j < h.length then X.ι j else X1.ι (j - h.length + is.length)⟩
 have hX1 : ∀ i, X'.ι (σ i) = X1.ι i := by
   intro i
   by_cases hi : i < is.length
   · have hm := hmem i hi
     have hix : is.idxOf (is.getD i 0) = i := by
       have h2 : is.idxOf (is.getD i 0) < is.length := by rw [List.idxOf_lt_length_iff]; exact hm
       refine hinj _ _ h2 hi ?_
       generalize is.getD i 0 = x at h2
       rw [List.getD, bN h2, K9, List.getElem_idxOf]
     simp only [X', hlt i hi, if_pos hm, hix]
   · have h2 : ¬ h.length + (i - is.length) ∈ is := fun hm => by
       obtain ⟨k, hk, e⟩ := bR.1 hm
       have := hin k hk
       simp [List.getD, hk] at this
       omega
     simp only [X', hge i (by omega), if_neg h2]
     rw [if_neg (by omega)]
     congr 1; omega
 have hX2 : ∀ j, j < h.length → j ∉ is → X'.ι j = X.ι j := fun j hj hn => by simp [X', hn, hj]
 have hm1 : ∀ i, (qO h is σ h1)[σ i]? = (h1[i]?).map (AObj.ren σ) := by
   intro i
   unfold qO
   by_cases hi : i < is.length
   · have h2 := hin i hi
     rw [hlt i hi, aC (by rw [nB]; exact h2)]
     have h3 : h1[i]? = some h1[i] := bN (by omega)
     rw [h3]
     exact N5 is _ h i _ _ hnd (by simp [List.getD, hi]) (by rw [dR, h3]; rfl) h2
   · rw [hge i (by omega), aH (by rw [nB]; omega), nB, dR, dL]
     congr 2; omega
 have hm2 : ∀ j, j < h.length → j ∉ is → (qO h is σ h1)[j]? = h[j]? := fun j hj hn => by
   unfold qO
   rw [aC (by rw [nB]; exact hj), tR is _ _ _ hn]
 have e : Ext X w h X' w' (qO h is σ h1) := by
   refine ⟨t1.ext.fr, t1.ext.keep, t1.ext.shp, ?_⟩
   intro id o ho
   rcases hcase id with ⟨i, rfl⟩ | ⟨hj, hn⟩
   · obtain ⟨o0, h2, rfl⟩ := hRO i o ho
     have hi : i < is.length := by have := aM h2; omega
     obtain ⟨o1, ho1, c⟩ := t1.ext.obj i o0 h2
     refine ⟨o1.ren σ, by rw [hm1, ho1]; rfl, ?_⟩
     rcases c with rfl | ⟨c1, c2⟩
     · exact .inl rfl
     · refine .inr ⟨AObj.ren_like c1, ?_⟩
       rcases c2 with c2 | c2
       · exact .inl (by rw [hX1, c2, hι0 i hi, hlt i hi])
       · exact .inr (AObj.ren_mv.trans c2)
   · exact ⟨o, by rw [hm2 id hj hn]; exact ho, .inr ⟨AObj.like_refl o, .inl (hX2 id hj hn)⟩⟩
 have ho : ∀ (i : Nat) (o : AObj), h1[i]? = some o → (qO h is σ h1)[σ i]? = some (o.ren σ) := fun i o h => by rw [hm1, h]; rfl
 have hfr : ∀ b, b < w.heap.size → (∀ id o, X.ι id ≠ some (b, o)) → ∀ id o, X0.ι id ≠ some (b, o) := by
   intro b _ hno id o hb
   by_cases hi : id < is.length
   · rw [hι0 id hi] at hb; exact hno _ _ hb
   · rw [hι0' id (by omega)] at hb; cases hb
 have hup0 : ∀ id b o, X0.ι id = some (b, o) → ∃ k, k ∈ is ∧ X.ι k = some (b, o) := by
   intro id b o hb
   by_cases hi : id < is.length
   · rw [hι0 id hi] at hb; exact ⟨_, hmem id hi, hb⟩
   · rw [hι0' id (by omega)] at hb; cases hb
 have hg : GH G X' w' (qO h is σ h1) := by
   refine ⟨?_, ?_, ?_, ?_, g1.fbnd, fun k a hk => (g1.gl k a hk).pers (hG k a hk) (fun b hb => hb) (fun _ _ => rfl)⟩
   · intro id ob hob
     rcases hcase id with ⟨i, rfl⟩ | ⟨hj, hn⟩
     · rw [hm1] at hob
       obtain ⟨o1, h2, rfl⟩ := bD.1 hob
       exact (g1.objs i o1 h2).up (fun b => Iff.rfl) ho (fun i o _ => hX1 i) (hX1 i)
     · rw [hm2 id hj hn] at hob
       refine (g.objs id ob hob).mono e (hX2 id hj hn) (fun b o hb => ?_) (fun b o hb hf => ?_)
       · refine t1.step.frame b (g.bnd _ _ _ hb) (fun id' o' hb' => ?_)
         obtain ⟨k, hk, hk'⟩ := hup0 _ _ _ hb'
         exact hn (g.inj _ _ _ _ _ hb hk' ▸ hk)
       · rcases t1.step.fnew b hf with h2 | h2 | ⟨id0, o0, h2⟩
         · exact h2
         · have := g.bnd _ _ _ hb; omega
         · obtain ⟨k, hk, hk'⟩ := hup0 _ _ _ h2
           exact absurd (g.inj _ _ _ _ _ hb hk' ▸ hk) hn
   · intro id bo hb
     rcases hcase id with ⟨i, rfl⟩ | ⟨hj, hn⟩
     · rw [hX1] at hb
       obtain ⟨ob, hob⟩ := g1.dom _ _ hb
       exact ⟨_, ho i ob hob⟩
     · rw [hX2 id hj hn] at hb
       obtain ⟨ob, hob⟩ := g.dom _ _ hb
       exact ⟨ob, by rw [hm2 id hj hn]; exact hob⟩
   · intro id id' b o o' hb hb'
     have cross : ∀ i j, j < h.length → j ∉ is → X1.ι i = some (b, o) ∨ X1.ι i = some (b, o') → X.ι j = some (b, o) ∨ X.ι j = some (b, o') → False := by
       intro i j hj hn h2 h3
       have h4 : b < w.heap.size := by rcases h3 with h3 | h3 <;> exact g.bnd _ _ _ h3
       have h5 : w.heap.size ≤ b ∨ ∃ id0 o0, X0.ι id0 = some (b, o0) := by rcases h2 with h2 | h2 <;> exact t1.step.new _ _ _ h2
       rcases h5 with h5 | ⟨id0, o0, h5⟩
       · omega
       · obtain ⟨k, hk, hk'⟩ := hup0 _ _ _ h5
         rcases h3 with h3 | h3 <;> exact hn (g.inj _ _ _ _ _ h3 hk' ▸ hk)
     rcases hcase id with ⟨i, rfl⟩ | ⟨hj, hn⟩
     · rw [hX1] at hb
       rcases hcase id' with ⟨k, rfl⟩ | ⟨hj', hn'⟩
       · rw [hX1] at hb'
         rw [g1.inj _ _ _ _ _ hb hb']
       · rw [hX2 id' hj' hn'] at hb'
         exact (cross i id' hj' hn' (.inl hb) (.inr hb')).elim
     · rw [hX2 id hj hn] at hb
       rcases hcase id' with ⟨k, rfl⟩ | ⟨hj', hn'⟩
       · rw [hX1] at hb'
         exact (cross k id hj hn (.inr hb') (.inl hb)).elim
       · rw [hX2 id' hj' hn'] at hb'
         exact g.inj _ _ _ _ _ hb hb'
   · intro id b o hb
     rcases hcase id with ⟨i, rfl⟩ | ⟨hj, hn⟩
     · rw [hX1] at hb; exact g1.bnd _ _ _ hb
     · rw [hX2 id hj hn] at hb
       exact eH (g.bnd _ _ _ hb) t1.step.size
 refine ⟨v, ren σ r0, qO h is σ h1, X', rfl, ⟨r0, h1, hK, hle, rfl, rfl⟩, hg, r1.up (fun b hb => hb) ho (fun i o _ => hX1 i), ⟨⟨t1.step.size, t1.step.os, t1.step.tape, t1.step.output, fun b hb hno => t1.step.frame b hb (hfr b hb hno), ?_, ?_⟩, e, ?_⟩⟩
 · intro id b o hb
   rcases hcase id with ⟨i, rfl⟩ | ⟨hj, hn⟩
   · rw [hX1] at hb
     rcases t1.step.new i b o hb with h2 | ⟨id0, o0, h2⟩
     · exact .inl h2
     · obtain ⟨k, _, hk'⟩ := hup0 _ _ _ h2
       exact .inr ⟨k, o0, hk'⟩
   · rw [hX2 id hj hn] at hb
     exact .inr ⟨id, o, hb⟩
 · intro b hb
   rcases t1.step.fnew b hb with h2 | h2 | ⟨id0, o0, h2⟩
   · exact .inl h2
   · exact .inr (.inl h2)
   · obtain ⟨k, _, hk'⟩ := hup0 _ _ _ h2
     exact .inr (.inr ⟨k, o0, hk'⟩)
 · intro id z hid hz
   rcases hcase id with ⟨i, rfl⟩ | ⟨hj, hn⟩
   · obtain ⟨o0, h2, h3⟩ := hRO i _ hid
     have hi : i < is.length := by have := aM h2; omega
     cases o0 <;> simp [AObj.ren] at h3
     obtain ⟨rfl, rfl⟩ := h3
     have := t1.abs i _ h2 (by rw [hι0 i hi, ← hlt i hi]; exact hz)
     rw [hm1, this]; rfl
   · rw [hm2 id hj hn]; exact hid
end
section
variable {P : Program} {G : eW} {d : Option Nat} {os : List fD} {K : List AV → List AObj → Prop} {env : List AV} {h : List AObj}
theorem eV {f : FuncId} {A : List AV} {K' : AV → List AObj → Prop} (s : ACalls P G f A h K') (k : ∀ r h', K' r h' → cT P G none os K (fR env d r) h') : tH P G none f A d os K env h :=
 s.mono k
theorem aMz {f : FuncId} {A A0 : List AV} {cells cells' : List AV} {r : AV} (id : Nat) (hG : qZ G) (s : ACalls P G f A0 [.box false cells] (fun r0 h1 => r0 = r ∧ ∃ g, h1 = .box false cells' :: g)) (hp : persL cells = true) (hp' : persL cells' = true) (hr : pers r = true)
   (hid : h[id]? = some (.box false cells)) (hA : A = renL (emb [id] h.length) A0) (k : ∀ g, cT P G none os K (fR env d r) (h.set id (.box false cells') ++ g)) : tH P G none f A d os K env h := by
 refine eV (frame (is := [id]) hG s (by simp) rfl (fun i o ho => ?_) hA) ?_
 · cases i with
   | zero =>
     simp only [cM, aA] at ho
     subst ho
     simp only [uL, AObj.ren, renL_pers _ _ hp]
     exact hid
   | succ i => simp at ho
 · rintro r' h' ⟨r0, h1, ⟨rfl, g, rfl⟩, _, rfl, rfl⟩
   rw [F3 _ _ hr]
   simp only [qO, aY, jM, aK, bJ, dB, fF, dJ, AObj.ren, renL_pers _ _ hp']
   exact k _
theorem aRw {i N : Nat} : emb [i] N 0 = i := rfl
end
theorem zf {p : Prop} [Decidable p] (h : ¬p) : decide p = false := decide_eq_false h
theorem zt {p : Prop} [Decidable p] (h : p) : decide p = true := decide_eq_true h
theorem zda {p : Prop} [Decidable p] : (decide p = true) = p := decide_eq_true_eq
theorem zdb {p : Prop} [Decidable p] : decide p = false ↔ ¬p := decide_eq_false_iff_not
theorem zdc {b : Bool} : ((!b) = true) = (b = false) := cO b
theorem zdd {b : Bool} : ((!b) = false) = (b = true) := Bool.not_eq_false' b
theorem zdz : (∀ {p : Prop} [Decidable p], (decide p = true) = p) ∧ (∀ {p : Prop} [Decidable p], decide p = false ↔ ¬p) ∧ (∀ b : Bool, ((!b) = true) = (b = false)) ∧ (∀ b : Bool, ((!b) = false) = (b = true)) := ⟨fun {_} _ => zda, fun {_} _ => zdb, fun _ => zdc, fun _ => zdd⟩
abbrev gT := @aVb
abbrev gF := @aKx
abbrev gC := @C9
theorem bI {P : Program} (hm : P.follows .mixedOrders = true) {G : eW} {f : FuncId} {fn : Func} {c : Code} {ac : jV} {args : List AV} {r : AV} (hf : P.funcs[f]? = some fn) (hG : qZ G)
   (h : awx P G ac (fun e env h => (e = .normal ∨ e = .ret) ∧ ∃ x, aEb P fn.results.toList env h = some x ∧ Fin h x r) (args ++ List.replicate (fn.ntmps - args.length) .u) [])
   (hb : fn.body = some c := by rfl) (hcal : gR P f = true := by kernel_rfl) (hd : hZ false (fun _ => none) c = true := by kernel_rfl)
   (hs : strip false (fun _ => none) c = some ac := by (simp only [strip, sF, aIl, RX.off, ckF, ckX, zOf, exd, vOf, eP, fG, cR, cQ, cI, Bool.and_true, Bool.and_false, cI, mY, dZ, jB, rO, fO, oQ, dG, dE, hC, anyPre, Region.binds, Bool.not_true, Bool.not_false, aP, if_true, if_false, iH, iG, Bool.true_and, Bool.false_and, bS, aY, eP, fG, List.append_nil]; rfl)) : Ctr P G f args r := sI hm hf hb hcal hd hs hG h
theorem aF {P : Program} (hm : P.follows .mixedOrders = true) {G : eW} {f : FuncId} {fn : Func} {c : Code} {ac : jV} {args : List AV} {r : AV} {rs : List ResultVar} {nt : Nat} {q : Prop} (hf : P.funcs[f]? = some fn) (hG : qZ G) (h : q)
   (hb : fn.body = some c := by rfl) (hcal : gR P f = true := by kernel_rfl) (hd : hZ false (fun _ => none) c = true := by kernel_rfl)
   (hs : strip false (fun _ => none) c = some ac := by (simp only [strip, sF, aIl, RX.off, ckF, ckX, zOf, exd, vOf, eP, fG, cR, cQ, cI, Bool.and_true, Bool.and_false, cI, mY, dZ, jB, rO, fO, oQ, dG, dE, hC, anyPre, Region.binds, Bool.not_true, Bool.not_false, aP, if_true, if_false, iH, iG, Bool.true_and, Bool.false_and, bS, aY, eP, fG, List.append_nil]; rfl))
   (hr : fn.results.toList = rs := by (conv => lhs; whnf)) (hn : fn.ntmps = nt := by (conv => lhs; whnf))
   (e : awx P G ac (fun e env h => (e = .normal ∨ e = .ret) ∧ ∃ x, aEb P rs env h = some x ∧ Fin h x r) (args ++ List.replicate (nt - args.length) .u) [] = q := by (simp -implicitDefEqProofs (disch := omega) only [go_sem, List.replicate, ↓reduceIte, Nat.reduceAdd, Nat.reduceSub, Nat.reduceMul, Nat.reduceLeDiff, Nat.reduceLT, Nat.reduceEqDiff, Int.reduceNeg, Nat.reduceBEq]; rfl)) : Ctr P G f args r := by
 subst hr hn
 exact sI hm hf hb hcal hd hs hG (by rw [e]; exact h)
theorem bEj : (Region.Mode.any == Region.Mode.gc) = false := rfl
theorem bEi : (Region.Mode.any == Region.Mode.text) = false := rfl
theorem dS {P : Program} {rx : Bool} {th : Nat → Option TH} (hm : P.follows .mixedOrders = true) {G : eW} {f : FuncId} {fn : Func} {c : Code} {ac : jV} {args : List AV} {r : AV} (hf : P.funcs[f]? = some fn) (hG : qZ G)
   (h : awx P G ac (fun e env h => (e = .normal ∨ e = .ret) ∧ ∃ x, aEb P fn.results.toList env h = some x ∧ Fin h x r) (args ++ List.replicate (fn.ntmps - args.length) .u) [])
   (hb : fn.body = some c := by rfl) (hcal : gR P f = true := by kernel_rfl) (hd : hZ rx th c = true := by kernel_rfl)
   (hs : strip rx th c = some ac := by (simp only [strip, sF, aIl, RX.off, ckF, ckX, zOf, exd, vOf, eP, fG, cR, cQ, cI, Bool.and_true, Bool.and_false, cI, mY, dZ, jB, rO, fO, oQ, dG, dE, hC, anyPre, Region.binds, Bool.not_true, Bool.not_false, aP, if_true, if_false, iH, iG, Bool.true_and, Bool.false_and, bS, aY, eP, fG, List.append_nil, bJg, aFn, aKt, zL, qX, cM, cU, cI, cR, cQ, cZ, beq_self_eq_true, Option.some_beq_some, Nat.reduceBEq, aCn, Q0, aCk, mR, bCa, List.any_cons, List.any_nil, mY, dQ, bEj, bEi, ↓reduceIte, Nat.reduceEqDiff, sG, aFx, aZj]; rfl)) : Ctr P G f args r := sI hm hf hb hcal hd hs hG h
theorem dI {P : Program} {G : eW} {rx : Bool} {th : Nat → Option TH} (hm : P.follows .mixedOrders = true) {f : FuncId} {fn : Func} {c : Code} {ac : jV} {args : List AV} {h : List AObj} {K : AV → List AObj → Prop} (hf : P.funcs[f]? = some fn)
   (H : awx P G ac (fun e env h' => (e = .normal ∨ e = .ret) ∧ ∃ x, aEb P fn.results.toList env h' = some x ∧ K x h') (args ++ List.replicate (fn.ntmps - args.length) .u) h)
   (hb : fn.body = some c := by rfl) (hcal : gR P f = true := by kernel_rfl) (hd : hZ rx th c = true := by kernel_rfl)
   (hs : strip rx th c = some ac := by (simp only [strip, sF, aIl, RX.off, ckF, ckX, zOf, exd, vOf, eP, fG, cR, cQ, cI, Bool.and_true, Bool.and_false, cI, mY, dZ, jB, rO, fO, oQ, dG, dE, hC, anyPre, Region.binds, Bool.not_true, Bool.not_false, aP, if_true, if_false, iH, iG, Bool.true_and, Bool.false_and, bS, aY, eP, fG, List.append_nil, bJg, aFn, aKt, zL, qX, cM, cU, cI, cR, cQ, cZ, beq_self_eq_true, Option.some_beq_some, Nat.reduceBEq, aCn, Q0, aCk, mR, bCa, List.any_cons, List.any_nil, mY, dQ, bEj, bEi, ↓reduceIte, Nat.reduceEqDiff, sG, aFx, aZj]; rfl)) : ACalls P G f args h K := vJ hm hf hb hcal hd hs H
theorem goS {p q : Prop} (h : q) (e : p = q := by (simp -implicitDefEqProofs (disch := omega) only [go_sem, ↓reduceIte, Nat.reduceAdd, Nat.reduceSub, Nat.reduceMul, Nat.reduceLeDiff, Nat.reduceLT, Nat.reduceEqDiff, Int.reduceNeg, Nat.reduceBEq]; rfl)) : p := by rw [e]; exact h
structure Cv (q p : Prop) : Prop where h : q → p
structure Jn (a b : Prop) : Prop where
 l : a
 r : b
structure Hn (c q : Prop) : Prop where h : c → q
theorem vS {p : Prop} : Cv p p := ⟨id⟩
theorem vI {c c' p q : Prop} (e : c → c') (k : c → Cv q p) : Cv (Hn c' q) (c → p) := ⟨fun a x => (k x).1 (a.1 (e x))⟩
theorem vA {a p q : Prop} (ha : a) (k : Cv q p) : Cv q (a ∧ p) := ⟨fun x => ⟨ha, k.1 x⟩⟩
theorem zJ {a b : Prop} (h : a) (k : b) : Jn a b := ⟨h, k⟩
theorem zH {c q : Prop} (h : c → q) : Hn c q := ⟨h⟩
theorem zA2 {a b : Prop} (h : a) (k : b) : a ∧ b := ⟨h, k⟩
theorem vT {P : Program} {G : eW} {dr : Option DR} {d : Option Nat} {os : List fD} {K : List AV → List AObj → Prop} {env : List AV} {h : List AObj} {op : Op} {x : Bool} {a b : Prop} (h1 : Cv a (x = true → dK P G dr op d os K env h)) (h2 : Cv b (x = false → cT P G dr os K (fR env d (.tup [])) h)) : Cv (Jn a b) (kE P G dr (.b x) true op d os K env h) := ⟨fun t => aVb (h1.1 t.1) (h2.1 t.2)⟩
theorem vF {P : Program} {G : eW} {dr : Option DR} {d : Option Nat} {os : List fD} {K : List AV → List AObj → Prop} {env : List AV} {h : List AObj} {op : Op} {x : Bool} {a b : Prop} (h1 : Cv a (x = false → dK P G dr op d os K env h)) (h2 : Cv b (x = true → cT P G dr os K (fR env d (.tup [])) h)) : Cv (Jn a b) (kE P G dr (.b x) false op d os K env h) := ⟨fun t => aKx (h1.1 t.1) (h2.1 t.2)⟩
theorem vC {P : Program} {G : eW} {Q : Exit → List AV → List AObj → Prop} {env : List AV} {h : List AObj} {c e : jV} {x : Bool} {a b : Prop} (h1 : Cv a (x = true → awx P G c Q env h)) (h2 : Cv b (x = false → awx P G e Q env h)) : Cv (Jn a b) (aAe P G (.b x) c e Q env h) := ⟨fun t => C9 (h1.1 t.1) (h2.1 t.2)⟩
theorem vE {P : Program} {G : eW} {dr : Option DR} {d : Option Nat} {os : List fD} {K : List AV → List AObj → Prop} {env : List AV} {h : List AObj} {f : FuncId} {A A' : List AV} {r : AV} {q : Prop} (s : Ctr P G f A' r) (hA : A.map (gJ dep h) = A') (k : Cv q (cT P G dr os K (fR env d (mat r (fI r h A)).1) (mat r (fI r h A)).2)) : Cv q (tH P G dr f A d os K env h) := ⟨fun t => aGl (hA ▸ s) (k.1 t)⟩
theorem vR {P : Program} {G : eW} {dr : Option DR} {d : Option Nat} {os : List fD} {K : List AV → List AObj → Prop} {env : List AV} {h : List AObj} {f : FuncId} {A : List AV} {r : AV} {q : Prop} (s : Ctr P G f (A.map (gJ dep h)) r) (k : Cv q (cT P G dr os K (fR env d (mat r (fI r h A)).1) (mat r (fI r h A)).2)) : Cv q (tH P G dr f A d os K env h) := ⟨fun t => aGl s (k.1 t)⟩
theorem zg {p q : Prop} (h : q) (e : Cv q p := by
   simp -implicitDefEqProofs (disch := omega) only [go_sem, simprocAttr]
   exact vS) : p := e.1 h
theorem zh {p q x : Prop} (X : x) (h : q) (e : x → Cv q p := by
   intro X
   simp -implicitDefEqProofs (disch := omega) only [X, go_sem, simprocAttr]
   exact vS) : p := (e X).1 h
theorem zv {p x : Prop} (X : x) (e : x → p := by (intro X; simp -implicitDefEqProofs (disch := omega) only [X, go_sem, simprocAttr])) : p := e X
theorem zs0 {p q : Prop} (h : q) (e : Cv q p := by
   repeat' first | with_reducible apply vT | with_reducible apply vF | with_reducible apply vC | ((with_reducible apply vA); focus omega) | ((with_reducible apply vI); (focus (intro hr; (try simp only [zdz] at hr); exact hr)); intro hr; have hc := hr; (try simp only [zdz] at hc); simp -implicitDefEqProofs (disch := omega) only [hr, go_sem, simprocAttr]; (try clear hr))
   any_goals exact vS) : p := e.1 h
theorem zx0 {x : Prop} {p q : Prop} (X : x) (h : q) (e : x → Cv q p := by
   intro X
   repeat' first | with_reducible apply vT | with_reducible apply vF | with_reducible apply vC | ((with_reducible apply vA); focus omega) | ((with_reducible apply vI); (focus (intro hr; (try simp only [zdz] at hr); exact hr)); intro hr; have hc := hr; (try simp only [zdz] at hc); simp -implicitDefEqProofs (disch := omega) only [hr, X, go_sem, simprocAttr]; (try clear hr))
   any_goals exact vS) : p := (e X).1 h
end Go.Vo

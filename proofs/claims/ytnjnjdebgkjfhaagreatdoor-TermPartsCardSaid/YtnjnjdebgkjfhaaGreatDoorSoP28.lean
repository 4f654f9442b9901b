/-
  What functions of the chapter return, as plain functions of what they are given; no condition beyond those that each theorem names.
-/
import Derived.Test.YtnjnjdebgkjfhaaGreatDoorSoP24
set_option maxRecDepth 100000
set_option linter.unusedSimpArgs false
set_option linter.unusedVariables false
set_option maxHeartbeats 4000000
namespace Go.Proofs.YtnjnjdebgkjfhaaGreatDoor
open Go Go.Vo
open Nat (reduceAdd reduceSub reduceMul reduceLeDiff reduceLT reduceEqDiff)
open Int (reduceNeg)

inductive Up (l : List (Str × Str)) : Str → Str → Prop
 | refl (a : Str) : Up l a a
 | step {a b c : Str} : Up l a b → (b, c) ∈ l → Up l a c
theorem Up.trans {l : List (Str × Str)} {a b c : Str} (h : Up l a b) (k : Up l b c) : Up l a c := by
 induction k with
 | refl => exact h
 | step _ hm ih => exact .step ih hm
theorem Up.head {l : List (Str × Str)} {a b : Str} (h : Up l a b) : a = b ∨ ∃ m, (a, m) ∈ l ∧ Up l m b := by
 induction h with
 | refl => exact .inl rfl
 | step hu hm ih =>
   rename_i b c
   rcases ih with rfl | ⟨m, h1, h2⟩
   · exact .inr ⟨c, hm, .refl _⟩
   · exact .inr ⟨m, h1, .step h2 hm⟩
theorem stepsUp_mono {x : Str} : ∀ {l : List (Str × Str)} {L : List Str} {y : Str}, y ∈ L → y ∈ stepsUp l x L
 | [], L, y, h => h
 | b :: l, L, y, h => by
   show y ∈ stepsUp l x (stepUp x L b)
   refine stepsUp_mono ?_
   rcases stepUp_cases x L b with e | ⟨_, _, e⟩ <;> rw [e] <;> simp [h]
theorem stepsUp_get {x : Str} : ∀ {l : List (Str × Str)} {L : List Str} {i : Nat}, i < L.length → (stepsUp l x L).getD i [] = L.getD i []
 | [], L, i, h => rfl
 | b :: l, L, i, h => by
   show (stepsUp l x (stepUp x L b)).getD i [] = _
   have h2 := stepUp_prefix (x := x) (b := b) h
   rw [stepsUp_get h2.2, h2.1]
theorem stepsUp_len {x : Str} : ∀ {l : List (Str × Str)} {L : List Str}, L.length ≤ (stepsUp l x L).length
 | [], L => Nat.le_refl _
 | b :: l, L => by
   show _ ≤ (stepsUp l x (stepUp x L b)).length
   refine Nat.le_trans ?_ stepsUp_len
   rcases stepUp_cases x L b with e | ⟨_, _, e⟩ <;> rw [e] <;> simp
theorem stepsUp_all {x : Str} : ∀ {l : List (Str × Str)} {L : List Str} {c : Str}, (x, c) ∈ l → c ∈ stepsUp l x L
 | b :: l, L, c, h => by
   show c ∈ stepsUp l x (stepUp x L b)
   rcases List.mem_cons.1 h with h | h
   · subst h
     refine stepsUp_mono ?_
     unfold stepUp
     by_cases hc : L.contains c = false
     · rw [if_pos ⟨rfl, hc⟩]; simp
     · rw [if_neg (fun h => hc h.2)]
       simpa using hc
   · exact stepsUp_all h
theorem stepsUp_sub {x : Str} : ∀ {l : List (Str × Str)} {L : List Str} {y : Str}, y ∈ stepsUp l x L → y ∈ L ∨ (x, y) ∈ l
 | [], L, y, h => .inl h
 | b :: l, L, y, h => by
   have h : y ∈ stepsUp l x (stepUp x L b) := h
   rcases stepsUp_sub h with h | h
   · rcases stepUp_cases x L b with e | ⟨h1, _, e⟩
     · rw [e] at h; exact .inl h
     · rw [e] at h
       rcases List.mem_append.1 h with h | h
       · exact .inl h
       · simp only [List.mem_singleton] at h
         subst h h1
         exact .inr (by simp)
   · exact .inr (List.mem_cons_of_mem _ h)
theorem climbG_up {l : List (Str × Str)} {a : Str} : ∀ (f i : Nat) (L : List Str), (∀ y ∈ L, Up l a y) → ∀ y ∈ climbG l f i L, Up l a y
 | 0, i, L, h => h
 | f + 1, i, L, h => by
   unfold climbG
   split
   · rename_i hi
     refine climbG_up f (i + 1) _ (fun y hy => ?_)
     rcases stepsUp_sub hy with hy | hy
     · exact h y hy
     · exact .step (h _ (by simp [List.getD, hi])) hy
   · exact h
theorem climbG_closed {l : List (Str × Str)} {a : Str} : ∀ (f i : Nat) (L : List Str), Climbs l a L → i ≤ L.length → l.length + 1 ≤ i + f → (∀ j c, j < i → (L.getD j [], c) ∈ l → c ∈ L) → (∀ y ∈ L, y ∈ climbG l f i L) ∧ ∀ x c, x ∈ climbG l f i L → (x, c) ∈ l → c ∈ climbG l f i L
 | 0, i, L, hC, hi, hf, h => by
   have := hC.len
   refine ⟨fun y hy => hy, fun x c hx hc => ?_⟩
   have hx : x ∈ L := hx
   obtain ⟨j, hj, rfl⟩ := List.mem_iff_getElem.1 hx
   exact h j c (by omega) (by rw [getD_el hj]; exact hc)
 | f + 1, i, L, hC, hi, hf, h => by
   unfold climbG
   split
   · rename_i hlt
     have hl := stepsUp_len (x := L.getD i []) (l := l) (L := L)
     have ih := climbG_closed (a := a) f (i + 1) (stepsUp l (L.getD i []) L) (stepsUp_climbs l _ (fun b hb => hb) hC) (by omega) (by omega) (fun j c hj hc => by
       rw [stepsUp_get (by omega)] at hc
       rcases Nat.lt_succ_iff_lt_or_eq.1 hj with h1 | rfl
       · exact stepsUp_mono (h j c h1 hc)
       · exact stepsUp_all hc)
     exact ⟨fun y hy => ih.1 y (stepsUp_mono hy), ih.2⟩
   · rename_i hge
     refine ⟨fun y hy => hy, fun x c hx hc => ?_⟩
     obtain ⟨j, hj, rfl⟩ := List.mem_iff_getElem.1 hx
     exact h j c (by omega) (by rw [getD_el hj]; exact hc)
theorem mem_climb {l : List (Str × Str)} {a y : Str} : y ∈ climb l a ↔ Up l a y := by
 constructor
 · exact climbG_up _ _ _ (fun y hy => by simp only [List.mem_singleton] at hy; subst hy; exact .refl _) y
 · intro h
   have hcl := climbG_closed (l := l) (a := a) (l.length + 1) 0 [a] ⟨by simp, by simp, by simp⟩ (by simp) (by omega) (fun j c hj => by omega)
   induction h with
   | refl => exact hcl.1 a (by simp)
   | step _ hm ih => exact hcl.2 _ _ ih hm
structure Val (s : LSig) : Prop where
 low : ∀ b ∈ s.below, b.1 ≠ anyS ∧ existsA s b.1 = true ∧ b.2 ∈ s.sorts ∧ ¬ Up s.below b.2 b.1
 fresh : ∀ x ∈ s.sorts, isName x = true ∧ x ∉ alwaysA
 values : ∀ x ∈ s.values, existsA s x = true
 nd : s.sorts.Nodup
 ops : ∀ o ∈ s.ops, isOp s o = true
 funs : ∀ o ∈ s.funs, isFun s o = true
theorem exists_sort {s : LSig} {x : Str} (h : x ∈ s.sorts) : existsA s x = true := by simp [existsA, keysOf, h]
theorem atMost_iff {s : LSig} {x y : Str} (hx : existsA s x = true) : atMost s x y = true ↔ y = anyS ∨ Up s.below x y := by
 simp only [atMost, above, hx, if_true, Bool.or_eq_true, decide_eq_true_eq, List.contains_iff_mem, mem_climb]
theorem Val.up_ex {s : LSig} (v : Val s) {x y : Str} (h : Up s.below x y) (hx : existsA s x = true) : existsA s y = true := by
 cases h with
 | refl => exact hx
 | step _ hm => exact exists_sort (v.low _ hm).2.2.1

theorem swap_swap {x a b : Str} : swap (swap x a b) a b = x := by
 unfold swap
 by_cases h1 : x = a
 · subst h1
   by_cases h2 : b = x
   · subst h2; simp
   · simp [h2]
 · by_cases h2 : x = b
   · subst h2; simp [h1]
   · simp [h1, h2]
theorem swap_name {x a b : Str} (hx : isName x = true) (ha : isName a = true) (hb : isName b = true) : isName (swap x a b) = true := by
 unfold swap
 split
 · exact hb
 · split
   · exact ha
   · exact hx
theorem name_pos {x : Str} (h : isName x = true) : 0 < x.length := by
 cases x with
 | nil => revert h; decide
 | cons a l => simp
theorem name_part {x : Str} (h : isName x = true) {k : Nat} (hk : k < x.length) : part (at_ x k) = true := by
 simp only [isName, Bool.and_eq_true, List.all_eq_true] at h
 have := h.2 x[k] (List.getElem_mem hk)
 simpa [at_, List.getD, hk] using this
theorem name_frame {x : Str} (h : isName x = true) : isFrame x = false := by
 rw [← Bool.not_eq_true]
 intro hf
 simp only [isFrame, Bool.and_eq_true, decide_eq_true_eq] at hf
 obtain ⟨⟨⟨h1, h2⟩, _⟩, _⟩ := hf
 have := name_part h (k := x.length - 2) (by omega)
 rw [h2] at this
 revert this; decide
theorem name_base {x : Str} (h : isName x = true) : base x = x := by simp [base, name_frame h]
theorem at_app {x y : Str} {k : Nat} : at_ (x ++ y) (x.length + k) = at_ y k := by
 unfold at_; simp only [List.getD]
 rw [List.getElem?_append_right (by omega), Nat.add_sub_cancel_left]
theorem refr {n t : Str} (ht : isName t = true) : base (t ++ frame n) = t ∧ frame (t ++ frame n) = frame n := by
 have hp := name_pos ht
 cases hf : isFrame n with
 | false =>
   have e : frame n = [] := by simp [frame, hf]
   rw [e, List.append_nil]
   exact ⟨name_base ht, by simp [frame, name_frame ht]⟩
 | true =>
   have hf' := hf
   simp only [isFrame, Bool.and_eq_true, decide_eq_true_eq] at hf'
   obtain ⟨⟨⟨h1, h2⟩, h3⟩, h4⟩ := hf'
   have e : frame n = n.drop (n.length - 2) := by simp [frame, hf]
   have hl : (frame n).length = 2 := by rw [e]; simp; omega
   have g0 : at_ (frame n) 0 = at_ n (n.length - 2) := by rw [e]; simp [at_, List.getD]
   have g1 : at_ (frame n) 1 = at_ n (n.length - 1) := by
     rw [e]; simp only [at_, List.getD, List.getElem?_drop]
     rw [show n.length - 2 + 1 = n.length - 1 by omega]
   have hlen : (t ++ frame n).length = t.length + 2 := by rw [List.length_append, hl]
   have e0 : at_ (t ++ frame n) (t.length + 2 - 2) = 39 := by
     have := at_app (x := t) (y := frame n) (k := 0)
     rw [show t.length + 2 - 2 = t.length + 0 by omega, this, g0, h2]
   have e1 : at_ (t ++ frame n) (t.length + 2 - 1) = at_ n (n.length - 1) := by
     have := at_app (x := t) (y := frame n) (k := 1)
     rw [show t.length + 2 - 1 = t.length + 1 by omega, this, g1]
   have hF : isFrame (t ++ frame n) = true := by
     simp only [isFrame, hlen, e0, e1, Bool.and_eq_true, decide_eq_true_eq]
     exact ⟨⟨⟨by omega, trivial⟩, h3⟩, h4⟩
   refine ⟨?_, ?_⟩
   · rw [base, if_pos hF, hlen, show t.length + 2 - 2 = t.length by omega, List.take_left]
   · rw [frame, if_pos hF, hlen, show t.length + 2 - 2 = t.length by omega, List.drop_left]
theorem swapOp_swapOp {n a b : Str} (hn : isName (base n) = true) (ha : isName a = true) (hb : isName b = true) : swapOp (swapOp n a b) a b = n := by
 obtain ⟨h1, h2⟩ := refr (n := n) (swap_name hn ha hb)
 unfold swapOp
 rw [h1, h2, swap_swap, base_frame]
structure Ren (s : LSig) (a b : Str) : Prop where
 v : Val s
 r : Val (renamed s a b)
 a : isName a = true
 b : isName b = true
theorem Ren.inv {s : LSig} {a b x : Str} (h : Ren s a b) (hx : existsA s x = true) : sortSw (renamed s a b) a b (sortSw s a b x) = x := by
 by_cases hm : x ∈ s.sorts
 · have e : sortSw s a b x = swap x a b := by simp [sortSw, hm]
   have hm2 : swap x a b ∈ (renamed s a b).sorts := by
     show swap x a b ∈ s.sorts.map (sortSw s a b)
     rw [← e]; exact List.mem_map_of_mem hm
   rw [e]
   have : sortSw (renamed s a b) a b (swap x a b) = swap (swap x a b) a b := by simp [sortSw, hm2]
   rw [this, swap_swap]
 · have e : sortSw s a b x = x := by simp [sortSw, hm]
   have hA : x ∈ alwaysA := by
     simp only [existsA, keysOf, List.contains_iff_mem, List.mem_append] at hx
     exact hx.resolve_right hm
   rw [e]
   have hm2 : x ∉ (renamed s a b).sorts := fun h2 => (h.r.fresh x h2).2 hA
   simp [sortSw, hm2]
theorem sw_ne {s : LSig} {a b x : Str} (ha : isName a = true) (hb : isName b = true) (hx : x ≠ []) : sortSw s a b x ≠ [] := by
 have h1 := name_pos ha
 have h2 := name_pos hb
 unfold sortSw swap
 split
 · split
   · exact List.ne_nil_of_length_pos h2
   · split
     · exact List.ne_nil_of_length_pos h1
     · exact hx
 · exact hx
theorem Ren.piece {s : LSig} {a b : Str} (h : Ren s a b) {p : Str × Str} (hp : p.2 = [] ∨ existsA s p.2 = true) : changeP (sortSw (renamed s a b) a b) (changeP (sortSw s a b) p) = p := by
 obtain ⟨t, q⟩ := p
 unfold changeP
 simp only
 by_cases hq : q = []
 · simp [hq]
 · rw [if_neg hq, if_neg (sw_ne h.a h.b hq), h.inv (hp.resolve_left hq)]
theorem map_inv {α : Type} {f g : α → α} {l : List α} (h : ∀ x ∈ l, g (f x) = x) : (l.map f).map g = l := by
 rw [List.map_map]
 conv => rhs; rw [← List.map_id l]
 exact List.map_congr_left fun x hx => h x hx
theorem argsOf_mem {l : List (Str × Str)} {p : Str × Str} (h : p ∈ l) (hp : p.2 ≠ []) : p.2 ∈ argsOf l := by
 unfold argsOf
 refine List.mem_map_of_mem (List.mem_filter.2 ⟨h, ?_⟩)
 simp [hp]
structure OkPart (s : LSig) (o : LOp) : Prop where
 name : isName (base o.name) = true
 args : ∀ x ∈ o.args, existsA s x = true
 sort : existsA s o.sort = true
 pieces : ∀ p ∈ o.pieces, p.2 = [] ∨ existsA s p.2 = true
theorem Val.part {s : LSig} (v : Val s) {o : LOp} (h : o ∈ s.ops ++ s.funs) : OkPart s o := by
 rcases List.mem_append.1 h with h | h
 · have := v.ops o h
   simp only [isOp, opHead, syntaxA, Bool.and_eq_true, Bool.or_eq_true, decide_eq_true_eq, List.all_eq_true, List.contains_iff_mem, List.isEmpty_iff] at this
   obtain ⟨⟨⟨⟨⟨⟨⟨⟨⟨h1, _⟩, _⟩, h2⟩, h3⟩, _⟩, _⟩, _⟩, _⟩, h4⟩ := this
   refine ⟨h1, h2, exists_sort h3, fun p hp => ?_⟩
   rcases h4 with h4 | ⟨⟨_, _⟩, h4⟩
   · rw [h4] at hp; cases hp
   · by_cases hq : p.2 = []
     · exact .inl hq
     · exact .inr (h2 _ (h4 ▸ argsOf_mem hp hq))
 · have := v.funs o h
   simp only [isFun, Bool.and_eq_true, decide_eq_true_eq, List.all_eq_true] at this
   obtain ⟨⟨⟨⟨⟨h1, _⟩, _⟩, h2⟩, h3⟩, h4⟩ := this
   refine ⟨by rw [name_base h1]; exact h1, h2, h3, fun p hp => ?_⟩
   have : o.pieces = [] := List.eq_nil_of_length_eq_zero (by
     first | exact h4.1 | exact h4.1.1 | exact h4.1.1.1)
   rw [this] at hp; cases hp
theorem Ren.op {s : LSig} {a b : Str} (h : Ren s a b) {o : LOp} (ho : OkPart s o) : changeO (fun x => swapOp x a b) (sortSw (renamed s a b) a b) (changeO (fun x => swapOp x a b) (sortSw s a b) o) = o := by
 have e1 := swapOp_swapOp ho.name h.a h.b
 have e2 : (o.args.map (sortSw s a b)).map (sortSw (renamed s a b) a b) = o.args := map_inv fun x hx => h.inv (ho.args x hx)
 have e3 := h.inv ho.sort
 have e4 : (o.pieces.map (changeP (sortSw s a b))).map (changeP (sortSw (renamed s a b) a b)) = o.pieces := map_inv fun p hp => h.piece (ho.pieces p hp)
 unfold changeO
 simp only [e1, e2, e3, e4]
theorem Ren.back {s : LSig} {a b : Str} (h : Ren s a b) : renamed (renamed s a b) a b = s := by
 have e1 : (s.sorts.map (sortSw s a b)).map (sortSw (renamed s a b) a b) = s.sorts := map_inv fun x hx => h.inv (exists_sort hx)
 have e2 : (s.below.map (changeB (sortSw s a b))).map (changeB (sortSw (renamed s a b) a b)) = s.below := map_inv fun p hp => by
   obtain ⟨_, h1, h2, _⟩ := h.v.low p hp
   unfold changeB
   simp only [h.inv h1, h.inv (exists_sort h2)]
 have e3 : (s.ops.map (changeO (fun x => swapOp x a b) (sortSw s a b))).map (changeO (fun x => swapOp x a b) (sortSw (renamed s a b) a b)) = s.ops := map_inv fun o ho => h.op (h.v.part (List.mem_append_left _ ho))
 have e4 : (s.funs.map (changeO (fun x => swapOp x a b) (sortSw s a b))).map (changeO (fun x => swapOp x a b) (sortSw (renamed s a b) a b)) = s.funs := map_inv fun o ho => h.op (h.v.part (List.mem_append_right _ ho))
 have e5 : (s.values.map (sortSw s a b)).map (sortSw (renamed s a b) a b) = s.values := map_inv fun x hx => h.inv (h.v.values x hx)
 show changeS (fun x => swapOp x a b) (sortSw (renamed s a b) a b) (changeS (fun x => swapOp x a b) (sortSw s a b) s) = s
 unfold changeS
 simp only [e1, e2, e3, e4, e5]
theorem Ren.up {s : LSig} {a b x y : Str} (h : Ren s a b) (hu : Up s.below x y) : Up (renamed s a b).below (sortSw s a b x) (sortSw s a b y) := by
 induction hu with
 | refl => exact .refl _
 | step _ hm ih =>
   refine .step ih ?_
   exact List.mem_map.2 ⟨_, hm, rfl⟩
theorem Ren.down {s : LSig} {a b x v : Str} (h : Ren s a b) (hx : existsA s x = true) (hu : Up (renamed s a b).below (sortSw s a b x) v) : ∃ y, v = sortSw s a b y ∧ Up s.below x y := by
 generalize hq : sortSw s a b x = u at hu
 induction hu with
 | refl => exact ⟨x, hq.symm, .refl _⟩
 | step _ hm ih =>
   obtain ⟨y, rfl, hy⟩ := ih
   obtain ⟨p, hp, hpe⟩ := List.mem_map.1 hm
   have h1 : sortSw s a b p.1 = sortSw s a b y := by rw [Prod.ext_iff] at hpe; exact hpe.1
   have h2 := (Prod.ext_iff.1 hpe).2
   simp only [changeB] at h2
   have h3 : p.1 = y := by
     have k1 := h.inv (h.v.low p hp).2.1
     have k2 := h.inv (h.v.up_ex hy hx)
     rw [h1, k2] at k1
     exact k1.symm
   refine ⟨p.2, h2.symm, hy.step ?_⟩
   rw [← h3]; exact hp
theorem Ren.order {s : LSig} {a b x y : Str} (h : Ren s a b) (hx : x ∈ s.sorts) (hy : y ∈ s.sorts) : atMost (renamed s a b) (sortSw s a b x) (sortSw s a b y) = atMost s x y := by
 have hxe := exists_sort hx
 have m1 : sortSw s a b x ∈ (renamed s a b).sorts := List.mem_map_of_mem hx
 have m2 : sortSw s a b y ∈ (renamed s a b).sorts := List.mem_map_of_mem hy
 have hA : anyS ∈ alwaysA := by simp [alwaysA, anyS]
 rw [Bool.eq_iff_iff, atMost_iff (exists_sort m1), atMost_iff hxe]
 have n1 : y ≠ anyS := fun e => (h.v.fresh y hy).2 (e ▸ hA)
 have n2 : sortSw s a b y ≠ anyS := fun e => (h.r.fresh _ m2).2 (e ▸ hA)
 constructor
 · intro k
   obtain ⟨z, hz, hu⟩ := h.down hxe (k.resolve_left n2)
   have k1 := h.inv (exists_sort hy)
   have k2 := h.inv (h.v.up_ex hu hxe)
   rw [hz, k2] at k1
   exact .inr (k1 ▸ hu)
 · intro k
   exact .inr (h.up (k.resolve_left n1))
end Go.Proofs.YtnjnjdebgkjfhaaGreatDoor

/-
  The abstract layer, part J: every operation that calls no code is what the model does. It speaks of any program; no condition.
  The abstract layer, part K: an operation that calls no code does to the model's state what 'aop' does to the abstract one. It speaks of any program; no condition.
  The abstract layer, part L: what a call is given and what it hands back: contracts. It speaks of any program; no condition.
  The abstract layer, part M: contracts of functions, and what becomes of the objects at a call. It speaks of any program; no condition.
  The abstract layer, part N: contracts, calls by contract. It speaks of any program; no condition.
  The abstract layer, part Na: ranging over maps. It speaks of any program; no condition.
  The abstract layer, part O: code over abstract states: a predicate by recursion on the code, and that it speaks of the model's run. It speaks of any program; no condition.
-/
import Derived.Test.YtnjnjdebgkjfhaaGreatDoorVoP51
import Derived.Maps.RangeRun
import Derived.Laws.AppendOwn
import Derived.Laws.RangeAny
set_option linter.unusedVariables false
set_option linter.unusedSimpArgs false
namespace Go.Vo

inductive ORV (X : Ctx) (w : World) (h : List AObj) : Option AV → Option Value → Prop
 | none : ORV X w h Option.none Option.none
 | some {a v} : RV X w h a v → ORV X w h (some a) (some v)

theorem flatten_length (z : List AV) (n : Nat) : (List.replicate n z).flatten.length = n * z.length := by
 induction n with
 | zero => simp
 | succ n ih => simp [List.replicate_succ, ih, Nat.add_mul]; omega
theorem flatten_get (z : List AV) : ∀ (n j : Nat), j < n * z.length → (List.replicate n z).flatten[j]? = z[j % z.length]?
 | 0, j, h => by simp at h
 | n + 1, j, h => by
   rw [List.replicate_succ, List.flatten_cons]
   by_cases hj : j < z.length
   · rw [List.getElem?_append_left hj, Nat.mod_eq_of_lt hj]
   · rw [List.getElem?_append_right (by omega), flatten_get z n _ (by rw [Nat.add_mul] at h; omega)]
     congr 1
     exact (Nat.mod_eq_sub_mod (by omega)).symm

section
variable {P : Program} {G : Glob} {X : Ctx} {w : World} {h : List AObj}

theorem zeros_ok {z : Value} {zc : List AV} (hz : zcells z = some zc) (n : Nat) :
   (List.replicate n zc).flatten.length = ((Array.range (n * zc.length)).map (z.cells[· % z.cells.size]!)).size ∧ Cells1 ((Array.range (n * zc.length)).map (z.cells[· % z.cells.size]!)) ∧
   (∀ (j : Nat) (a : AV) (v : Value), (List.replicate n zc).flatten[j]? = some a → ((Array.range (n * zc.length)).map (z.cells[· % z.cells.size]!))[j]? = some v → RV X w h a v) := by
 obtain ⟨h1, h2, h3⟩ := aval_cells (X := X) (w := w) (h := h) hz
 have get : ∀ (j : Nat) (v : Value), ((Array.range (n * zc.length)).map (z.cells[· % z.cells.size]!))[j]? = some v → j < n * zc.length ∧ z.cells[j % zc.length]? = some v := by
   intro j v hv
   have hj := (Array.getElem?_eq_some_iff.1 hv).1
   simp at hj
   refine ⟨hj, ?_⟩
   have hpos : 0 < zc.length := by
     rcases Nat.eq_zero_or_pos zc.length with h0 | h0
     · rw [h0] at hj; simp at hj
     · exact h0
   have hm : j % zc.length < z.cells.size := by rw [h1]; exact Nat.mod_lt _ hpos
   simp [hj] at hv
   rw [h1] at hv
   rw [getElem!_pos z.cells _ hm] at hv
   rw [Array.getElem?_eq_getElem hm, hv]
 refine ⟨by simp [flatten_length], ?_, ?_⟩
 · intro j v hv
   exact h2 _ _ (get j v hv).2
 · intro j a v ha hv
   obtain ⟨hj, hv'⟩ := get j v hv
   rw [flatten_get _ _ _ hj] at ha
   exact h3 _ _ _ ha hv'

theorem int_ok {v : Value} {k : IntKind} {n : Int} (r : RV X w h (.i k n) v) : v = .int k n := by
 cases r with
 | i => rfl
 | dead hr _ _ => simp [AV.refs] at hr

theorem fieldOf_ok {T : TypeId} {f fo ft : Nat} (e : fieldOf? P T f = some (fo, ft)) : ∃ fs x, P.underlying T = some (.struct fs) ∧ fs[f]? = some x ∧ x.offset = fo ∧ x.type = ft := by
 unfold fieldOf? at e
 split at e
 · rename_i fs hu
   cases hx : fs[f]? with
   | none => simp [hx] at e
   | some x => simp [hx] at e; exact ⟨fs, x, hu, hx, e.1, e.2⟩
 · cases e

theorem anat_ok {o : Option AV} {vo : Option Value} {d n : Nat} (ho : ORV X w h o vo) (e : anat o d = some n) :
   (o = Option.none ∧ vo = Option.none ∧ n = d) ∨ ∃ k i, o = some (.i k i) ∧ vo = some (.int k i) ∧ 0 ≤ i ∧ i.toNat = n := by
 cases ho with
 | none => simp only [anat, Option.some.injEq] at e; exact .inl ⟨rfl, rfl, e.symm⟩
 | @some a v r =>
   cases a with
   | i k i =>
     simp only [anat, Option.ite_none_right_eq_some, Option.some.injEq] at e
     exact .inr ⟨k, i, rfl, by rw [int_ok r], e.1, e.2⟩
   | _ => simp [anat] at e

theorem run_bound {k : IntKind} {i : Int} {y : Nat} {code : BoundsCode} (h0 : 0 ≤ i) (h1 : i.toNat ≤ y) (w : World) : (Instr.sliceBound (.int k i) y code).run P w = .ok i.toNat w := by
 have : 0 ≤ i ∧ i ≤ (y : Int) := by omega
 simp [Instr.sliceBound, asIntOf, this]

theorem run_bounds {isSlice : Bool} {len cap a b : Nat} {lo hi : Option AV} {vlo vhi : Option Value} (hlo : ORV X w h lo vlo)
   (hhi : ORV X w h hi vhi) (eb : anat hi len = some b) (ea : anat lo 0 = some a) (hab : a ≤ b) (hb : b ≤ len) (hlc : len ≤ cap) (w : World) :
   (Instr.sliceBounds isSlice len cap vlo vhi Option.none).run P w = .ok (a, b, cap) w := by
 rcases anat_ok hhi eb with ⟨rfl, rfl, rfl⟩ | ⟨k, i, rfl, rfl, hi0, rfl⟩ <;> rcases anat_ok hlo ea with ⟨rfl, rfl, rfl⟩ | ⟨k', i', rfl, rfl, hi0', rfl⟩
 · simp [Instr.sliceBounds]
 · simp [Instr.sliceBounds, run_bound hi0' hab]
 · simp [Instr.sliceBounds, run_bound hi0 (Nat.le_trans hb hlc)]
 · simp [Instr.sliceBounds, run_bound hi0 (Nat.le_trans hb hlc), run_bound hi0' hab]

theorem run_bounds3 {len cap a b c : Nat} {lo hi : Option AV} {mx : AV} {vlo vhi : Option Value} {vmx : Value} (hlo : ORV X w h lo vlo)
   (hhi : ORV X w h hi vhi) (hmx : RV X w h mx vmx) (eb : anat hi len = some b) (ea : anat lo 0 = some a) (ec : anat (some mx) 0 = some c)
   (hh : hi ≠ Option.none) (hab : a ≤ b) (hbc : b ≤ c) (hc : c ≤ cap) (w : World) :
   (Instr.sliceBounds true len cap vlo vhi (some vmx)).run P w = .ok (a, b, c) w := by
 obtain ⟨km, im, e1, e2, hm0, rfl⟩ : ∃ k i, mx = .i k i ∧ vmx = .int k i ∧ 0 ≤ i ∧ i.toNat = c := by
   rcases anat_ok (.some hmx) ec with ⟨h1, _⟩ | ⟨k, i, h1, h2, h3, h4⟩
   · cases h1
   · exact ⟨k, i, by simpa using h1, by simpa using h2, h3, h4⟩
 subst e1; subst e2
 rcases anat_ok hhi eb with ⟨rfl, rfl, rfl⟩ | ⟨k, i, rfl, rfl, hi0, rfl⟩
 · exact absurd rfl hh
 rcases anat_ok hlo ea with ⟨rfl, rfl, rfl⟩ | ⟨k', i', rfl, rfl, hi0', rfl⟩
 · simp [Instr.sliceBounds, run_bound hm0 hc, run_bound hi0 hbc]
 · simp [Instr.sliceBounds, run_bound hm0 hc, run_bound hi0 hbc, run_bound hi0' hab]

theorem extract_mk (l : List UInt8) (a b : Nat) : (⟨l.toArray⟩ : ByteArray).extract a b = ⟨((l.take b).drop a).toArray⟩ := by
 apply ByteArray.ext
 rw [ByteArray.data_extract]
 apply Array.ext'
 simp [List.drop_take]

theorem slice_ok {T : TypeId} {x y : AV} {v : Value} {lo hi mx : Option AV} {vlo vhi vmx : Option Value} (g : GH G X w h) (r : RV X w h x v)
   (hlo : ORV X w h lo vlo) (hhi : ORV X w h hi vhi) (hmx : ORV X w h mx vmx) (e : aslice P h T x lo hi mx = some y) :
   ∃ u, (Instr.sliceAt T v vlo vhi vmx).run P w = .ok u w ∧ RV X w h y u := by
 unfold aslice at e
 split at e
 · cases e
 rename_i hmh
 split at e
 · rename_i hu
   split at e
   · rename_i l
     cases hmx
     split at e
     · rename_i b a eb ea
       split at e
       · rename_i hab
         cases e
         cases r with
         | dead hr _ _ => simp [AV.refs] at hr
         | s =>
           have hb := run_bounds (P := P) (isSlice := false) (cap := l.length) hlo hhi eb ea hab.1 hab.2 (Nat.le_refl _) w
           refine ⟨.string ((⟨l.toArray⟩ : ByteArray).extract a b), ?_, ?_⟩
           · simp only [Instr.sliceAt, Sem.run_bind, run_underlying hu, Result.andThen_ok]
             simp only [Instr.slice, Sem.run_bind, run_underlying hu, Result.andThen_ok, size_mk, Option.isSome_none, Bool.false_eq_true, if_false, hb, Sem.run_pure]
           · rw [extract_mk]; exact .s _
       · cases e
     · cases e
   · cases e
 · rename_i el hu
   cases hs : szOf P el with
   | none => simp [hs] at e
   | some sz =>
   simp only [hs] at e
   have hrun : ∀ (a : Option Addr) (len cap lo' hi' m : Nat), v = .slice a len cap → (Instr.sliceBounds true len cap vlo vhi vmx).run P w = .ok (lo', hi', m) w →
       (Instr.sliceAt T v vlo vhi vmx).run P w = .ok (.slice (if m = lo' then a else a.map (·.add (lo' * sz))) (hi' - lo') (m - lo')) w := by
     rintro a len cap lo' hi' m rfl hb
     simp only [Instr.sliceAt, Instr.slice, Sem.run_bind, run_underlying hu, Result.andThen_ok, hb, run_size hs, Sem.run_pure]
   have hbounds : ∀ (len cap a b c : Nat), anat hi len = some b → anat lo 0 = some a → (mx = Option.none → c = cap) → (∀ m, mx = some m → anat (some m) 0 = some c) → a ≤ b → b ≤ len → len ≤ cap → b ≤ c → c ≤ cap →
       (Instr.sliceBounds true len cap vlo vhi vmx).run P w = .ok (a, b, c) w := by
     intro len cap a b c eb ea h1 h2 hab hbl hlc hbc hcc
     cases hmx with
     | none => rw [h1 rfl]; exact run_bounds hlo hhi eb ea hab hbl hlc w
     | @some mx vmx rm =>
       have hhn : hi ≠ Option.none := by rintro rfl; simp at hmh
       exact run_bounds3 hlo hhi rm eb ea (h2 mx rfl) hhn hab hbc hcc w
   have emx : ∀ c, anat mx 0 = some c → ∀ m, mx = some m → anat (some m) 0 = some c := by rintro c hc m rfl; exact hc
   cases x with
   | e0 =>
     simp only at e
     split at e
     · rename_i eb ea em
       cases e
       cases r with
       | dead hr _ _ => simp [AV.refs] at hr
       | e0 a =>
         refine ⟨_, hrun a 0 0 0 0 0 rfl (hbounds 0 0 0 0 0 eb ea (fun _ => rfl) (emx 0 em) (Nat.le_refl _) (Nat.le_refl _) (Nat.le_refl _) (Nat.le_refl _) (Nat.le_refl _)), by simpa using .e0 _⟩
     · cases e
   | sl cells n =>
     simp only at e
     have hv : ∃ a cap, v = .slice a n cap ∧ n ≤ cap := by
       cases r with
       | dead hr _ _ => simp [AV.refs] at hr
       | sl0 a cap => exact ⟨_, _, rfl, Nat.zero_le _⟩
       | sl hF hb hl hc h1 hr => exact ⟨_, _, rfl, hc⟩
     cases mx with
     | none =>
       simp only at e
       split at e
       · rename_i b a eb ea
         split at e
         · rename_i hab
           obtain ⟨hab, hbn, hcl⟩ := hab
           cases e
           obtain ⟨ad, cap, rfl, hnc⟩ := hv
           refine ⟨_, hrun ad n cap a b cap rfl (hbounds n cap a b cap eb ea (fun _ => rfl) (fun m h => by cases h) hab hbn hnc (by omega) (Nat.le_refl _)), ?_⟩
           by_cases hca : cap = a
           · have hb' : b = a := by omega
             subst hb'
             subst hca
             simp only [if_true, Nat.sub_self]
             have : (cells.take (cap * sz)).drop (cap * sz) = [] := List.drop_eq_nil_of_le (by simp; omega)
             rw [this]; exact .sl0 _ _
           · simp only [if_neg hca]
             cases r with
             | dead hr _ _ => simp [AV.refs] at hr
             | sl0 =>
               simp
               have : b - a = 0 := by omega
               rw [this]; exact .sl0 _ _
             | @sl _ _ bb o _ cs T' fr hF hb hl hc h1 hr =>
               simp only [Option.map_some, add_lit]
               have hmb := Nat.mul_le_mul_right sz hbn
               have hma := Nat.mul_le_mul_right sz hab
               have hlen : ((cells.take (b * sz)).drop (a * sz)).length = b * sz - a * sz := by simp; omega
               refine .sl hF hb (by rw [hlen]; omega) (by omega) ?_ ?_
               · intro j u hj hu
                 rw [hlen] at hj
                 exact h1 (a * sz + j) u (by omega) (by rw [← Nat.add_assoc]; exact hu)
               · intro j y u hy hu
                 have hj := lt_of_some hy
                 rw [hlen] at hj
                 rw [List.getElem?_drop, List.getElem?_take, if_pos (by omega)] at hy
                 exact hr (a * sz + j) y u hy (by rw [← Nat.add_assoc]; exact hu)
         · cases e
       · cases e
     | some mx =>
       simp only at e
       split at e
       · rename_i eb ea em
         cases e
         obtain ⟨ad, cap, rfl, hnc⟩ := hv
         refine ⟨_, hrun ad n cap 0 0 0 rfl (hbounds n cap 0 0 0 eb ea (fun h => by cases h) (fun m h => by cases h; exact em) (Nat.le_refl _) (Nat.zero_le _) hnc (Nat.le_refl _) (Nat.zero_le _)), by simpa using .e0 _⟩
       · cases e
   | hs id off n t =>
     simp only at e
     cases hid : h[id]? with
     | none => simp [hid] at e
     | some ob =>
     simp only [hid] at e
     cases ob with
     | arr fz s cells =>
       simp only at e
       split at e
       · rename_i b a eb ea
         split at e
         case isFalse => cases e
         rename_i hc
         obtain ⟨rfl, hab, hbn, hle⟩ := hc
         have hmb := Nat.mul_le_mul_right s hbn
         have hma := Nat.mul_le_mul_right s hab
         have hsub : off + a * s + (b - a) * s = off + b * s := by rw [Nat.sub_mul]; omega
         have cut : ∀ (c : Nat) (t' : Bool), b ≤ c → (∀ cap, v = .slice (match v with | .slice a _ _ => a | _ => Option.none) n cap → c ≤ cap ∧ (t' = true → c = b) ∧ (t' = false → t = false ∧ c = cap)) →
             ∃ ad cap, v = .slice ad n cap ∧ n ≤ cap ∧ RV X w h (.hs id (off + a * s) (b - a) t') (.slice (if c = a then ad else ad.map (·.add (a * s))) (b - a) (c - a)) := by
           intro c t' hbc hcap
           cases r with
           | dead hr hd _ => simp [AV.refs] at hr; subst hr; rw [hid] at hd; cases hd
           | @hs0 _ _ _ fz' s' cells' ad hid' hf ho =>
             rw [hid] at hid'; cases hid'
             obtain ⟨h1, h2, h3⟩ := hcap 0 rfl
             have ha0 : a = 0 := by omega
             have hb0 : b = 0 := by omega
             have hc0 : c = 0 := by omega
             subst ha0; subst hb0; subst hc0
             refine ⟨ad, 0, rfl, Nat.le_refl _, ?_⟩
             simp only [Nat.zero_mul, Nat.add_zero, Nat.sub_self, if_true]
             exact .hs0 hid (fun ht => hf (h3 ht).1) ho
           | @hs _ _ _ _ fz' s' cells' bb o cap T' N hid' hι hsh hn hcc hN htt hff =>
             rw [hid] at hid'; cases hid'
             obtain ⟨h1, h2, h3⟩ := hcap cap rfl
             refine ⟨_, cap, rfl, hcc, ?_⟩
             have hmc := Nat.mul_le_mul_right s h1
             have hsubc : off + a * s + (c - a) * s = off + c * s := by rw [Nat.sub_mul]; have := Nat.mul_le_mul_right s (show a ≤ c by omega); omega
             by_cases hca : c = a
             · have hba : b = a := by omega
               subst hba; subst hca
               simp only [Nat.sub_self, if_true]
               exact .hs0 hid (fun ht => by have h4 := hff (h3 ht).1; have h5 := (h3 ht).2; subst h5; exact h4) (by omega)
             · simp only [if_neg hca, Option.map_some, add_lit, Nat.add_assoc]
               refine .hs hid hι hsh (by omega) (by omega) (by omega) (fun ht => by have := h2 ht; omega) (fun ht => ?_)
               have h4 := hff (h3 ht).1
               have h5 := (h3 ht).2
               subst h5
               omega
         cases hm : mx with
         | none =>
           subst hm
           simp only at e
           split at e
           · cases e
           rename_i htn
           cases e
           have hv : ∃ ad cap, v = .slice ad n cap ∧ n ≤ cap ∧ (t = true → cap = n) := by
             cases r with
             | dead hr hd _ => simp [AV.refs] at hr; subst hr; rw [hid] at hd; cases hd
             | hs0 => exact ⟨_, 0, rfl, Nat.le_refl _, fun _ => rfl⟩
             | hs _ _ _ _ hcc _ htt _ => exact ⟨_, _, rfl, hcc, htt⟩
           obtain ⟨ad, cap, rfl, hnc, htc⟩ := hv
           obtain ⟨ad', cap', hv', hnc', rr⟩ := cut cap t (by omega) (fun cap' hc => by
             simp only [Value.slice.injEq, true_and] at hc
             subst hc
             exact ⟨Nat.le_refl _, fun ht => by have := htc ht; simp [ht] at htn; omega, fun ht => ⟨ht, rfl⟩⟩)
           simp only [Value.slice.injEq, true_and] at hv'
           obtain ⟨rfl, rfl⟩ := hv'
           exact ⟨_, hrun ad n cap a b cap rfl (hbounds n cap a b cap eb ea (fun _ => rfl) (fun m h => by cases h) hab hbn hnc (by omega) (Nat.le_refl _)), rr⟩
         | some m =>
           subst hm
           simp only at e
           split at e
           · rename_i c em
             split at e
             case isFalse => cases e
             rename_i hcb
             subst hcb
             cases e
             have hv : ∃ ad cap, v = .slice ad n cap ∧ n ≤ cap := by
               cases r with
               | dead hr hd _ => simp [AV.refs] at hr; subst hr; rw [hid] at hd; cases hd
               | hs0 => exact ⟨_, 0, rfl, Nat.le_refl _⟩
               | hs _ _ _ _ hcc _ _ _ => exact ⟨_, _, rfl, hcc⟩
             obtain ⟨ad, cap, rfl, hnc⟩ := hv
             obtain ⟨ad', cap', hv', hnc', rr⟩ := cut c true (Nat.le_refl _) (fun cap' hc => by
               simp only [Value.slice.injEq, true_and] at hc
               subst hc
               exact ⟨by omega, fun _ => rfl, fun ht => by cases ht⟩)
             simp only [Value.slice.injEq, true_and] at hv'
             obtain ⟨rfl, rfl⟩ := hv'
             exact ⟨_, hrun ad n cap a c c rfl (hbounds n cap a c c eb ea (fun h => by cases h) (fun m' h => by cases h; exact em) hab hbn hnc (Nat.le_refl _) (by omega)), rr⟩
           · cases e
       · cases e
     | _ => simp at e
   | _ => simp at e
 · rename_i n el hu
   split at e
   case h_2 => cases e
   rename_i sz hs
   cases hlo
   cases hhi
   cases hmx
   split at e
   case h_2 => cases e
   rename_i id
   split at e
   case h_2 => cases e
   rename_i fz s cells hid
   split at e
   case isFalse => cases e
   rename_i hc
   obtain ⟨rfl, hl⟩ := hc
   cases e
   cases r with
   | dead hr hd _ => simp [AV.refs] at hr; subst hr; rw [hid] at hd; cases hd
   | @ptr _ _ ob b o hid2 hnd hι =>
     have ho := g.objs id _ hid
     cases ho with
     | absent h0 => rw [hι] at h0; cases h0
     | @arr _ _ _ b' o' cs T' fr h0 h1 h2 h3 h4 h5 h6 =>
       rw [hι] at h0
       simp only [Option.some.injEq, Prod.mk.injEq] at h0
       obtain ⟨rfl, rfl⟩ := h0
       have hsh : w.shape? b = some (T', cs.size) := by simp only [World.shape?, h1]
       refine ⟨.slice (some ⟨b, o + 0, Option.none⟩) n n, ?_, .hs hid hι hsh (by omega) (Nat.le_refl _) (by omega) (by simp) (fun _ => by omega)⟩
       have hb : (Instr.sliceBounds false n n Option.none Option.none Option.none).run P w = .ok (0, n, n) w := by simp [Instr.sliceBounds]
       simp only [Instr.sliceAt, Sem.run_bind, run_underlying hu, Result.andThen_ok]
       simp only [Instr.sureAddr, Sem.run_bind, Sem.run_pure, Result.andThen_ok, hb, run_size hs]
       by_cases hn : n = 0
       · subst hn; simp
       · simp [hn, add_lit]
 · cases e
end

section
variable {P : Program} {G : Glob} {X : Ctx} {w : World} {h : List AObj} {env : List AV} {a : Act}

theorem map_ok (g : GH G X w h) (r : EnvOK X w h env a) (xs : Array Operand) :
   (xs.toList.map (aev G env)).length = (xs.map a.eval).size ∧ ∀ (j : Nat) (x : AV) (v : Value), (xs.toList.map (aev G env))[j]? = some x → (xs.map a.eval)[j]? = some v → RV X w h x v := by
 refine ⟨by simp, ?_⟩
 intro j x v hx hv
 simp only [List.getElem?_map, Array.getElem?_toList, Option.map_eq_some_iff, Array.getElem?_map] at hx hv
 obtain ⟨o, ho, rfl⟩ := hx
 obtain ⟨o', ho', rfl⟩ := hv
 rw [ho] at ho'; cases ho'
 exact aev_ok g r o

theorem bool_ok {t : Bool} {v : Value} (r : RV X w h (.b t) v) : v = .bool t := by
 cases r with
 | b => rfl
 | dead hr _ _ => simp [AV.refs] at hr

theorem opt_ok (g : GH G X w h) (r : EnvOK X w h env a) (o : Option Operand) : ORV X w h (o.map (aev G env)) (o.map a.eval) := by
 cases o with
 | none => exact .none
 | some o => exact .some (aev_ok g r o)

theorem parts_ok (g : GH G X w h) (r : EnvOK X w h env a) (ps : Array (Nat × Operand)) :
   (ps.toList.map fun (i, x) => (i, aev G env x)).map (·.1) = ((ps.map fun (i, x) => (i, a.eval x)).toList).map (·.1) ∧
   ∀ (j : Nat) (p : Nat × AV) (q : Nat × Value), (ps.toList.map fun (i, x) => (i, aev G env x))[j]? = some p → ((ps.map fun (i, x) => (i, a.eval x)).toList)[j]? = some q → RV X w h p.2 q.2 := by
 refine ⟨by simp, ?_⟩
 intro j p q hp hq
 simp only [Array.toList_map, List.getElem?_map, Option.map_eq_some_iff] at hp hq
 obtain ⟨o, ho, rfl⟩ := hp
 obtain ⟨o', ho', rfl⟩ := hq
 rw [ho] at ho'; cases ho'
 exact aev_ok g r o.2

theorem fill_mono {f g : Nat → Option (Nat × Nat)} (h : ∀ i p, f i = some p → g i = some p) : ∀ (parts : List (Nat × Value)) (z v : Array Value), Instr.fill f z parts = some v → Instr.fill g z parts = some v
 | [], _, _, e => e
 | (i, x) :: rest, z, v, e => by
   unfold Instr.fill at e ⊢
   cases hf : f i with
   | none => simp [hf] at e
   | some p =>
     obtain ⟨off, size⟩ := p
     rw [h i _ hf]
     simp only [hf] at e
     simp only
     split at e
     · cases e
     · rename_i hc
       rw [if_neg hc]
       exact fill_mono h rest _ _ e
theorem box_res (g : GH G X w h) {cells : List AV} {cs : Array Value} (T : TypeId) (hl : cs.size = cells.length) (h1 : Cells1 cs) (hr : ∀ (j : Nat) (x : AV) (u : Value), cells[j]? = some x → cs[j]? = some u → RV X w h x u) :
   ∃ X' w', (newRow T cs).run P w = .ok ⟨w.heap.size, 0, Option.none⟩ w' ∧ RV X' w' (h ++ [.box false cells]) (.ptr h.length 0) (.pointer (some ⟨w.heap.size, 0, Option.none⟩)) ∧ GH G X' w' (h ++ [.box false cells]) ∧ Tr X w h X' w' (h ++ [.box false cells]) := by
 have hp := Pushed.alloc w (.cells cs T (0, 0))
 obtain ⟨g', t⟩ := gh_push g hp _ (objOK_cells g hp cells (by omega) (fun j v _ hv => h1 j v hv) hr).1
 refine ⟨_, _, rfl, ?_, g', t⟩
 have := RV.ptr (X := X.upd h.length (some (w.heap.size, 0))) (w := w.alloc (.cells cs T (0, 0))) (h := h ++ [.box false cells]) (id := h.length) (off := 0) (ob := .box false cells) (b := w.heap.size) (o := 0) (by simp) (by simp) (Ctx.upd_same _ _ _)
 simpa using this

theorem arr_res (g : GH G X w h) {cells : List AV} {cs : Array Value} (T : TypeId) {sz n cap : Nat} (hl : cells.length ≤ cs.size) (h1 : Cells1 cs) (hr : ∀ (j : Nat) (x : AV) (u : Value), cells[j]? = some x → cs[j]? = some u → RV X w h x u)
   (hn : cells.length = n * sz) (hnc : n ≤ cap) (hcap : cap * sz ≤ cs.size) :
   ∃ X' w', (newRow T cs).run P w = .ok ⟨w.heap.size, 0, Option.none⟩ w' ∧ RV X' w' (h ++ [.arr false sz cells]) (.hs h.length 0 n false) (.slice (some ⟨w.heap.size, 0, Option.none⟩) n cap) ∧
     GH G X' w' (h ++ [.arr false sz cells]) ∧ Tr X w h X' w' (h ++ [.arr false sz cells]) := by
 have hp := Pushed.alloc w (.cells cs T (0, 0))
 obtain ⟨g', t⟩ := gh_push g hp _ ((objOK_cells g hp cells hl (fun j v _ hv => h1 j v hv) hr).2 sz)
 refine ⟨_, _, rfl, ?_, g', t⟩
 have hsh : (w.alloc (.cells cs T (0, 0))).shape? w.heap.size = some (T, cs.size) := by simp only [World.shape?, hp.at]
 have := RV.hs (X := X.upd h.length (some (w.heap.size, 0))) (w := w.alloc (.cells cs T (0, 0))) (h := h ++ [.arr false sz cells]) (id := h.length) (off := 0) (n := n) (t := false) (cap := cap) (fz := false) (sz := sz) (cells := cells) (by simp) (Ctx.upd_same _ _ _) hsh (by omega) hnc (by omega) (by simp) (fun _ => by
   have := Nat.mul_le_mul_right sz hnc
   omega)
 simpa using this

theorem len_ok {x : AV} {v : Value} {n : Nat} {T ty : TypeId} (g : GH G X w h) (r : RV X w h x v) (e : alen P h T x = some n) : (Builtin.len_ #[T] ty #[v]).run P w = .ok (.int .i64 n) w := by
 unfold alen at e
 cases hd : P.underlying T with
 | none => simp [hd] at e
 | some d =>
   rw [hd] at e
   cases d with
   | string =>
     cases x <;> simp at e
     subst e
     cases r with
     | s l => simp [Builtin.len_, run_underlying hd, size_mk, goInt]
     | dead hr _ _ => simp [AV.refs] at hr
   | slice el =>
     cases x with
     | e0 =>
       simp at e; subst e
       cases r with
       | e0 => simp [Builtin.len_, run_underlying hd, goInt]
       | dead hr _ _ => simp [AV.refs] at hr
     | sl cells m =>
       simp at e; subst e
       cases r with
       | sl0 => simp [Builtin.len_, run_underlying hd, goInt]
       | sl => simp [Builtin.len_, run_underlying hd, goInt]
       | dead hr _ _ => simp [AV.refs] at hr
     | hs id off m t =>
       cases r with
       | hs hid => simp [hid] at e; subst e; simp [Builtin.len_, run_underlying hd, goInt]
       | hs0 hid => simp [hid] at e; subst e; simp [Builtin.len_, run_underlying hd, goInt]
       | dead hr hd' _ => simp [AV.refs] at hr; subst hr; simp [hd'] at e
     | _ => simp at e
   | map K E =>
     cases x with
     | mapv ks vs =>
       simp at e; subst e
       cases r with
       | mapv hF hb hk hv => simp [Builtin.len_, run_underlying hd, goInt, getObj, Sem.run, hb, hk]
       | dead hr _ _ => simp [AV.refs] at hr
     | mp id =>
       cases r with
       | mp hid hι =>
         simp [hid] at e; subst e
         have ok := g.objs _ _ hid
         cases ok with
         | absent h0 => rw [h0] at hι; cases hι
         | map h0 h1 h2 h3 h4 =>
         rw [h0] at hι; cases hι
         simp [Builtin.len_, run_underlying hd, goInt, getObj, Sem.run, h1, h4]
       | dead hr hd' _ => simp [AV.refs] at hr; subst hr; simp [hd'] at e
     | p u =>
       simp only at e
       split at e <;> first | (cases e; done) | skip
       all_goals (first | (rename_i he; cases he; done) | skip)
       rename_i he; cases he
       cases e
       cases r with
       | p => simp [Builtin.len_, run_underlying hd, goInt]
       | dead hr _ _ => simp [AV.refs] at hr
     | _ => simp at e
   | _ => simp at e

theorem indexAddr_ok {T : TypeId} {x i y : AV} {v iv : Value} (g : GH G X w h) (r : RV X w h x v) (ri : RV X w h i iv) (e : aindexAddr P h T x i = some y) : ∃ u, (Instr.indexAt T v iv).run P w = .ok u w ∧ RV X w h y u := by
 unfold aindexAddr at e
 cases i with
 | i k n =>
   rw [int_ok ri]
   simp only at e
   cases hu : P.underlying T with
   | none => simp [hu] at e
   | some d =>
   rw [hu] at e
   cases d with
   | slice el =>
     simp only at e
     cases hs : szOf P el with
     | none => simp [hs] at e
     | some sz =>
     simp only [hs] at e
     cases x with
     | sl cells len =>
       simp only [Option.ite_none_right_eq_some, Option.some.injEq] at e
       obtain ⟨⟨h0, h1⟩, rfl⟩ := e
       cases r with
       | sl0 => simp at h1; omega
       | sl hF hb hl hc h2 hr =>
         refine ⟨_, ?_, .box hF hb hl h2 hr⟩
         simp only [Instr.indexAt, asIntOf, Sem.run_bind, Sem.run_pure, Result.andThen_ok, run_underlying hu, run_size hs, add_lit]
         rw [if_pos ⟨h0, h1⟩]
         simp [run_size hs, add_lit]
       | dead hr _ _ => simp [AV.refs] at hr
     | hs id off len t =>
       cases r with
       | hs0 hid =>
         simp only [hid, Option.ite_none_right_eq_some, Option.some.injEq] at e
         obtain ⟨⟨h0, h1⟩, rfl⟩ := e
         simp at h1; omega
       | hs hid hι hsh hn hc hN ht hf =>
         simp only [hid, Option.ite_none_right_eq_some, Option.some.injEq] at e
         obtain ⟨⟨h0, h1⟩, rfl⟩ := e
         refine ⟨_, ?_, .ptr hid (by simp) hι⟩
         simp only [Instr.indexAt, asIntOf, Sem.run_bind, Sem.run_pure, Result.andThen_ok, run_underlying hu, run_size hs, add_lit]
         rw [if_pos ⟨h0, h1⟩]
         simp [run_size hs, add_lit, Nat.add_assoc]
       | dead hr hd hv => simp [AV.refs] at hr; subst hr; simp [hd] at e
     | _ => simp at e
   | array len el =>
     simp only at e
     cases hs : szOf P el with
     | none => simp [hs] at e
     | some sz =>
     simp only [hs] at e
     split at e
     case isFalse => cases e
     rename_i hc
     obtain ⟨h0, h1⟩ := hc
     cases x with
     | ptr id off =>
       cases r with
       | @ptr _ _ ob _ _ hid hnd hι =>
         have e' : y = .ptr id (off + n.toNat * sz) := by simp only [hid] at e; cases ob <;> simp at e <;> exact e.symm
         subst e'
         refine ⟨_, ?_, .ptr hid hnd hι⟩
         simp only [Instr.indexAt, asIntOf, Sem.run_bind, Sem.run_pure, Result.andThen_ok, run_underlying hu, run_size hs, add_lit, Instr.sureAddr]
         rw [if_pos ⟨h0, h1⟩]
         simp [run_size hs, add_lit, Nat.add_assoc]
       | dead hr hd hv => simp [AV.refs] at hr; subst hr; simp [hd] at e
     | box cells off =>
       simp only [Option.some.injEq] at e; subst e
       cases r with
       | box hF hb hl h2 hr =>
         refine ⟨_, ?_, .box hF hb hl h2 hr⟩
         simp only [Instr.indexAt, asIntOf, Sem.run_bind, Sem.run_pure, Result.andThen_ok, run_underlying hu, run_size hs, add_lit, Instr.sureAddr]
         rw [if_pos ⟨h0, h1⟩]
         simp [run_size hs, add_lit, Nat.add_assoc]
       | dead hr _ _ => simp [AV.refs] at hr
     | _ => simp at e
   | _ => simp at e
 | _ => simp at e

theorem index_ok {T : TypeId} {x i y : AV} {v iv : Value} (g : GH G X w h) (r : RV X w h x v) (ri : RV X w h i iv) (e : aindex P T x i = some y) : ∃ u, (Instr.index T v iv).run P w = .ok u w ∧ RV X w h y u := by
 unfold aindex at e
 cases i with
 | i k n =>
   rw [int_ok ri]
   simp only at e
   split at e
   · rename_i l hu
     simp only [Option.ite_none_right_eq_some, Option.some.injEq] at e
     obtain ⟨⟨h0, h1⟩, rfl⟩ := e
     cases r with
     | dead hr _ _ => simp [AV.refs] at hr
     | s =>
       have hlt : n.toNat < l.length := by omega
       refine ⟨.int .u8 (l.getD n.toNat 0).toNat, ?_, .i _ _⟩
       have hsz : n.toNat < (⟨l.toArray⟩ : ByteArray).size := by rw [size_mk]; exact hlt
       have hg : (⟨l.toArray⟩ : ByteArray)[n.toNat]? = some (l.getD n.toNat 0) := by
         rw [getElem?_pos (⟨l.toArray⟩ : ByteArray) n.toNat hsz]
         simp [ByteArray.getElem_eq_getElem_data, hlt]
       simp only [Instr.index, asIntOf, Sem.run_bind, Sem.run_pure, Result.andThen_ok, run_underlying hu, if_pos h0, hg]
   · rename_i len el cs hu
     cases hs : szOf P el with
     | none => simp [hs] at e
     | some sz =>
     simp only [hs, Option.ite_none_right_eq_some] at e
     obtain ⟨⟨h0, h1⟩, e⟩ := e
     cases r with
     | dead hr _ _ => simp [AV.refs] at hr
     | agg hl hc1 hr =>
       obtain ⟨u, hu', ru⟩ := run_part (X := X) (h := h) (w := w) e hl hc1 hr
       refine ⟨u, ?_, ru⟩
       simp only [Instr.index, asIntOf, Sem.run_bind, Sem.run_pure, Result.andThen_ok, run_underlying hu]
       rw [if_pos ⟨h0, h1⟩]
       simp [run_size hs, hu']
   · cases e
 | _ => simp at e

theorem aop_ok (g : GH G X w h) (r : EnvOK X w h env a) (o : Oper) {x : AV} {h' : List AObj} (e : aop P G env h o.op = some (x, h')) : OpRes G X w h ((execOp a.eval o).run P w) x h' := by
 have ev := fun y => aev_ok g r y
 unfold execOp
 cases ho : o.op with
 | move y =>
   simp only [ho, aop, Option.some.injEq, Prod.mk.injEq] at e ⊢
   obtain ⟨rfl, rfl⟩ := e
   exact .pure g rfl (ev y)
 | assign y =>
   simp only [ho, aop, Option.some.injEq, Prod.mk.injEq] at e ⊢
   obtain ⟨rfl, rfl⟩ := e
   exact .pure g rfl (ev y)
 | pick c y z =>
   simp only [ho, aop] at e ⊢
   cases hc : aev G env c with
   | b t =>
     have rc := ev c
     rw [hc] at rc
     have hcv : a.eval c = .bool t := bool_ok rc
     simp only [hc, Option.some.injEq, Prod.mk.injEq] at e
     obtain ⟨rfl, rfl⟩ := e
     refine .pure (v := if t then a.eval y else a.eval z) g (by simp [hcv, asBool]) ?_
     cases t
     · exact ev z
     · exact ev y
   | _ => simp [hc] at e
 | alloc T =>
   simp only [ho, aop] at e ⊢
   cases hz : zeroOf P T with
   | none => simp [hz] at e
   | some cells =>
     simp only [hz, Option.some.injEq, Prod.mk.injEq] at e
     obtain ⟨rfl, rfl⟩ := e
     obtain ⟨i, zv, hi, hiz, hzc⟩ := zeroOf_info hz
     obtain ⟨h1, h2, h3⟩ := aval_cells (X := X) (w := w) (h := h) hzc
     obtain ⟨X', w', hrun, rr, g', t⟩ := box_res (P := P) g T h1 h2 h3
     exact ⟨X', w', _, _, by simp [Instr.alloc, run_zero hi hiz, newVar, hrun], .inl rfl, rr, g', t⟩
 | box T y =>
   simp only [ho, aop] at e ⊢
   cases hc : acells (aev G env y) with
   | none => simp [hc] at e
   | some cells =>
     simp only [hc, Option.some.injEq, Prod.mk.injEq] at e
     obtain ⟨rfl, rfl⟩ := e
     obtain ⟨h1, h2, h3⟩ := (ev y).cells hc
     obtain ⟨X', w', hrun, rr, g', t⟩ := box_res (P := P) g T h1 h2 h3
     exact ⟨X', w', _, _, by simp [Instr.box, newVar, hrun], .inl rfl, rr, g', t⟩
 | build T parts =>
   simp only [ho, aop] at e ⊢
   cases hpl : placesOf P T with
   | none => simp [hpl] at e
   | some pl =>
   cases hz : zeroOf P T with
   | none => simp [hpl, hz] at e
   | some z =>
   simp only [hpl, hz] at e
   obtain ⟨i, zv, hi, hiz, hzc⟩ := zeroOf_info hz
   obtain ⟨h1, h2, h3⟩ := aval_cells (X := X) (w := w) (h := h) hzc
   cases hf : afill (fun i => pl[i]?) z (parts.toList.map fun (i, x) => (i, aev G env x)) with
   | none => simp [hf] at e
   | some cells =>
   simp only [hf, Option.some.injEq, Prod.mk.injEq] at e
   obtain ⟨rfl, rfl⟩ := e
   obtain ⟨p1, p2⟩ := parts_ok g r parts
   obtain ⟨vout, f1, f2, f3, f4, f5⟩ := fill_ok (fun i => pl[i]?) _ _ z zv.cells cells p1 p2 h1.symm h2 h3 hf
   refine .pure (v := .agg vout) g ?_ (.agg f2 f3 f4)
   have hb : P.built T (parts.map fun (i, x) => (i, a.eval x)).toList = some vout := by
     unfold placesOf at hpl
     unfold Program.built
     cases hu : P.underlying T with
     | none => simp [hu] at hpl
     | some d =>
       cases d with
       | struct fs =>
         simp only [hu] at hpl
         simp only [hi, hiz, hpl]
         rw [← f1]
         congr 1
         funext k
         simp
       | array n e =>
         simp only [hu] at hpl
         cases hie : P.info? e with
         | none => simp [hie] at hpl
         | some ie =>
           simp only [hie, Option.map_some, Option.some.injEq] at hpl
           subst hpl
           simp only [hi, hiz, hie]
           refine fill_mono (fun k p hp => ?_) _ _ _ f1
           simp only [List.getElem?_map, Option.map_eq_some_iff] at hp
           obtain ⟨q, hq, rfl⟩ := hp
           obtain ⟨hlt, hq⟩ := List.getElem?_eq_some_iff.1 hq
           rw [List.getElem_range] at hq
           rw [hq]
       | _ => simp [hu] at hpl
   simp only [Sem.run_bind, run_build w T _ vout hb, Result.andThen_ok, Sem.run_pure]
 | load T y =>
   simp only [ho, aop] at e ⊢
   cases hl : aload P T h (aev G env y) with
   | none => simp [hl] at e
   | some v =>
     simp only [hl, Option.some.injEq, Prod.mk.injEq] at e
     obtain ⟨rfl, rfl⟩ := e
     obtain ⟨u, hu, ru⟩ := load_ok g (ev y) hl
     exact .pure g (by simp [hu]) ru
 | store T y z =>
   simp only [ho, aop] at e ⊢
   cases hs : astore P h T (aev G env y) (aev G env z) with
   | none => simp [hs] at e
   | some h'' =>
     simp only [hs, Option.some.injEq, Prod.mk.injEq] at e
     obtain ⟨rfl, rfl⟩ := e
     obtain ⟨w', hrun, g', t⟩ := store_ok g (ev y) (ev z) hs
     exact ⟨X, w', _, _, by simp [hrun], .inr ⟨rfl, rfl⟩, .u _, g', t⟩
 | nilCheck y =>
   simp only [ho, aop] at e ⊢
   have ry := ev y
   generalize a.eval y = vy at ry ⊢
   cases hy : aev G env y with
   | ptr id off =>
     rw [hy] at e ry
     cases ry with
     | @ptr _ _ ob _ _ hid hnd hι =>
       have e' : x = .ptr id off ∧ h' = h := by simp only [hid] at e; split at e <;> simp at e <;> exact ⟨e.1.symm, e.2.symm⟩
       obtain ⟨rfl, rfl⟩ := e'
       exact .pure g (by rfl) (.ptr hid hnd hι)
     | dead hr hd _ => simp [AV.refs] at hr; subst hr; simp [hd] at e
   | box cells off =>
     rw [hy] at e ry
     simp only [Option.some.injEq, Prod.mk.injEq] at e
     obtain ⟨rfl, rfl⟩ := e
     cases ry with
     | box h1 h2 h3 h4 h5 => exact .pure g (by rfl) (.box h1 h2 h3 h4 h5)
     | dead hr _ _ => simp [AV.refs] at hr
   | fn f b c =>
     rw [hy] at e ry
     simp only [Option.some.injEq, Prod.mk.injEq] at e
     obtain ⟨rfl, rfl⟩ := e
     cases ry with
     | fn h1 h2 h3 h4 => exact .pure g (by rfl) (.fn h1 h2 h3 h4)
     | dead hr _ _ => simp [AV.refs] at hr
   | _ => rw [hy] at e; simp at e
 | binOp op T y z t =>
   simp only [ho, aop] at e ⊢
   cases hb : aBin P op T (aev G env y) (aev G env z) with
   | none => simp [hb] at e
   | some v =>
     simp only [hb, Option.some.injEq, Prod.mk.injEq] at e
     obtain ⟨rfl, rfl⟩ := e
     obtain ⟨u, hu, ru⟩ := aBin_ok y z (ev y) (ev z) hb
     refine .pure g ?_ ru
     rw [Sem.run_bind, hu]; rfl
 | unOp op T y =>
   simp only [ho, aop] at e ⊢
   cases hb : aUn op (aev G env y) with
   | none => simp [hb] at e
   | some v =>
     simp only [hb, Option.some.injEq, Prod.mk.injEq] at e
     obtain ⟨rfl, rfl⟩ := e
     obtain ⟨u, hu, ru⟩ := aUn_ok (P := P) (ev y) hb
     exact .pure g (by simp [hu]) ru
 | convert s d y =>
   simp only [ho, aop] at e ⊢
   cases hb : aConv P s d (aev G env y) with
   | none => simp [hb] at e
   | some v =>
     simp only [hb, Option.some.injEq, Prod.mk.injEq] at e
     obtain ⟨rfl, rfl⟩ := e
     obtain ⟨u, hu, ru⟩ := aConv_ok (P := P) (ev y) hb
     exact .pure g (by simp [hu]) ru
 | makeFunc fn first capt =>
   cases fn with
   | func f =>
     simp only [ho, aop, Option.some.injEq, Prod.mk.injEq] at e ⊢
     obtain ⟨rfl, rfl⟩ := e
     obtain ⟨a1, a2⟩ := map_ok g r first
     obtain ⟨b1, b2⟩ := map_ok g r capt
     exact .pure g (by simp [Instr.makeFunc]) (.fn a1 b1 a2 b2)
   | _ => simp [ho, aop] at e
 | makeMap T res =>
   cases res with
   | none =>
     simp only [ho, aop, Option.some.injEq, Prod.mk.injEq] at e ⊢
     obtain ⟨rfl, rfl⟩ := e
     have hp := Pushed.alloc w (.map #[] 0)
     have hnF : ¬ X.F w.heap.size := fun f => by have := g.fbnd _ f; omega
     obtain ⟨g', t⟩ := gh_push g hp (.map false [] []) (.map (Ctx.upd_same _ _ _) hp.at (fun f => by cases f) (fun _ => hnF) rfl rfl (by simp) (by simp) (by simp) (by simp))
     exact ⟨_, _, _, _, by simp [Instr.makeMap], .inl rfl, .mp (fz := false) (ks := []) (vs := []) (by simp) (Ctx.upd_same _ _ _), g', t⟩
   | some _ => simp [ho, aop] at e
 | slice T y l hi m =>
   simp only [ho, aop] at e ⊢
   cases hs : aslice P h T (aev G env y) (l.map (aev G env)) (hi.map (aev G env)) (m.map (aev G env)) with
   | none => simp [hs] at e
   | some v =>
     simp only [hs, Option.some.injEq, Prod.mk.injEq] at e
     obtain ⟨rfl, rfl⟩ := e
     obtain ⟨u, hu, ru⟩ := slice_ok g (ev y) (opt_ok g r l) (opt_ok g r hi) (opt_ok g r m) hs
     exact .pure g (by simp [hu]) ru
 | field T y f =>
   simp only [ho, aop] at e ⊢
   have ry := ev y
   generalize a.eval y = vy at ry ⊢
   cases hy : aev G env y with
   | agg cs =>
     rw [hy] at e ry
     cases hf : fieldOf? P T f with
     | none => simp [hf] at e
     | some q =>
     obtain ⟨fo, ft⟩ := q
     simp only [hf] at e
     cases hp : apart P ft cs fo with
     | none => simp [hp] at e
     | some v =>
     simp only [hp, Option.some.injEq, Prod.mk.injEq] at e
     obtain ⟨rfl, rfl⟩ := e
     obtain ⟨fs, fd, hu, hfd, rfl, rfl⟩ := fieldOf_ok hf
     cases ry with
     | dead hr _ _ => simp [AV.refs] at hr
     | agg hl h1 hr =>
       obtain ⟨u, hu', ru⟩ := run_part (X := X) (h := h) (w := w) hp hl h1 hr
       refine .pure g ?_ ru
       simp [Instr.field, run_underlying hu, hfd, asAgg, hu']
   | _ => rw [hy] at e; simp at e
 | indexAddr T y i =>
   simp only [ho, aop] at e ⊢
   cases hs : aindexAddr P h T (aev G env y) (aev G env i) with
   | none => simp [hs] at e
   | some v =>
     simp only [hs, Option.some.injEq, Prod.mk.injEq] at e
     obtain ⟨rfl, rfl⟩ := e
     obtain ⟨u, hu, ru⟩ := indexAddr_ok g (ev y) (ev i) hs
     exact .pure g (by simp [hu]) ru
 | index T y i =>
   simp only [ho, aop] at e ⊢
   cases hs : aindex P T (aev G env y) (aev G env i) with
   | none => simp [hs] at e
   | some v =>
     simp only [hs, Option.some.injEq, Prod.mk.injEq] at e
     obtain ⟨rfl, rfl⟩ := e
     obtain ⟨u, hu, ru⟩ := index_ok g (ev y) (ev i) hs
     exact .pure g (by simp [hu]) ru
 | lookup T y k ok =>
   simp only [ho, aop] at e ⊢
   cases hs : alookup P h T (aev G env y) (aev G env k) ok with
   | none => simp [hs] at e
   | some v =>
     simp only [hs, Option.some.injEq, Prod.mk.injEq] at e
     obtain ⟨rfl, rfl⟩ := e
     obtain ⟨u, hu, ru⟩ := lookup_ok g (ev y) (ev k) hs
     exact .pure g (by simp [hu]) ru
 | mapUpdate T y k z =>
   simp only [ho, aop] at e ⊢
   cases hs : amapUpdate P h T (aev G env y) (aev G env k) (aev G env z) with
   | none => simp [hs] at e
   | some h'' =>
     simp only [hs, Option.some.injEq, Prod.mk.injEq] at e
     obtain ⟨rfl, rfl⟩ := e
     obtain ⟨w', hrun, g', t⟩ := mapUpdate_ok g (ev y) (ev k) (ev z) hs
     exact ⟨X, w', _, _, by simp [hrun], .inr ⟨rfl, rfl⟩, .u _, g', t⟩
 | extract y i =>
   simp only [ho, aop] at e ⊢
   have ry := ev y
   generalize a.eval y = vy at ry ⊢
   cases hy : aev G env y with
   | tup vs =>
     rw [hy] at e ry
     cases hi : vs[i]? with
     | none => simp [hi] at e
     | some v =>
     simp only [hi, Option.some.injEq, Prod.mk.injEq] at e
     obtain ⟨rfl, rfl⟩ := e
     cases ry with
     | dead hr _ _ => simp [AV.refs] at hr
     | @tup _ us hl hr =>
       have hlt : i < us.size := hl ▸ lt_of_some hi
       refine .pure (v := us[i]) g ?_ (hr i _ _ hi (by simp [hlt]))
       simp [Instr.extract, hlt]
   | _ => rw [hy] at e; simp at e
 | buildSlice T len parts =>
   simp only [ho, aop] at e ⊢
   cases he : elemOf? P T with
   | none => simp [he] at e
   | some el =>
   have hu := elemOf_ok he
   cases hz : zeroOf P el with
   | none => simp [he, hz] at e
   | some z =>
   simp only [he, hz] at e
   split at e
   case isFalse => cases e
   rename_i hc
   obtain ⟨hsz, hz0, hbig⟩ := hc
   obtain ⟨i, zv, hi, hiz, hzc⟩ := zeroOf_info hz
   split at e
   case isTrue h00 =>
     obtain ⟨rfl, hp0⟩ := h00
     cases e
     have hp0 : parts = #[] := by cases parts; simpa using hp0
     subst hp0
     obtain ⟨g', t⟩ := gh_grown g (Pushed.alloc w (.cells #[] el (0, 0))).grew
     refine ⟨X, w.alloc (.cells #[] el (0, 0)), _, _, ?_, .inl rfl, .e0 (some ⟨w.heap.size, 0, Option.none⟩), g', t⟩
     have hnb : ¬ (0 * z.length > 2 ^ 24) := by omega
     have hf0 : Instr.fill (fun i => some (i * z.length, z.length)) (Array.map (fun x => (#[] : Array Value)[x % (#[] : Array Value).size]!) (Array.range (0 * z.length))) (Array.map (fun x : Nat × Operand => (x.1, a.eval x.2)) #[]).toList = some #[] := by
       simp [Instr.fill]
     have hr0 : (newRow el #[]).run P w = .ok ⟨w.heap.size, 0, Option.none⟩ (w.alloc (.cells #[] el (0, 0))) := rfl
     simp only [Instr.buildSlice, Sem.run_bind, run_underlying hu, Result.andThen_ok, run_size hsz, if_neg hnb, Sem.run_pure, if_pos (Nat.zero_mul _), hf0, hr0]
   obtain ⟨z1, z2, z3⟩ := zeros_ok (X := X) (w := w) (h := h) hzc len
   cases hf : afill (fun i => some (i * z.length, z.length)) (List.replicate len z).flatten (parts.toList.map fun (i, x) => (i, aev G env x)) with
   | none => simp [hf] at e
   | some cells =>
   simp only [hf, Option.some.injEq, Prod.mk.injEq] at e
   obtain ⟨rfl, rfl⟩ := e
   obtain ⟨p1, p2⟩ := parts_ok g r parts
   obtain ⟨vout, f1, f2, f3, f4, f5⟩ := fill_ok (fun i => some (i * z.length, z.length)) _ _ _ _ cells p1 p2 z1 z2 z3 hf
   have hvs : vout.size = len * z.length := by rw [f5]; simp
   obtain ⟨X', w', hrun, rr, g', t⟩ := arr_res (P := P) g el (sz := z.length) (n := len) (cap := len) (by omega) f3 f4 (by omega) (Nat.le_refl _) (by omega)
   refine ⟨X', w', _, _, ?_, .inl rfl, rr, g', t⟩
   have hnb : ¬ (len * z.length > 2 ^ 24) := by omega
   have f1' : Instr.fill (fun i => some (i * z.length, z.length)) ((Array.range (len * z.length)).map (zv.cells[· % zv.cells.size]!)) (parts.map fun x => (x.1, a.eval x.2)).toList = some vout := f1
   by_cases h0 : len * z.length = 0
   · have f1'' : Instr.fill (fun i => some (i * z.length, z.length)) ((Array.range (len * z.length)).map ((#[] : Array Value)[· % (#[] : Array Value).size]!)) (parts.map fun x => (x.1, a.eval x.2)).toList = some vout := by
       rw [← f1']
       congr 1
       simp [h0]
     simp only [Instr.buildSlice, Sem.run_bind, run_underlying hu, Result.andThen_ok, run_size hsz, if_neg hnb, Sem.run_pure, if_pos h0, f1'', hrun]
   · simp only [Instr.buildSlice, Sem.run_bind, run_underlying hu, Result.andThen_ok, run_size hsz, if_neg hnb, Sem.run_pure, if_neg h0, run_zero hi hiz, f1', hrun]
 | makeSlice T l c =>
   simp only [ho, aop] at e ⊢
   unfold amakeSlice at e
   cases he : elemOf? P T with
   | none => simp [he] at e
   | some el =>
   have hu := elemOf_ok he
   have rl := ev l
   have rc := ev c
   cases hl : aev G env l with
   | i kl nl =>
     cases hc : aev G env c with
     | i kc nc =>
       rw [hl] at rl
       rw [hc] at rc
       have el1 := int_ok rl
       have ec1 := int_ok rc
       cases hz : zeroOf P el with
       | none => simp [he, hl, hc, hz] at e
       | some z =>
       cases hby : byOf P el with
       | none => simp [he, hl, hc, hz, hby] at e
       | some by_ =>
       simp only [he, hl, hc, hz, hby] at e
       split at e
       case isFalse => cases e
       rename_i hcond
       obtain ⟨h0, hlc, hbytes, hbig, hsz, hz0⟩ := hcond
       simp only [Option.some.injEq, Prod.mk.injEq] at e
       obtain ⟨rfl, rfl⟩ := e
       obtain ⟨i, zv, hi, hiz, hzc⟩ := zeroOf_info hz
       have hiby : i.bytes = by_ := byOf_info hi hby
       obtain ⟨z1, z2, z3⟩ := zeros_ok (X := X) (w := w) (h := h) hzc nc.toNat
       have hln : (List.replicate nl.toNat z).flatten.length = nl.toNat * z.length := flatten_length _ _
       have hmul := Nat.mul_le_mul_right z.length (show nl.toNat ≤ nc.toNat by omega)
       have hcs : ((Array.range (nc.toNat * z.length)).map (zv.cells[· % zv.cells.size]!)).size = nc.toNat * z.length := by simp
       obtain ⟨X', w', hrun, rr, g', t⟩ := arr_res (P := P) g el (cells := (List.replicate nl.toNat z).flatten) (cs := (Array.range (nc.toNat * z.length)).map (zv.cells[· % zv.cells.size]!)) (sz := z.length) (n := nl.toNat) (cap := nc.toNat) (by omega) z2 (by
         intro j y u hy hu
         have hj := lt_of_some hy
         rw [hln] at hj
         refine z3 j y u ?_ hu
         rw [flatten_get _ _ _ (by omega)]
         rw [flatten_get _ _ _ hj] at hy
         exact hy) hln (by omega) (by omega)
       refine ⟨X', w', _, _, ?_, .inl rfl, rr, g', t⟩
       have w1 : IntKind.i64.wrap nl = nl := IntWalk.i64_in _ (by omega)
       have w2 : IntKind.i64.wrap nc = nc := IntWalk.i64_in _ (by omega)
       have hb1 : ¬ ((by_ : Int) * nc > 281474976710656) := by rw [Int.mul_comm]; omega
       have hcnd : ((decide (nc < 0) || decide ((by_ : Int) * nc > 2 ^ 48)) || decide (nl < 0) || decide (nl > nc)) = false := by
         simp
         omega
       by_cases hz00 : nc.toNat * z.length = 0
       · have hrun' : (newRow el ((Array.range (nc.toNat * z.length)).map ((#[] : Array Value)[· % (#[] : Array Value).size]!))).run P w = .ok ⟨w.heap.size, 0, Option.none⟩ w' := by
           rw [← hrun]
           congr 2
           simp [hz00]
         simp only [Instr.makeSlice, Sem.run_bind, run_underlying hu, Result.andThen_ok, el1, ec1, asInt, asIntOf, Sem.run_pure, typeInfo, run_program, hi, hiby, w1, w2, hcnd, Bool.false_eq_true, if_false, run_askRoom, run_size hsz, if_pos hz00, hrun']
       · simp only [Instr.makeSlice, Sem.run_bind, run_underlying hu, Result.andThen_ok, el1, ec1, asInt, asIntOf, Sem.run_pure, typeInfo, run_program, hi, hiby, w1, w2, hcnd, Bool.false_eq_true, if_false, run_askRoom, run_size hsz, if_neg hz00, run_zero hi hiz, hrun]
     | _ => simp [he, hl, hc] at e
   | _ => simp [he, hl] at e
 | fieldAddr S y f =>
   simp only [ho, aop] at e ⊢
   have ry := ev y
   generalize a.eval y = vy at ry ⊢
   cases hf : fieldOf? P S f with
   | none => simp [hf] at e
   | some q =>
   obtain ⟨fo, ft⟩ := q
   simp only [hf] at e
   obtain ⟨fs, fd, hu, hfd, rfl, rfl⟩ := fieldOf_ok hf
   cases hs : szOf P fd.type with
   | none => simp [hs] at e
   | some sz =>
   cases sz with
   | zero => simp [hs] at e
   | succ sz =>
   simp only [hs] at e
   have hfp : ∀ b o : Nat, (fieldPlace ⟨b, o, Option.none⟩ fd).run P w = .ok ⟨b, o + fd.offset, Option.none⟩ w := by
     intro b o
     simp [fieldPlace, run_size hs, add_lit]
   cases hy : aev G env y with
   | ptr id off =>
     rw [hy] at e ry
     cases ry with
     | @ptr _ _ ob b o hid hnd hι =>
       have e' : x = .ptr id (off + fd.offset) ∧ h' = h := by simp only [hid] at e; split at e <;> simp at e <;> exact ⟨e.1.symm, e.2.symm⟩
       obtain ⟨rfl, rfl⟩ := e'
       refine .pure g ?_ (.ptr hid hnd hι)
       simp [Instr.fieldAt, run_underlying hu, hfd, Instr.sureAddr, hfp, Nat.add_assoc]
     | dead hr hd _ => simp [AV.refs] at hr; subst hr; simp [hd] at e
   | box cells off =>
     rw [hy] at e ry
     simp only [Option.some.injEq, Prod.mk.injEq] at e
     obtain ⟨rfl, rfl⟩ := e
     cases ry with
     | box h1 h2 h3 h4 h5 =>
       refine .pure g ?_ (.box h1 h2 h3 h4 h5)
       simp [Instr.fieldAt, run_underlying hu, hfd, Instr.sureAddr, hfp, Nat.add_assoc]
     | dead hr _ _ => simp [AV.refs] at hr
   | _ => rw [hy] at e; simp at e
 | call c =>
   simp only [ho, aop] at e ⊢
   cases hcal : c.callee with
   | builtin b =>
     simp only [hcal] at e
     unfold abuiltin at e
     split at e
     · rename_i T y hty harg
       cases hl : alen P h T y with
       | none => simp [hl] at e
       | some n =>
       simp only [hl, Option.some.injEq, Prod.mk.injEq] at e
       obtain ⟨rfl, rfl⟩ := e
       obtain ⟨o1, ho1⟩ : ∃ o1, c.args = #[o1] := by
         have : c.args.toList.length = 1 := by have := congrArg List.length harg; simpa using this
         match hc : c.args with
         | ⟨[o1]⟩ => exact ⟨o1, rfl⟩
         | ⟨[]⟩ => simp [hc] at this
         | ⟨_ :: _ :: _⟩ => simp [hc] at this
       have htys : c.argTypes = #[T] := by rw [← Array.toArray_toList (xs := c.argTypes), hty]
       simp only [ho1, List.map_cons, List.map_nil, List.cons.injEq, and_true] at harg
       subst harg
       have := len_ok (ty := o.type) g (ev o1) hl
       refine .pure (v := .int .i64 n) g ?_ (.i _ _)
       simp [resolve, hcal, ho1, htys, invoke, builtin, this]
     · rename_i T U y z hty harg
       split at e
       case isFalse => cases e
       rename_i hTU
       subst hTU
       obtain ⟨o1, o2, ho1⟩ : ∃ o1 o2, c.args = #[o1, o2] := by
         have : c.args.toList.length = 2 := by have := congrArg List.length harg; simpa using this
         match hc : c.args with
         | ⟨[o1, o2]⟩ => exact ⟨o1, o2, rfl⟩
         | ⟨[]⟩ => simp [hc] at this
         | ⟨[_]⟩ => simp [hc] at this
         | ⟨_ :: _ :: _ :: _⟩ => simp [hc] at this
       have htys : c.argTypes = #[T, T] := by rw [← Array.toArray_toList (xs := c.argTypes), hty]
       simp only [ho1, List.map_cons, List.map_nil, List.cons.injEq, and_true] at harg
       obtain ⟨rfl, rfl⟩ := harg
       obtain ⟨X', w', y', hrun, rr, g', t⟩ := append_ok (ty := o.type) g (ev o1) (ev o2) e
       refine ⟨X', w', _, _, ?_, .inl rfl, rr, g', t⟩
       simp [resolve, hcal, ho1, htys, invoke, builtin, hrun]
     · rename_i T hty harg
       split at e
       case h_2 => cases e
       rename_i el hT
       simp only [Option.some.injEq, Prod.mk.injEq] at e
       obtain ⟨rfl, rfl⟩ := e
       obtain ⟨o1, ho1⟩ : ∃ o1, c.args = #[o1] := by
         have : c.args.toList.length = 1 := by have := congrArg List.length harg; simpa using this
         match hc : c.args with
         | ⟨[o1]⟩ => exact ⟨o1, rfl⟩
         | ⟨[]⟩ => simp [hc] at this
         | ⟨_ :: _ :: _⟩ => simp [hc] at this
       have htys : c.argTypes = #[T] := by rw [← Array.toArray_toList (xs := c.argTypes), hty]
       simp only [ho1, List.map_cons, List.map_nil, List.cons.injEq, and_true] at harg
       have r1 := ev o1
       rw [harg] at r1
       obtain ⟨ad, had⟩ : ∃ ad, a.eval o1 = .slice ad 0 0 := by
         generalize a.eval o1 = v1 at r1
         cases r1 with
         | e0 ad => exact ⟨ad, rfl⟩
         | dead hr _ _ => simp [AV.refs] at hr
       refine .pure (v := .int .i64 0) g ?_ (.i _ _)
       simp [resolve, hcal, ho1, htys, invoke, builtin, Builtin.cap_, run_underlying hT, had, goInt]
     · rename_i k x k' y harg
       split at e
       case isFalse => cases e
       rename_i hk
       subst hk
       simp only [Option.some.injEq, Prod.mk.injEq] at e
       obtain ⟨rfl, rfl⟩ := e
       obtain ⟨o1, o2, ho1⟩ : ∃ o1 o2, c.args = #[o1, o2] := by
         have : c.args.toList.length = 2 := by have := congrArg List.length harg; simpa using this
         match hc : c.args with
         | ⟨[o1, o2]⟩ => exact ⟨o1, o2, rfl⟩
         | ⟨[]⟩ => simp [hc] at this
         | ⟨[_]⟩ => simp [hc] at this
         | ⟨_ :: _ :: _ :: _⟩ => simp [hc] at this
       simp only [ho1, List.map_cons, List.map_nil, List.cons.injEq, and_true] at harg
       have r1 := ev o1
       have r2 := ev o2
       rw [harg.1] at r1
       rw [harg.2] at r2
       have e1 : a.eval o1 = .int k x := by
         generalize a.eval o1 = v1 at r1
         cases r1 with
         | i _ _ => rfl
         | dead hr _ _ => simp [AV.refs] at hr
       have e2 : a.eval o2 = .int k y := by
         generalize a.eval o2 = v1 at r2
         cases r2 with
         | i _ _ => rfl
         | dead hr _ _ => simp [AV.refs] at hr
       refine .pure (v := .int k (if y > x then y else x)) g ?_ (.i _ _)
       simp [resolve, hcal, ho1, invoke, builtin, Builtin.max_, Builtin.max2, e1, e2]
     · cases e
   | _ => simp [hcal] at e
 | _ => simp [ho, aop] at e
end

mutual
def pers : AV → Bool
 | .u | .b _ | .i _ _ | .s _ | .p _ => true
 | .sl cells _ => persL cells
 | .box cells _ => persL cells
 | .mapv ks vs => persL ks && persL vs
 | .fn _ first capt => persL first && persL capt
 | .agg cells => persL cells
 | .tup vs => persL vs
 | .e0 | .own .. | .hs .. | .ptr .. | .mp _ => false
def persL : List AV → Bool
 | [] => true
 | a :: l => pers a && persL l
end

mutual
def flat : AV → Bool
 | .u | .b _ | .i _ _ | .s _ | .p _ | .e0 => true
 | .sl cells n => cells.isEmpty && n == 0
 | .own _ cells _ => flatL cells
 | .fn _ first capt => flatL first && flatL capt
 | .agg cells => flatL cells
 | .tup vs => flatL vs
 | _ => false
def flatL : List AV → Bool
 | [] => true
 | a :: l => flat a && flatL l
end

theorem persL_mem : ∀ {l : List AV}, persL l = true → ∀ (j : Nat) (a : AV), l[j]? = some a → pers a = true
 | [], _, _, _, h => by simp at h
 | x :: l, e, 0, a, h => by simp [persL] at e; simp at h; exact h ▸ e.1
 | x :: l, e, j + 1, a, h => by simp [persL] at e; exact persL_mem e.2 j a (by simpa using h)
theorem flatL_mem : ∀ {l : List AV}, flatL l = true → ∀ (j : Nat) (a : AV), l[j]? = some a → flat a = true
 | [], _, _, _, h => by simp at h
 | x :: l, e, 0, a, h => by simp [flatL] at e; simp at h; exact h ▸ e.1
 | x :: l, e, j + 1, a, h => by simp [flatL] at e; exact flatL_mem e.2 j a (by simpa using h)

theorem RV.pers {X X' : Ctx} {w w' : World} {h h' : List AObj} {a : AV} {v : Value} (r : RV X w h a v) (hp : pers a = true) (hF : ∀ b, X.F b → X'.F b) (hk : ∀ b, X.F b → w'.heap[b]? = w.heap[b]?) : RV X' w' h' a v := by
 induction r with
 | u v => exact .u v
 | b x => exact .b x
 | i k n => exact .i k n
 | s l => exact .s l
 | p v hv => exact .p v hv
 | sl0 a cap => exact .sl0 a cap
 | sl h1 h2 h3 h4 h5 _ ih => simp only [Vo.pers] at hp; exact .sl (hF _ h1) ((hk _ h1).trans h2) h3 h4 h5 (fun j a v ha hv => ih j a v ha hv (persL_mem hp j a ha))
 | box h1 h2 h3 h5 _ ih => simp only [Vo.pers] at hp; exact .box (hF _ h1) ((hk _ h1).trans h2) h3 h5 (fun j a v ha hv => ih j a v ha hv (persL_mem hp j a ha))
 | mapv h1 h2 h3 h4 _ _ h5 h6 ih1 ih2 =>
   simp only [Vo.pers, Bool.and_eq_true] at hp
   exact .mapv (hF _ h1) ((hk _ h1).trans h2) h3 h4 (fun j a v ha hv => ih1 j a v ha hv (persL_mem hp.1 j a ha)) (fun j a v ha hv => ih2 j a v ha hv (persL_mem hp.2 j a ha)) h5 h6
 | fn h1 h2 _ _ ih1 ih2 =>
   simp only [Vo.pers, Bool.and_eq_true] at hp
   exact .fn h1 h2 (fun j a v ha hv => ih1 j a v ha hv (persL_mem hp.1 j a ha)) (fun j a v ha hv => ih2 j a v ha hv (persL_mem hp.2 j a ha))
 | agg h1 h2 _ ih => simp only [Vo.pers] at hp; exact .agg h1 h2 (fun j a v ha hv => ih j a v ha hv (persL_mem hp j a ha))
 | tup h1 _ ih => simp only [Vo.pers] at hp; exact .tup h1 (fun j a v ha hv => ih j a v ha hv (persL_mem hp j a ha))
 | dead hr _ _ => rename_i a id v _ _; cases a <;> simp [AV.refs] at hr <;> simp [Vo.pers] at hp
 | _ => simp [Vo.pers] at hp

theorem GRel.pers {X X' : Ctx} {w w' : World} {h h' : List AObj} {k : Nat} {a : AV} (r : GRel X w h k a) (hp : Vo.pers a = true) (hF : ∀ b, X.F b → X'.F b) (hk : ∀ b, X.F b → w'.heap[b]? = w.heap[b]?) : GRel X' w' h' k a :=
 ⟨r.1.pers hp hF hk, fun cells off ha => have ⟨h1, cs, T, fr, h2, h3⟩ := r.2 cells off ha; ⟨hF _ h1, cs, T, fr, (hk _ h1).trans h2, h3⟩⟩
theorem RV.flat {X X' : Ctx} {w w' : World} {h h' : List AObj} {a : AV} {v : Value} (r : RV X w h a v) (hp : flat a = true) : RV X' w' h' a v := by
 induction r with
 | u v => exact .u v
 | b x => exact .b x
 | i k n => exact .i k n
 | s l => exact .s l
 | p v hv => exact .p v hv
 | e0 a => exact .e0 a
 | sl0 a cap => exact .sl0 a cap
 | sl h1 h2 h3 h4 h5 _ ih =>
   simp only [Vo.flat, Bool.and_eq_true, List.isEmpty_iff, beq_iff_eq] at hp
   obtain ⟨rfl, rfl⟩ := hp
   exact .sl0 _ _
 | fn h1 h2 _ _ ih1 ih2 =>
   simp only [Vo.flat, Bool.and_eq_true] at hp
   exact .fn h1 h2 (fun j a v ha hv => ih1 j a v ha hv (flatL_mem hp.1 j a ha)) (fun j a v ha hv => ih2 j a v ha hv (flatL_mem hp.2 j a ha))
 | agg h1 h2 _ ih => simp only [Vo.flat] at hp; exact .agg h1 h2 (fun j a v ha hv => ih j a v ha hv (flatL_mem hp j a ha))
 | tup h1 _ ih => simp only [Vo.flat] at hp; exact .tup h1 (fun j a v ha hv => ih j a v ha hv (flatL_mem hp j a ha))
 | dead hr _ _ => rename_i a id v _ _; cases a <;> simp [AV.refs] at hr <;> simp [Vo.flat] at hp
 | _ => simp [Vo.flat] at hp

def snap : Nat → List AObj → AV → AV
 | 0, h, a => if pers a then a else .u
 | k + 1, h, a => if pers a then a else
   let L := fun l => if persL l then l else l.map (snap k h)
   match a with
   | .e0 => .sl [] 0
   | .hs id off n _ => match h[id]? with
     | some (.arr _ sz cells) => if off + n * sz ≤ cells.length then .sl (L ((cells.drop off).take (n * sz))) n else .u
     | _ => .u
   | .ptr id off => match h[id]? with
     | some (.box _ cells) => .box (L cells) off
     | some (.arr _ _ cells) => .box (L cells) off
     | _ => .u
   | .mp id => match h[id]? with
     | some (.map _ ks vs) => .mapv (L ks) (L vs)
     | _ => .u
   | .fn f a b => .fn f (L a) (L b)
   | .agg cs => .agg (L cs)
   | .tup vs => .tup (L vs)
   | _ => .u

def reach : Nat → List AObj → AV → List Nat
 | 0, h, a => []
 | k + 1, h, a => if pers a then [] else
   let L := fun l => if persL l then [] else l.flatMap (reach k h)
   match a with
   | .hs id off n _ => match h[id]? with
     | some (.arr _ sz cells) => id :: L ((cells.drop off).take (n * sz))
     | _ => []
   | .ptr id off => match h[id]? with
     | some (.box _ cells) => id :: L cells
     | some (.arr _ _ cells) => id :: L cells
     | _ => []
   | .mp id => match h[id]? with
     | some (.map _ ks vs) => id :: (L ks ++ L vs)
     | _ => []
   | .fn f a b => L a ++ L b
   | .agg cs => L cs
   | .tup vs => L vs
   | _ => []

def FR (X : Ctx) (ids : List Nat) (b : Nat) : Prop := X.F b ∨ ∃ id ∈ ids, ∃ o, X.ι id = some (b, o)
theorem FR.mono {X : Ctx} {l l' : List Nat} (hl : ∀ i ∈ l, i ∈ l') (b : Nat) (h : FR X l b) : FR X l' b := by
 rcases h with h | ⟨id, hi, o, ho⟩
 · exact .inl h
 · exact .inr ⟨id, hl _ hi, o, ho⟩

theorem RV.monoF {F F' : Nat → Prop} {w : World} {a : AV} {v : Value} (r : RV (.none F) w [] a v) (hF : ∀ b, F b → F' b) : RV (.none F') w [] a v :=
 r.mono ⟨hF, fun _ _ => rfl, fun _ _ h => h, fun id o ho => by simp at ho⟩

section
variable {G : Glob} {X : Ctx} {w : World} {h : List AObj}

theorem snap_ok (g : GH G X w h) : ∀ (k : Nat) (a : AV) (v : Value), RV X w h a v → RV (.none (FR X (reach k h a))) w [] (snap k h a) v
 | 0, a, v, r => by
   simp only [snap]
   split
   · rename_i hp; exact r.pers hp (fun b hb => .inl hb) (fun _ _ => rfl)
   · exact .u _
 | k + 1, a, v, r => by
   simp only [snap, reach]
   split
   · rename_i hp
     exact r.pers hp (fun b hb => .inl hb) (fun _ _ => rfl)
   · rename_i hp
     have L : ∀ (l : List AV) (get : Nat → Option Value), (∀ (j : Nat) (a : AV) (v : Value), l[j]? = some a → get j = some v → RV X w h a v) →
         ((if persL l then l else l.map (snap k h)).length = l.length) ∧ ∀ (ids : List Nat), (∀ i ∈ (if persL l then [] else l.flatMap (reach k h)), i ∈ ids) →
         ∀ (j : Nat) (a : AV) (v : Value), (if persL l then l else l.map (snap k h))[j]? = some a → get j = some v → RV (.none (FR X ids)) w [] a v := by
       intro l get hl
       by_cases hpl : persL l = true
       · simp only [hpl, if_true, true_and]
         intro ids _ j a v ha hv
         exact (hl j a v ha hv).pers (persL_mem hpl j a ha) (fun b hb => .inl hb) (fun _ _ => rfl)
       · simp only [hpl, if_false, Bool.false_eq_true]
         refine ⟨by simp, ?_⟩
         intro ids hids j a v ha hv
         simp only [List.getElem?_map, Option.map_eq_some_iff] at ha
         obtain ⟨x, hx, rfl⟩ := ha
         refine (snap_ok g k x v (hl j x v hx hv)).monoF (FR.mono ?_)
         intro i hi
         exact hids i (List.mem_flatMap.2 ⟨x, List.mem_of_getElem? hx, hi⟩)
     cases r with
     | e0 a => exact .sl0 _ _
     | @hs id off n t fz sz cells b o cap T N hid hι hsh hn hc hN ht hf =>
       simp only [hid, if_pos hn]
       have ok := g.objs _ _ hid
       cases ok with
       | absent h0 => rw [h0] at hι; cases hι
       | @arr _ _ _ b' o' cs T' fr h0 h1 h2 h3 h4 h5 h6 =>
       rw [h0] at hι; cases hι
       obtain ⟨L1, L2⟩ := L ((cells.drop off).take (n * sz)) (fun j => cs[o + off + j]?) (by
         intro j a v ha hv
         rw [List.getElem?_take] at ha
         split at ha
         · rw [List.getElem?_drop] at ha
           exact h6 (off + j) a v ha (by rw [← Nat.add_assoc]; exact hv)
         · cases ha)
       refine .sl (.inr ⟨id, by simp, o, h0⟩) h1 (by rw [L1]; simp; omega) hc ?_ (L2 _ (fun i hi => List.mem_cons_of_mem _ hi))
       intro j v hj hv
       rw [L1] at hj
       simp at hj
       exact h5 (off + j) v (by omega) (by rw [← Nat.add_assoc]; exact hv)
     | @hs0 id off t fz sz cells a hid hf ho =>
       have hle : off + 0 ≤ cells.length := by omega
       simp only [hid, Nat.zero_mul, if_pos hle, List.take_zero]
       simp only [persL, if_true]
       exact .sl0 _ _
     | @ptr id off ob b o hid hnd hι =>
       simp only [hid]
       have ok := g.objs _ _ hid
       cases ok with
       | box h0 h1 h2 h3 h4 h5 h6 =>
         rw [h0] at hι; cases hι
         obtain ⟨L1, L2⟩ := L _ _ h6
         exact .box (.inr ⟨id, by simp, _, h0⟩) h1 (by rw [L1]; exact h4) (by rw [L1]; exact h5) (L2 _ (fun i hi => List.mem_cons_of_mem _ hi))
       | arr h0 h1 h2 h3 h4 h5 h6 =>
         rw [h0] at hι; cases hι
         obtain ⟨L1, L2⟩ := L _ _ h6
         exact .box (.inr ⟨id, by simp, _, h0⟩) h1 (by rw [L1]; exact h4) (by rw [L1]; exact h5) (L2 _ (fun i hi => List.mem_cons_of_mem _ hi))
       | absent h0 => rw [h0] at hι; cases hι
       | _ => exact .u _
     | @mp id fz ks vs b hid hι =>
       simp only [hid]
       have ok := g.objs _ _ hid
       cases ok with
       | absent h0 => rw [h0] at hι; cases hι
       | @map _ _ _ b' es clock h0 h1 h2 h3 h4 h5 h6 h7 h8 h9 =>
         rw [h0] at hι
         simp only [Option.some.injEq, Prod.mk.injEq, and_true] at hι
         subst hι
         obtain ⟨K1, K2⟩ := L ks (fun j => (es[j]?).map (·.key)) (by
           intro j a v ha hv
           simp only [Option.map_eq_some_iff] at hv
           obtain ⟨e, he, rfl⟩ := hv
           exact h6 j a e ha he)
         obtain ⟨V1, V2⟩ := L vs (fun j => (es[j]?).map (·.val)) (by
           intro j a v ha hv
           simp only [Option.map_eq_some_iff] at hv
           obtain ⟨e, he, rfl⟩ := hv
           exact h7 j a e ha he)
         refine .mapv (.inr ⟨id, by simp, _, h0⟩) h1 (by rw [K1]; exact h4) (by rw [V1]; exact h5) ?_ ?_ h8 h9
         · intro j a e ha he
           exact K2 _ (fun i hi => List.mem_cons_of_mem _ (List.mem_append_left _ hi)) j a e.key ha (by simp [he])
         · intro j a e ha he
           exact V2 _ (fun i hi => List.mem_cons_of_mem _ (List.mem_append_right _ hi)) j a e.val ha (by simp [he])
     | @fn f first capt first' capt' h1 h2 h3 h4 =>
       obtain ⟨A1, A2⟩ := L first (fun j => first'[j]?) h3
       obtain ⟨B1, B2⟩ := L capt (fun j => capt'[j]?) h4
       exact .fn (by rw [A1]; exact h1) (by rw [B1]; exact h2) (A2 _ (fun i hi => List.mem_append_left _ hi)) (B2 _ (fun i hi => List.mem_append_right _ hi))
     | @agg cells vs h1 h2 h3 =>
       obtain ⟨A1, A2⟩ := L cells (fun j => vs[j]?) h3
       exact .agg (by rw [A1]; exact h1) h2 (A2 _ (fun i hi => hi))
     | @tup cells vs h1 h3 =>
       obtain ⟨A1, A2⟩ := L cells (fun j => vs[j]?) h3
       exact .tup (by rw [A1]; exact h1) (A2 _ (fun i hi => hi))
     | dead hr hd _ => cases a <;> simp [AV.refs] at hr <;> subst hr <;> simp only [hd] <;> exact .u _
     | _ => first | (simp [Vo.pers] at hp; done) | exact .u _
end

def callable (P : Program) (f : FuncId) : Bool :=
 match P.funcs[f]? with
 | some fn => !(fn.name == "runtime.NumGoroutine") && fn.body.isSome
 | Option.none => false

theorem run_callFunc {P : Program} {f : FuncId} (h : callable P f = true) (args : Array Value) (w : World) : (callFunc f args).run P w = .ok (.enter f args) w := by
 unfold callable at h
 cases hf : P.funcs[f]? with
 | none => simp [hf] at h
 | some fn =>
   simp only [hf, Bool.and_eq_true, Bool.not_eq_true'] at h
   have hb : fn.body.isNone = false := by cases hb : fn.body <;> simp [hb] at h ⊢
   simp only [callFunc, Sem.run_bind, run_program, Result.andThen_ok, hf, h.1, hb, Bool.false_eq_true, if_false, Sem.run_pure]

mutual
def RR (F : Nat → Prop) (w : World) : AV → Value → List Nat → Prop
 | .own sz cells n, v, bs =>
   (∃ b o cs T cap, bs = [b] ∧ v = .slice (some ⟨b, o, Option.none⟩) n cap ∧ w.heap[b]? = some (.cells cs T (0, 0)) ∧ cells.length = n * sz ∧ n ≤ cap ∧ o + cap * sz ≤ cs.size ∧
     (∀ (j : Nat) (v : Value), j < cells.length → cs[o + j]? = some v → v.oneCell' = true) ∧ ∀ (j : Nat) (a : AV) (v : Value), cells[j]? = some a → cs[o + j]? = some v → RV (.none F) w [] a v) ∨
   (cells = [] ∧ n = 0 ∧ ∃ a, v = .slice a 0 0)
 | .agg cells, v, bs => ∃ vs, v = .agg vs ∧ Cells1 vs ∧ RRs F w cells vs.toList bs
 | .tup cells, v, bs => ∃ vs, v = .tuple vs ∧ RRs F w cells vs.toList bs
 | a, v, bs => bs = [] ∧ RV (.none F) w [] a v
def RRs (F : Nat → Prop) (w : World) : List AV → List Value → List Nat → Prop
 | [], [], bs => bs = []
 | a :: as, v :: vs, bs => ∃ b1 b2, bs = b1 ++ b2 ∧ RR F w a v b1 ∧ RRs F w as vs b2
 | _, _, _ => False
end

theorem RRs_val {F : Nat → Prop} {w : World} : ∀ (as : List AV) (vs : List Value), as.length = vs.length → (∀ (j : Nat) (a : AV) (v : Value), as[j]? = some a → vs[j]? = some v → RR F w a v []) → RRs F w as vs []
 | [], [], _, _ => rfl
 | a :: as, v :: vs, hl, hr => ⟨[], [], rfl, hr 0 a v rfl rfl, RRs_val as vs (by simpa using hl) (fun j a' v' ha hv => hr (j + 1) a' v' (by simpa using ha) (by simpa using hv))⟩
 | [], _ :: _, hl, _ => by simp at hl
 | _ :: _, [], hl, _ => by simp at hl

theorem RR.val {F : Nat → Prop} {w : World} {a : AV} {v : Value} (r : RV (.none F) w [] a v) : RR F w a v [] := by
 induction r with
 | @agg cells vs h1 h2 h3 ih => exact ⟨vs, rfl, h2, RRs_val _ _ (by simpa using h1) (fun j a v ha hv => ih j a v ha (by simpa using hv))⟩
 | @tup cells vs h1 h3 ih => exact ⟨vs, rfl, RRs_val _ _ (by simpa using h1) (fun j a v ha hv => ih j a v ha (by simpa using hv))⟩
 | u v => exact ⟨rfl, .u v⟩
 | b x => exact ⟨rfl, .b x⟩
 | i k n => exact ⟨rfl, .i k n⟩
 | s l => exact ⟨rfl, .s l⟩
 | p v hv => exact ⟨rfl, .p v hv⟩
 | e0 a => exact ⟨rfl, .e0 a⟩
 | sl0 a c => exact ⟨rfl, .sl0 a c⟩
 | sl h1 h2 h3 h4 h5 h6 _ => exact ⟨rfl, .sl h1 h2 h3 h4 h5 h6⟩
 | hs hid => simp at hid
 | hs0 hid => simp at hid
 | ptr hid => simp at hid
 | mp hid => simp at hid
 | dead _ hid => simp at hid
 | box h1 h2 h3 h4 h5 _ => exact ⟨rfl, .box h1 h2 h3 h4 h5⟩
 | mapv h1 h2 h3 h4 h5 h6 h7 h8 _ _ => exact ⟨rfl, .mapv h1 h2 h3 h4 h5 h6 h7 h8⟩
 | fn h1 h2 h3 h4 _ _ => exact ⟨rfl, .fn h1 h2 h3 h4⟩

mutual
theorem RR.flat {F F' : Nat → Prop} {w : World} : ∀ (a : AV) (v : Value) (bs : List Nat), RR F w a v bs → flat a = true → RR F' w a v bs
 | .own sz cells n, v, bs, r, hf => by
   simp only [Vo.flat] at hf
   rcases r with ⟨b, o, cs, T, cap, h1, h2, h3, h4, h5, h6, h7, h8⟩ | h
   · exact .inl ⟨b, o, cs, T, cap, h1, h2, h3, h4, h5, h6, h7, fun j a v ha hv => (h8 j a v ha hv).flat (flatL_mem hf j a ha)⟩
   · exact .inr h
 | .agg cells, v, bs, r, hf => by
   simp only [Vo.flat] at hf
   obtain ⟨vs, h1, h2, h3⟩ := r
   exact ⟨vs, h1, h2, RRs.flat cells vs.toList bs h3 hf⟩
 | .tup cells, v, bs, r, hf => by
   simp only [Vo.flat] at hf
   obtain ⟨vs, h1, h3⟩ := r
   exact ⟨vs, h1, RRs.flat cells vs.toList bs h3 hf⟩
 | .u, v, bs, r, hf => ⟨r.1, r.2.flat hf⟩
 | .b _, v, bs, r, hf => ⟨r.1, r.2.flat hf⟩
 | .i _ _, v, bs, r, hf => ⟨r.1, r.2.flat hf⟩
 | .s _, v, bs, r, hf => ⟨r.1, r.2.flat hf⟩
 | .p _, v, bs, r, hf => ⟨r.1, r.2.flat hf⟩
 | .e0, v, bs, r, hf => ⟨r.1, r.2.flat hf⟩
 | .sl _ _, v, bs, r, hf => ⟨r.1, r.2.flat hf⟩
 | .hs _ _ _ _, v, bs, r, hf => ⟨r.1, r.2.flat hf⟩
 | .ptr _ _, v, bs, r, hf => ⟨r.1, r.2.flat hf⟩
 | .box _ _, v, bs, r, hf => ⟨r.1, r.2.flat hf⟩
 | .mp _, v, bs, r, hf => ⟨r.1, r.2.flat hf⟩
 | .mapv _ _, v, bs, r, hf => ⟨r.1, r.2.flat hf⟩
 | .fn _ _ _, v, bs, r, hf => ⟨r.1, r.2.flat hf⟩
theorem RRs.flat {F F' : Nat → Prop} {w : World} : ∀ (as : List AV) (vs : List Value) (bs : List Nat), RRs F w as vs bs → flatL as = true → RRs F' w as vs bs
 | [], [], bs, r, _ => r
 | a :: as, v :: vs, bs, r, hf => by
   simp only [flatL, Bool.and_eq_true] at hf
   obtain ⟨b1, b2, h1, h2, h3⟩ := r
   exact ⟨b1, b2, h1, RR.flat a v b1 h2 hf.1, RRs.flat as vs b2 h3 hf.2⟩
 | [], _ :: _, _, r, _ => r.elim
 | _ :: _, [], _, r, _ => r.elim
end

mutual
def mat : AV → List AObj → AV × List AObj
 | .own sz cells n, h => (.hs h.length 0 n false, h ++ [.arr false sz cells])
 | .agg cells, h => (.agg (matL cells h).1, (matL cells h).2)
 | .tup cells, h => (.tup (matL cells h).1, (matL cells h).2)
 | a, h => (a, h)
def matL : List AV → List AObj → List AV × List AObj
 | [], h => ([], h)
 | a :: as, h => ((mat a h).1 :: (matL as (mat a h).2).1, (matL as (mat a h).2).2)
end

section
variable {G : Glob} {w : World}

structure Mat (G : Glob) (X : Ctx) (w : World) (h : List AObj) (bs : List Nat) (X' : Ctx) (h' : List AObj) : Prop where
 gh : GH G X' w h'
 ext : Ext X w h X' w h'
 F : X'.F = X.F
 ι : ∀ id b o, X'.ι id = some (b, o) → X.ι id = some (b, o) ∨ b ∈ bs
 abs : Abs X h h'

theorem gh_adopt {X : Ctx} {h : List AObj} (g : GH G X w h) {b o sz : Nat} {cells : List AV} {cs : Array Value} {T : TypeId} (hb : w.heap[b]? = some (.cells cs T (0, 0))) (hF : ¬ X.F b) (hι : ∀ id o, X.ι id ≠ some (b, o))
   (hl : o + cells.length ≤ cs.size) (h1 : ∀ (j : Nat) (v : Value), j < cells.length → cs[o + j]? = some v → v.oneCell' = true)
   (hr : ∀ (j : Nat) (a : AV) (v : Value), cells[j]? = some a → cs[o + j]? = some v → RV X w h a v) : Mat G X w h [b] (X.upd h.length (some (b, o))) (h ++ [.arr false sz cells]) := by
 have e := ext_alloc g (Grew.refl w) (.arr false sz cells) (some (b, o))
 refine ⟨⟨?_, ?_, ?_, ?_, g.fbnd, fun k a hk => (g.gl k a hk).mono e⟩, e, rfl, ?_, ?_⟩
 · intro id ob' hid
   by_cases hlt : id < h.length
   · rw [List.getElem?_append_left hlt] at hid
     exact (g.objs id ob' hid).mono e (Ctx.upd_other _ _ (by omega)) (fun _ _ _ => rfl) (fun _ _ _ f => f)
   · have hll := lt_of_some hid
     simp at hll
     obtain rfl : id = h.length := by omega
     simp at hid
     subst hid
     exact .arr (Ctx.upd_same _ _ _) hb (fun f => by cases f) (fun _ => ⟨hF, rfl⟩) hl h1 (fun j a v ha hv => (hr j a v ha hv).mono e)
 · intro id bo hbo
   by_cases hid : id = h.length
   · subst hid; exact ⟨.arr false sz cells, by simp⟩
   · rw [Ctx.upd_other _ _ hid] at hbo
     obtain ⟨ob', ho⟩ := g.dom _ _ hbo
     exact ⟨ob', by rw [List.getElem?_append_left (lt_of_some ho)]; exact ho⟩
 · intro id id' c d d' e1 e2
   by_cases h1 : id = h.length
   · by_cases h2 : id' = h.length
     · omega
     · subst h1
       rw [Ctx.upd_same] at e1
       rw [Ctx.upd_other _ _ h2] at e2
       cases e1
       exact absurd e2 (hι _ _)
   · rw [Ctx.upd_other _ _ h1] at e1
     by_cases h2 : id' = h.length
     · subst h2
       rw [Ctx.upd_same] at e2
       cases e2
       exact absurd e1 (hι _ _)
     · rw [Ctx.upd_other _ _ h2] at e2
       exact g.inj _ _ _ _ _ e1 e2
 · intro id c d e1
   by_cases h1 : id = h.length
   · subst h1
     rw [Ctx.upd_same] at e1
     cases e1
     exact lt_of_block hb
   · rw [Ctx.upd_other _ _ h1] at e1
     exact g.bnd _ _ _ e1
 · intro id c d e1
   by_cases h1 : id = h.length
   · subst h1
     rw [Ctx.upd_same] at e1
     cases e1
     exact .inr (by simp)
   · rw [Ctx.upd_other _ _ h1] at e1
     exact .inl e1
 · intro id z hid _
   rw [List.getElem?_append_left (lt_of_some hid)]; exact hid

theorem Mat.refl {X : Ctx} {h : List AObj} (g : GH G X w h) : Mat G X w h [] X h := ⟨g, .refl _ _ _, rfl, fun _ _ _ h => .inl h, fun _ _ h _ => h⟩
theorem Mat.trans {X X1 X2 : Ctx} {h h1 h2 : List AObj} {b1 b2 : List Nat} (a : Mat G X w h b1 X1 h1) (b : Mat G X1 w h1 b2 X2 h2) : Mat G X w h (b1 ++ b2) X2 h2 := by
 refine ⟨b.gh, a.ext.trans b.ext, b.F.trans a.F, ?_, Abs.trans a.ext a.abs b.abs⟩
 intro id k o hk
 rcases b.ι id k o hk with h | h
 · rcases a.ι id k o h with h | h
   · exact .inl h
   · exact .inr (List.mem_append_left _ h)
 · exact .inr (List.mem_append_right _ h)

theorem RV.lift {F : Nat → Prop} {X : Ctx} {h : List AObj} {a : AV} {v : Value} (r : RV (.none F) w [] a v) (hF : ∀ b, F b → X.F b) : RV X w h a v :=
 r.mono ⟨hF, fun _ _ => rfl, fun _ _ h => h, fun id o ho => by simp at ho⟩

mutual
theorem mat_ok {F : Nat → Prop} : ∀ (a : AV) (v : Value) (bs : List Nat), RR F w a v bs → ∀ (X : Ctx) (h : List AObj), GH G X w h → (∀ b, F b → X.F b) → bs.Nodup → (∀ b ∈ bs, ¬ X.F b ∧ ∀ id o, X.ι id ≠ some (b, o)) →
   ∃ X', Mat G X w h bs X' (mat a h).2 ∧ RV X' w (mat a h).2 (mat a h).1 v
 | .own sz cells n, v, bs, r, X, h, g, hF, hnd, hbs => by
   simp only [mat]
   rcases r with ⟨b, o, cs, T, cap, rfl, rfl, hb, hl, hn, hcap, h1, hr⟩ | ⟨rfl, rfl, a, rfl⟩
   · obtain ⟨hbF, hbι⟩ := hbs b (by simp)
     have hm := Nat.mul_le_mul_right sz hn
     have hM := gh_adopt (sz := sz) (cells := cells) (o := o) g hb hbF hbι (by omega) h1 (fun j a v ha hv => (hr j a v ha hv).lift hF)
     refine ⟨_, hM, ?_⟩
     have hsh : w.shape? b = some (T, cs.size) := by simp [World.shape?, hb]
     have := RV.hs (X := X.upd h.length (some (b, o))) (w := w) (h := h ++ [.arr false sz cells]) (id := h.length) (off := 0) (n := n) (t := false) (cap := cap) (fz := false) (sz := sz) (cells := cells) (by simp) (Ctx.upd_same _ _ _) hsh (by omega) hn (by omega) (by simp) (fun _ => by omega)
     simpa using this
   · have hA := gh_alloc g (Grew.refl w) (.arr false sz []) Option.none (fun _ _ e => by cases e) (.absent (Ctx.upd_same _ _ _) rfl)
     refine ⟨_, ⟨hA.1, hA.2.ext, rfl, ?_, hA.2.abs⟩, .hs0 (fz := false) (sz := sz) (cells := []) (by simp) (by simp) (by simp)⟩
     intro id b o hb
     by_cases hid : id = h.length
     · subst hid; rw [Ctx.upd_same] at hb; cases hb
     · rw [Ctx.upd_other _ _ hid] at hb; exact .inl hb
 | .agg cells, v, bs, r, X, h, g, hF, hnd, hbs => by
   obtain ⟨vs, rfl, h1, h2⟩ := r
   obtain ⟨X', hM, hl, hr⟩ := matL_ok cells vs.toList bs h2 X h g hF hnd hbs
   refine ⟨X', hM, .agg (by simpa using hl) h1 (fun j a v ha hv => hr j a v ha (by simpa using hv))⟩
 | .tup cells, v, bs, r, X, h, g, hF, hnd, hbs => by
   obtain ⟨vs, rfl, h2⟩ := r
   obtain ⟨X', hM, hl, hr⟩ := matL_ok cells vs.toList bs h2 X h g hF hnd hbs
   refine ⟨X', hM, .tup (by simpa using hl) (fun j a v ha hv => hr j a v ha (by simpa using hv))⟩
 | .u, v, bs, r, X, h, g, hF, hnd, hbs => by obtain ⟨rfl, r⟩ := r; exact ⟨X, .refl g, r.lift hF⟩
 | .b _, v, bs, r, X, h, g, hF, hnd, hbs => by obtain ⟨rfl, r⟩ := r; exact ⟨X, .refl g, r.lift hF⟩
 | .i _ _, v, bs, r, X, h, g, hF, hnd, hbs => by obtain ⟨rfl, r⟩ := r; exact ⟨X, .refl g, r.lift hF⟩
 | .s _, v, bs, r, X, h, g, hF, hnd, hbs => by obtain ⟨rfl, r⟩ := r; exact ⟨X, .refl g, r.lift hF⟩
 | .p _, v, bs, r, X, h, g, hF, hnd, hbs => by obtain ⟨rfl, r⟩ := r; exact ⟨X, .refl g, r.lift hF⟩
 | .e0, v, bs, r, X, h, g, hF, hnd, hbs => by obtain ⟨rfl, r⟩ := r; exact ⟨X, .refl g, r.lift hF⟩
 | .sl _ _, v, bs, r, X, h, g, hF, hnd, hbs => by obtain ⟨rfl, r⟩ := r; exact ⟨X, .refl g, r.lift hF⟩
 | .hs _ _ _ _, v, bs, r, X, h, g, hF, hnd, hbs => by obtain ⟨rfl, r⟩ := r; exact ⟨X, .refl g, r.lift hF⟩
 | .ptr _ _, v, bs, r, X, h, g, hF, hnd, hbs => by obtain ⟨rfl, r⟩ := r; exact ⟨X, .refl g, r.lift hF⟩
 | .box _ _, v, bs, r, X, h, g, hF, hnd, hbs => by obtain ⟨rfl, r⟩ := r; exact ⟨X, .refl g, r.lift hF⟩
 | .mp _, v, bs, r, X, h, g, hF, hnd, hbs => by obtain ⟨rfl, r⟩ := r; exact ⟨X, .refl g, r.lift hF⟩
 | .mapv _ _, v, bs, r, X, h, g, hF, hnd, hbs => by obtain ⟨rfl, r⟩ := r; exact ⟨X, .refl g, r.lift hF⟩
 | .fn _ _ _, v, bs, r, X, h, g, hF, hnd, hbs => by obtain ⟨rfl, r⟩ := r; exact ⟨X, .refl g, r.lift hF⟩
theorem matL_ok {F : Nat → Prop} : ∀ (as : List AV) (vs : List Value) (bs : List Nat), RRs F w as vs bs → ∀ (X : Ctx) (h : List AObj), GH G X w h → (∀ b, F b → X.F b) → bs.Nodup → (∀ b ∈ bs, ¬ X.F b ∧ ∀ id o, X.ι id ≠ some (b, o)) →
   ∃ X', Mat G X w h bs X' (matL as h).2 ∧ (matL as h).1.length = vs.length ∧ ∀ (j : Nat) (a : AV) (v : Value), (matL as h).1[j]? = some a → vs[j]? = some v → RV X' w (matL as h).2 a v
 | [], [], bs, r, X, h, g, hF, hnd, hbs => by
   obtain rfl : bs = [] := r
   exact ⟨X, .refl g, rfl, fun j a v ha _ => by simp [matL] at ha⟩
 | a :: as, v :: vs, bs, r, X, h, g, hF, hnd, hbs => by
   obtain ⟨b1, b2, rfl, r1, r2⟩ := r
   rw [List.nodup_append] at hnd
   obtain ⟨X1, M1, R1⟩ := mat_ok a v b1 r1 X h g hF hnd.1 (fun b hb => hbs b (List.mem_append_left _ hb))
   obtain ⟨X2, M2, hl, R2⟩ := matL_ok as vs b2 r2 X1 (mat a h).2 M1.gh (fun b hb => by rw [M1.F]; exact hF b hb) hnd.2.1 (fun b hb => by
     obtain ⟨h1, h2⟩ := hbs b (List.mem_append_right _ hb)
     refine ⟨by rw [M1.F]; exact h1, fun id o e => ?_⟩
     rcases M1.ι id b o e with h | h
     · exact h2 _ _ h
     · exact hnd.2.2 b h b hb rfl)
   refine ⟨X2, M1.trans M2, by simp [matL, hl], ?_⟩
   intro j x u hx hu
   cases j with
   | zero => simp [matL] at hx hu; exact hx ▸ hu ▸ R1.mono M2.ext
   | succ j => simp only [matL, List.getElem?_cons_succ] at hx hu; exact R2 j x u hx hu
 | [], _ :: _, bs, r, X, h, g, hF, hnd, hbs => r.elim
 | _ :: _, [], bs, r, X, h, g, hF, hnd, hbs => r.elim
end
end

def AObj.fz : AObj → AObj
 | .box _ c => .box true c
 | .arr _ s c => .arr true s c
 | .map _ k v => .map true k v
 | o => o
def AObj.fzable : AObj → Bool
 | .box .. | .arr .. | .map .. => true
 | _ => false
theorem AObj.like_fz (o : AObj) : o.like o.fz := by cases o <;> simp [AObj.fz, AObj.like]

def freeze : List Nat → List AObj → List AObj
 | [], h => h
 | id :: ids, h => freeze ids (h.modify id AObj.fz)

theorem freeze_get : ∀ (ids : List Nat) (h : List AObj) (j : Nat), (freeze ids h)[j]? = (h[j]?).map fun o => if j ∈ ids then o.fz else o
 | [], h, j => by simp [freeze]
 | id :: ids, h, j => by
   simp only [freeze]
   rw [freeze_get ids, List.getElem?_modify]
   cases h[j]? with
   | none => simp
   | some o =>
     simp only [Option.map_some, Option.map_eq_map, List.mem_cons]
     by_cases h1 : id = j
     · subst h1
       simp only [if_true, true_or]
       congr 1
       split
       · cases o <;> rfl
       · rfl
     · have h1' : ¬ j = id := fun e => h1 e.symm
       simp [h1, h1']
section
variable {G : Glob} {X : Ctx} {w w' : World} {h : List AObj}

theorem gh_after (g : GH G X w h) (p : Grew w w') (ids : List Nat) (F' : Nat → Prop) (h1 : ∀ b, X.F b → F' b) (h2 : ∀ id ∈ ids, ∀ b o, X.ι id = some (b, o) → F' b) (h3 : ∀ b, b < w.heap.size → F' b → FR X ids b) (h4 : ∀ b, F' b → b < w'.heap.size)
   (h5 : ∀ id ∈ ids, ∀ ob, h[id]? = some ob → ob.fzable = true) (h6 : ∀ id ∈ ids, X.ι id = Option.none → ∀ z, h[id]? ≠ some (.box false z)) : GH G ⟨F', X.ι⟩ w' (freeze ids h) ∧ Tr X w h ⟨F', X.ι⟩ w' (freeze ids h) := by
 have e : Ext X w h ⟨F', X.ι⟩ w' (freeze ids h) := by
   refine ⟨h1, fun b hb => p.old b (g.fbnd b hb), fun b s hs => ?_, fun id o ho => ?_⟩
   · rw [shape_of (p.old _ (shape_lt hs))]; exact hs
   · refine ⟨if id ∈ ids then o.fz else o, by rw [freeze_get, ho]; rfl, .inr ⟨?_, .inl rfl⟩⟩
     split
     · exact AObj.like_fz o
     · exact AObj.like_refl o
 have hs := p.size
 refine ⟨⟨?_, ?_, g.inj, ?_, h4, fun k a hk => (g.gl k a hk).mono e⟩, ⟨⟨hs, p.os, p.tape, p.output, fun b hb _ => p.old b hb, fun id b o hb => .inr ⟨id, o, hb⟩, ?_⟩, e, fun id z hid hι => by
   rw [freeze_get, hid, Option.map_some, if_neg (fun hm => h6 id hm hι z hid)]⟩⟩
 · intro id ob hob
   rw [freeze_get] at hob
   cases ho : h[id]? with
   | none => simp [ho] at hob
   | some o =>
     simp only [ho, Option.map_some, Option.some.injEq] at hob
     subst hob
     have ok := g.objs id o ho
     by_cases hid : id ∈ ids
     · rw [if_pos hid]
       have hfz := h5 id hid o ho
       cases ok with
       | box i0 i1 i2 i3 i4 i5 i6 => exact .box (X := ⟨F', X.ι⟩) i0 ((p.old _ (g.bnd _ _ _ i0)).trans i1) (fun _ => h2 id hid _ _ i0) (fun f => by cases f) i4 i5 (fun j a v ha hv => (i6 j a v ha hv).mono e)
       | arr i0 i1 i2 i3 i4 i5 i6 => exact .arr (X := ⟨F', X.ι⟩) i0 ((p.old _ (g.bnd _ _ _ i0)).trans i1) (fun _ => h2 id hid _ _ i0) (fun f => by cases f) i4 i5 (fun j a v ha hv => (i6 j a v ha hv).mono e)
       | absent i0 i1 => exact .absent (X := ⟨F', X.ι⟩) i0 (by cases o <;> simp [AObj.fzable] at hfz <;> rfl)
       | map i0 i1 i2 i3 i4 i5 i6 i7 i8 i9 => exact .map (X := ⟨F', X.ι⟩) i0 ((p.old _ (g.bnd _ _ _ i0)).trans i1) (fun _ => h2 id hid _ _ i0) (fun f => by cases f) i4 i5 (fun j a v ha hv => (i6 j a v ha hv).mono e) (fun j a v ha hv => (i7 j a v ha hv).mono e) i8 i9
       | _ => simp [AObj.fzable] at hfz
     · rw [if_neg hid]
       refine ok.mono e rfl (fun b o hb => p.old _ (g.bnd _ _ _ hb)) (fun b o hb hf => ?_)
       rcases h3 b (g.bnd _ _ _ hb) hf with h | ⟨id', hi', o', ho'⟩
       · exact h
       · exact absurd (g.inj _ _ _ _ _ hb ho' ▸ hi') hid
 · intro id bo hbo
   obtain ⟨ob, hob⟩ := g.dom id bo hbo
   exact ⟨_, by rw [freeze_get, hob]; rfl⟩
 · intro id b o hb
   have := g.bnd id b o hb
   omega
 · intro b hb
   by_cases hlt : b < w.heap.size
   · rcases h3 b hlt hb with h | ⟨id', hi', o', ho'⟩
     · exact .inl h
     · exact .inr (.inr ⟨id', o', ho'⟩)
   · exact .inr (.inl (by omega))

theorem reach_fzable : ∀ (k : Nat) (a : AV), ∀ id ∈ reach k h a, ∃ ob, h[id]? = some ob ∧ ob.fzable = true
 | 0, a, id, hi => by simp [reach] at hi
 | k + 1, a, id, hi => by
   simp only [reach] at hi
   split at hi
   · simp at hi
   · have L : ∀ l : List AV, id ∈ (if persL l then [] else l.flatMap (reach k h)) → ∃ ob, h[id]? = some ob ∧ ob.fzable = true := by
       intro l hl
       split at hl
       · simp at hl
       · obtain ⟨x, _, hx⟩ := List.mem_flatMap.1 hl
         exact reach_fzable k x id hx
     split at hi
     · split at hi
       · rename_i ho
         rcases List.mem_cons.1 hi with rfl | hi
         · exact ⟨_, ho, rfl⟩
         · exact L _ hi
       · simp at hi
     · split at hi
       · rename_i ho
         rcases List.mem_cons.1 hi with rfl | hi
         · exact ⟨_, ho, rfl⟩
         · exact L _ hi
       · rename_i ho
         rcases List.mem_cons.1 hi with rfl | hi
         · exact ⟨_, ho, rfl⟩
         · exact L _ hi
       · simp at hi
     · split at hi
       · rename_i ho
         rcases List.mem_cons.1 hi with rfl | hi
         · exact ⟨_, ho, rfl⟩
         · rcases List.mem_append.1 hi with hi | hi
           · exact L _ hi
           · exact L _ hi
       · simp at hi
     · rcases List.mem_append.1 hi with hi | hi
       · exact L _ hi
       · exact L _ hi
     · exact L _ hi
     · exact L _ hi
     · simp at hi
end

theorem reach_abs {G : Glob} {X : Ctx} {w : World} {h : List AObj} (g : GH G X w h) : ∀ (k : Nat) (a : AV) (v : Value), RV X w h a v → ∀ id ∈ reach k h a, X.ι id = Option.none → ∀ z, h[id]? ≠ some (.box false z)
 | 0, a, v, r, id, hi, _, _ => by simp [reach] at hi
 | k + 1, a, v, r, id, hi, hι, z => by
   simp only [reach] at hi
   split at hi
   · simp at hi
   · have L : ∀ (l : List AV) (get : Nat → Option Value), (∀ j, j < l.length → ∃ v, get j = some v) → (∀ (j : Nat) (a : AV) (v : Value), l[j]? = some a → get j = some v → RV X w h a v) → id ∈ (if persL l then [] else l.flatMap (reach k h)) → h[id]? ≠ some (.box false z) := by
       intro l get hg hl hm
       split at hm
       · simp at hm
       · obtain ⟨x, hx, hi'⟩ := List.mem_flatMap.1 hm
         obtain ⟨j, hj⟩ := List.mem_iff_getElem?.1 hx
         obtain ⟨u, hu⟩ := hg j (lt_of_some hj)
         exact reach_abs g k x u (hl j x u hj hu) id hi' hι z
     cases r with
     | @hs id' off n t fz sz cells b o cap T N hid hι' hsh hn hc hN ht hf =>
       simp only [hid] at hi
       rcases List.mem_cons.1 hi with rfl | hi
       · rw [hι'] at hι; cases hι
       · have ok := g.objs _ _ hid
         cases ok with
         | absent h0 => rw [h0] at hι'; cases hι'
         | @arr _ _ _ b' o' cs T' fr h0 h1 h2 h3 h4 h5 h6 =>
         refine L _ (fun j => cs[o' + off + j]?) (fun j hj => ?_) (fun j a v ha hv => ?_) hi
         · simp at hj; exact ⟨_, Array.getElem?_eq_getElem (by omega)⟩
         · rw [List.getElem?_take] at ha
           split at ha
           · rw [List.getElem?_drop] at ha
             exact h6 (off + j) a v ha (by rw [← Nat.add_assoc]; exact hv)
           · cases ha
     | hs0 hid => simp only [hid, Nat.zero_mul, List.take_zero, persL, if_true, List.mem_singleton] at hi; subst hi; rw [hid]; simp
     | @ptr id' off ob b o hid hnd hι' =>
       simp only [hid] at hi
       have ok := g.objs _ _ hid
       cases ok with
       | absent h0 => rw [h0] at hι'; cases hι'
       | @box _ cells b' o' cs T' fr h0 h1 h2 h3 h4 h5 h6 =>
         rcases List.mem_cons.1 hi with rfl | hi
         · rw [hι'] at hι; cases hι
         · exact L _ (fun j => cs[o' + j]?) (fun j hj => ⟨_, Array.getElem?_eq_getElem (by omega)⟩) h6 hi
       | @arr _ _ cells b' o' cs T' fr h0 h1 h2 h3 h4 h5 h6 =>
         rcases List.mem_cons.1 hi with rfl | hi
         · rw [hι'] at hι; cases hι
         · exact L _ (fun j => cs[o' + j]?) (fun j hj => ⟨_, Array.getElem?_eq_getElem (by omega)⟩) h6 hi
       | _ => simp at hi
     | @mp id' fz ks vs b hid hι' =>
       simp only [hid] at hi
       have ok := g.objs _ _ hid
       cases ok with
       | absent h0 => rw [h0] at hι'; cases hι'
       | @map _ _ _ b' es clock h0 h1 h2 h3 h4 h5 h6 h7 h8 h9 =>
         rcases List.mem_cons.1 hi with rfl | hi
         · rw [hι'] at hι; cases hι
         · rcases List.mem_append.1 hi with hi | hi
           · exact L _ (fun j => (es[j]?).map (·.key)) (fun j hj => ⟨_, by rw [Array.getElem?_eq_getElem (by omega)]; rfl⟩) (fun j a v ha hv => by
               simp only [Option.map_eq_some_iff] at hv
               obtain ⟨e, he, rfl⟩ := hv
               exact h6 j a e ha he) hi
           · exact L _ (fun j => (es[j]?).map (·.val)) (fun j hj => ⟨_, by rw [Array.getElem?_eq_getElem (by omega)]; rfl⟩) (fun j a v ha hv => by
               simp only [Option.map_eq_some_iff] at hv
               obtain ⟨e, he, rfl⟩ := hv
               exact h7 j a e ha he) hi
     | @fn f first capt first' capt' h1 h2 h3 h4 =>
       rcases List.mem_append.1 hi with hi | hi
       · exact L _ (fun j => first'[j]?) (fun j hj => ⟨_, Array.getElem?_eq_getElem (by omega)⟩) h3 hi
       · exact L _ (fun j => capt'[j]?) (fun j hj => ⟨_, Array.getElem?_eq_getElem (by omega)⟩) h4 hi
     | @agg cells vs h1 h2 h3 => exact L _ (fun j => vs[j]?) (fun j hj => ⟨_, Array.getElem?_eq_getElem (by omega)⟩) h3 hi
     | @tup cells vs h1 h3 => exact L _ (fun j => vs[j]?) (fun j hj => ⟨_, Array.getElem?_eq_getElem (by omega)⟩) h3 hi
     | dead hr hd _ => cases a <;> simp [AV.refs] at hr <;> subst hr <;> simp [hd] at hi
     | _ => simp at hi

def GPers (G : Glob) : Prop := ∀ k a, G k = some a → pers a = true

def Ctr (P : Program) (G : Glob) (f : FuncId) (args : List AV) (r : AV) : Prop :=
 callable P f = true ∧ GPers G ∧ ∀ (F : Nat → Prop) (w : World) (vs : Array Value), (∀ b, F b → b < w.heap.size) → (∀ k a, G k = some a → GRel (.none F) w [] k a) →
   args.length = vs.size → (∀ (j : Nat) (a : AV) (v : Value), args[j]? = some a → vs[j]? = some v → RV (.none F) w [] a v) →
   Calls P f vs w fun e w' => ∃ v F' bs, e = .returned v ∧ Grew w w' ∧ (∀ b, F b → F' b) ∧ (∀ b, F' b → F b ∨ w.heap.size ≤ b) ∧ (∀ b, F' b → b < w'.heap.size) ∧ RR F' w' r v bs ∧ bs.Nodup ∧ ∀ b ∈ bs, ¬ F' b ∧ w.heap.size ≤ b

def dep : Nat := 9

def hAfter (r : AV) (h : List AObj) (A : List AV) : List AObj := if flat r then h else freeze (A.flatMap (reach dep h)) h

section
variable {P : Program} {G : Glob} {X : Ctx} {w : World} {h : List AObj}

theorem sem_call0 {f : FuncId} {A A' : List AV} {r : AV} (s : Ctr P G f A' r) (hA : A'.length = A.length) (hs : ∀ (j : Nat) (a a' : AV), A[j]? = some a → A'[j]? = some a' → a' = snap dep h a ∨ (a = .e0 ∧ a' = .e0)) (g : GH G X w h) {vs : Array Value} (hl : A.length = vs.size) (hr : ∀ (j : Nat) (a : AV) (v : Value), A[j]? = some a → vs[j]? = some v → RV X w h a v) :
   Calls P f vs w fun e w' => ∃ v X', e = .returned v ∧ GH G X' w' (mat r (hAfter r h A)).2 ∧ RV X' w' (mat r (hAfter r h A)).2 (mat r (hAfter r h A)).1 v ∧ Tr X w h X' w' (mat r (hAfter r h A)).2 := by
 obtain ⟨_, hG, s⟩ := s
 have hFc : ∀ b, FR X (A.flatMap (reach dep h)) b → b < w.heap.size := by
   rintro b (hb | ⟨id, _, o, ho⟩)
   · exact g.fbnd b hb
   · exact g.bnd _ _ _ ho
 refine (s (FR X (A.flatMap (reach dep h))) w vs hFc ?_ (hA.trans hl) ?_).mono ?_
 · intro k a hk
   exact (g.gl k a hk).pers (hG k a hk) (fun b hb => .inl hb) (fun _ _ => rfl)
 · intro j a v ha hv
   obtain ⟨x, hx⟩ : ∃ x, A[j]? = some x := ⟨_, List.getElem?_eq_getElem (by have := lt_of_some ha; omega)⟩
   rcases hs j x a hx ha with rfl | ⟨rfl, rfl⟩
   · refine (snap_ok g dep x v (hr j x v hx hv)).monoF (FR.mono ?_)
     intro i hi
     exact List.mem_flatMap.2 ⟨x, List.mem_of_getElem? hx, hi⟩
   · cases hr j _ v hx hv with
     | e0 ad => exact .e0 ad
     | dead hr _ _ => simp [AV.refs] at hr
 · rintro e w' ⟨v, F', bs, rfl, hgr, hF1, hF2, hF3, hRR, hnd, hbs⟩
   have close : ∀ (X1 : Ctx) (h1 : List AObj) (F1 : Nat → Prop), GH G X1 w' h1 → Tr X w h X1 w' h1 → X1.ι = X.ι → (∀ b, X1.F b → F' b) → RR F1 w' r v bs → (∀ b, F1 b → X1.F b) →
       ∃ v' X', Ending.returned v = .returned v' ∧ GH G X' w' (mat r h1).2 ∧ RV X' w' (mat r h1).2 (mat r h1).1 v' ∧ Tr X w h X' w' (mat r h1).2 := by
     intro X1 h1 F1 g1 t1 hι hX1 hRR1 hF11
     obtain ⟨X', M, R⟩ := mat_ok r v bs hRR1 X1 h1 g1 hF11 hnd (fun b hb => ⟨fun f => (hbs b hb).1 (hX1 b f), fun id o e => by
       rw [hι] at e
       have := g.bnd _ _ _ e
       have := (hbs b hb).2
       omega⟩)
     refine ⟨v, X', rfl, M.gh, R, ⟨⟨hgr.size, hgr.os, hgr.tape, hgr.output, fun b hb _ => hgr.old b hb, ?_, ?_⟩, t1.ext.trans M.ext, Abs.trans t1.ext t1.abs M.abs⟩⟩
     · intro id b o hb
       rcases M.ι id b o hb with h | h
       · rw [hι] at h; exact .inr ⟨id, o, h⟩
       · exact .inl (hbs b h).2
     · intro b hb
       rw [M.F] at hb
       exact t1.step.fnew b hb
   unfold hAfter
   by_cases hf : flat r = true
   · rw [if_pos hf]
     have ga := gh_after g hgr [] X.F (fun _ h => h) (by simp) (fun b _ hb => .inl hb) (fun b hb => Nat.lt_of_lt_of_le (g.fbnd b hb) hgr.size) (by simp) (by simp)
     exact close X h X.F ga.1 ga.2 rfl (fun b hb => hF1 b (.inl hb)) (RR.flat r v bs hRR hf) (fun _ h => h)
   · rw [if_neg hf]
     have ga := gh_after g hgr (A.flatMap (reach dep h)) F' (fun b hb => hF1 b (.inl hb)) (fun id hi b o ho => hF1 b (.inr ⟨id, hi, o, ho⟩)) (fun b hlt hb => by
       rcases hF2 b hb with h | h
       · exact h
       · omega) hF3 (fun id hi ob hob => by
         obtain ⟨x, hx, hi'⟩ := List.mem_flatMap.1 hi
         obtain ⟨ob', h1, h2⟩ := reach_fzable dep x id hi'
         rw [hob] at h1; cases h1; exact h2) (fun id hi hι z hz => by
         obtain ⟨x, hx, hi'⟩ := List.mem_flatMap.1 hi
         obtain ⟨j, hj⟩ := List.mem_iff_getElem?.1 hx
         have hjv : j < vs.size := hl ▸ lt_of_some hj
         exact reach_abs g dep x vs[j] (hr j x vs[j] hj (by simp [hjv])) id hi' hι z hz)
     exact close ⟨F', X.ι⟩ _ F' ga.1 ga.2 rfl (fun _ h => h) hRR (fun _ h => h)

theorem sem_call {f : FuncId} {A : List AV} {r : AV} (s : Ctr P G f (A.map (snap dep h)) r) (g : GH G X w h) {vs : Array Value} (hl : A.length = vs.size) (hr : ∀ (j : Nat) (a : AV) (v : Value), A[j]? = some a → vs[j]? = some v → RV X w h a v) :
   Calls P f vs w fun e w' => ∃ v X', e = .returned v ∧ GH G X' w' (mat r (hAfter r h A)).2 ∧ RV X' w' (mat r (hAfter r h A)).2 (mat r (hAfter r h A)).1 v ∧ Tr X w h X' w' (mat r (hAfter r h A)).2 :=
 sem_call0 s (by simp) (fun j a a' h1 h2 => by rw [List.getElem?_map, h1] at h2; simp at h2; exact .inl h2.symm) g hl hr

theorem keep_ok (g : GH G X w h) {a : AV} {v : Value} (r : RV X w h a v) :
   ∃ X', GH G X' w (freeze (reach dep h a) h) ∧ RV X' w (freeze (reach dep h a) h) (snap dep h a) v ∧ Tr X w h X' w (freeze (reach dep h a) h) := by
 have ga := gh_after g (Grew.refl w) (reach dep h a) (FR X (reach dep h a)) (fun b hb => .inl hb) (fun id hi b o ho => .inr ⟨id, hi, o, ho⟩) (fun b _ hb => hb) (by
   rintro b (hb | ⟨id, _, o, ho⟩)
   · exact g.fbnd b hb
   · exact g.bnd _ _ _ ho) (fun id hi ob hob => by
     obtain ⟨ob', h1, h2⟩ := reach_fzable dep a id hi
     rw [hob] at h1; cases h1; exact h2) (fun id hi hι z hz => reach_abs g dep a v r id hi hι z hz)
 exact ⟨⟨FR X (reach dep h a), X.ι⟩, ga.1, (snap_ok g dep a v r).lift (fun _ h => h), ga.2⟩
end

def ACalls (P : Program) (G : Glob) (f : FuncId) (A : List AV) (h : List AObj) (K : AV → List AObj → Prop) : Prop :=
 callable P f = true ∧ ∀ (X : Ctx) (w : World) (vs : Array Value), GH G X w h → A.length = vs.size → (∀ (j : Nat) (a : AV) (v : Value), A[j]? = some a → vs[j]? = some v → RV X w h a v) →
   Calls P f vs w fun e w' => ∃ v r h' X', e = .returned v ∧ K r h' ∧ GH G X' w' h' ∧ RV X' w' h' r v ∧ Tr X w h X' w' h'

theorem ACalls.mono {P : Program} {G : Glob} {f : FuncId} {A : List AV} {h : List AObj} {K K' : AV → List AObj → Prop} (a : ACalls P G f A h K) (hK : ∀ r h', K r h' → K' r h') : ACalls P G f A h K' :=
 ⟨a.1, fun X w vs g hl hr => (a.2 X w vs g hl hr).mono fun e w' ⟨v, r, h', X', h1, h2, h3⟩ => ⟨v, r, h', X', h1, hK _ _ h2, h3⟩⟩

theorem ACalls.sem {P : Program} {G : Glob} {f : FuncId} {A : List AV} {h : List AObj} {K : AV → List AObj → Prop} {r : AV} (s : Ctr P G f (A.map (snap dep h)) r) (hK : K (mat r (hAfter r h A)).1 (mat r (hAfter r h A)).2) :
   ACalls P G f A h K :=
 ⟨s.1, fun X w vs g hl hr => (sem_call s g hl hr).mono fun e w' ⟨v, X', h1, h2, h3, h4⟩ => ⟨v, _, _, X', h1, hK, h2, h3, h4⟩⟩
theorem ACalls.sem0 {P : Program} {G : Glob} {f : FuncId} {A A' : List AV} {h : List AObj} {K : AV → List AObj → Prop} {r : AV} (s : Ctr P G f A' r) (hA : A'.length = A.length) (hs : ∀ (j : Nat) (a a' : AV), A[j]? = some a → A'[j]? = some a' → a' = snap dep h a ∨ (a = .e0 ∧ a' = .e0))
   (hK : K (mat r (hAfter r h A)).1 (mat r (hAfter r h A)).2) : ACalls P G f A h K :=
 ⟨s.1, fun X w vs g hl hr => (sem_call0 s hA hs g hl hr).mono fun e w' ⟨v, X', h1, h2, h3, h4⟩ => ⟨v, _, _, X', h1, hK, h2, h3, h4⟩⟩

theorem filter_out {es : List MapEntry} {b : Nat} : ∀ (l : List MapEntry) (j : Nat) (e : MapEntry), l[j]? = some e → (∀ (i k : Nat) (x y : MapEntry), l[i]? = some x → l[k]? = some y → x.born = y.born → i = k) → l.filter (fun x => x.born != e.born) = l.eraseIdx j
 | [], j, e, h, _ => by simp at h
 | x :: l, 0, e, h, hd => by
   simp only [List.getElem?_cons_zero, Option.some.injEq] at h
   subst h
   rw [List.filter_cons_of_neg (by simp), List.eraseIdx_cons_zero, List.filter_eq_self]
   intro y hy
   obtain ⟨i, hi⟩ := List.mem_iff_getElem?.1 hy
   have := hd 0 (i + 1) x y rfl (by simpa using hi)
   simp only [bne_iff_ne, ne_eq]
   intro he
   have := this he.symm
   omega
 | x :: l, j + 1, e, h, hd => by
   simp only [List.getElem?_cons_succ] at h
   have hne : x.born ≠ e.born := fun he => by
     have := hd 0 (j + 1) x e rfl (by simpa using h) he
     omega
   rw [List.filter_cons_of_pos (by simpa using hne), List.eraseIdx_cons_succ]
   rw [filter_out (es := es) (b := b) l j e h (fun i k y z hy hz he => by
     have := hd (i + 1) (k + 1) y z (by simpa using hy) (by simpa using hz) he
     omega)]

theorem distinct_filter {l : List MapEntry} (p : MapEntry → Bool) (hd : ∀ (i k : Nat) (x y : MapEntry), l[i]? = some x → l[k]? = some y → x.born = y.born → i = k) :
   ∀ (i k : Nat) (x y : MapEntry), (l.filter p)[i]? = some x → (l.filter p)[k]? = some y → x.born = y.born → i = k := by
 have h1 : l.Pairwise (fun a b => a.born ≠ b.born) := by
   rw [List.pairwise_iff_getElem]
   intro i j hi hj hij he
   have := hd i j l[i] l[j] (by simp [hi]) (by simp [hj]) he
   omega
 have h2 := h1.filter p
 rw [List.pairwise_iff_getElem] at h2
 intro i k x y hx hy he
 obtain ⟨hi, rfl⟩ := List.getElem?_eq_some_iff.1 hx
 obtain ⟨hk, rfl⟩ := List.getElem?_eq_some_iff.1 hy
 rcases Nat.lt_trichotomy i k with h | h | h
 · exact absurd he (h2 i k hi hk h)
 · exact h
 · exact absurd he.symm (h2 k i hk hi h)

theorem find_born1 {es : Array MapEntry} {e : MapEntry} (h4 : ∀ (j k : Nat) (e e' : MapEntry), es[j]? = some e → es[k]? = some e' → e.born = e'.born → j = k) (he : e ∈ es.toList) : es.find? (·.born == e.born) = some e := by
 obtain ⟨i, hi⟩ := List.mem_iff_getElem?.1 he
 have hi : es[i]? = some e := by simpa using hi
 cases hf : es.find? (·.born == e.born) with
 | none =>
   have := (Array.find?_eq_none.1 hf) e (by simpa using he)
   simp at this
 | some e' =>
   have h1 := Array.find?_some hf
   have h2 := Array.mem_of_find?_eq_some hf
   obtain ⟨k, hk⟩ := Array.mem_iff_getElem?.1 h2
   have := h4 k i e' e hk hi (by simpa using h1)
   subst this
   rw [hi] at hk
   exact hk.symm
section
variable {P : Program} {G : Glob} {X : Ctx} {w : World} {h : List AObj}

theorem range_ok {T K E : TypeId} {ks vs : List AV} {v : Value} (hT : P.underlying T = some (.map K E)) (g : GH G X w h) (r : RV X w h (.mapv ks vs) v) :
   ∃ X' w' u, (Instr.range T v).run P w = .ok u w' ∧ RV X' w' (h ++ [.mit none ks vs]) (.ptr h.length 0) u ∧ GH G X' w' (h ++ [.mit none ks vs]) ∧ Tr X w h X' w' (h ++ [.mit none ks vs]) := by
 cases r with
 | dead hr _ _ => simp [AV.refs] at hr
 | @mapv _ _ b es clock hF hb hk hv h1 h2 h3 h4 =>
   have hp := Pushed.alloc w (.mapIter (some b) clock #[] clock)
   have hnF : ¬ X.F w.heap.size := fun f => by have := g.fbnd _ f; omega
   have hfl : (es.filter fun e => !(#[] : Array Nat).contains e.born) = es := by simp
   have e := ext_alloc g hp.grew (.mit none ks vs) (some (w.heap.size, 0))
   obtain ⟨g', t⟩ := gh_push g hp (.mit none ks vs) (.mit (b := w.heap.size) (m := b) (seen := #[]) (es := es) (clock := clock) (Ctx.upd_same _ _ _) hnF hp.at hF ((hp.old (g.fbnd _ hF)).trans hb) h3 h4 (by rw [hfl]; exact hk) (by rw [hfl]; exact hv)
     (fun j a e' ha he => by rw [hfl] at he; exact (h1 j a e' ha he).mono e) (fun j a e' ha he => by rw [hfl] at he; exact (h2 j a e' ha he).mono e) (fun k v hc => by cases hc))
   refine ⟨_, _, .pointer (some ⟨w.heap.size, 0, Option.none⟩), ?_, ?_, g', t⟩
   · have hgo : (getObj b).run P w = .ok (.map es clock) w := by simp [getObj, Sem.run, hb]
     simp only [Instr.range, Sem.run_bind, run_underlying hT, Result.andThen_ok, hgo]
     rfl
   · have := RV.ptr (X := X.upd h.length (some (w.heap.size, 0))) (w := w.alloc (.mapIter (some b) clock #[] clock)) (h := h ++ [.mit none ks vs]) (id := h.length) (off := 0) (ob := .mit none ks vs) (b := w.heap.size) (o := 0) (by simp) (by simp) (Ctx.upd_same _ _ _)
     simpa using this

def azeros (P : Program) (h : List AObj) (T : TypeId) (s x : AV) : Option (AV × List AObj) :=
 match elemOf? P T, s, x with
 | some e, .e0, .i .i64 l => match zeroOf P e, byOf P e with
   | some z, some by_ => if 0 ≤ l ∧ l * by_ ≤ 140737488355328 ∧ l ≤ 140737488355328 ∧ szOf P e = some z.length ∧ 0 < z.length then
       (if l = 0 then some (.e0, h) else some (.hs h.length 0 l.toNat false, h ++ [.arr false z.length (List.replicate l.toNat z).flatten])) else Option.none
   | _, _ => Option.none
 | _, _, _ => Option.none

theorem run_zeros {T U ty e : TypeId} {kn : IntKind} {i : TypeInfo} {z : Value} (ht : P.underlying T = some (.slice e)) (hu : P.underlying U = some (.int kn)) (hi : P.info? e = some i) (hz : i.zero = some z) (a : Option Addr) (n : Nat) (h0 : 0 < n) (hs : 0 < i.size)
   (h63 : (n : Int) ≤ 9223372036854775807) (h48 : n * i.bytes ≤ 281474976710656) :
   (Builtin.append_ #[T, U] ty #[.slice a 0 0, .int .i64 n]).run P w =
     .ok (.slice (some ⟨w.heap.size, 0, Option.none⟩) n (grownCap w n 0 e)) (w.drew.alloc (.cells (Builtin.zeroCells z.cells n ++ Builtin.zeroCells z.cells (grownCap w n 0 e - n)) e)) := by
 have hn : n ≠ 0 := by omega
 have hw : IntKind.i64.wrap (n : Int) = n := by rw [IntKind.wrap_i64]; omega
 have h63' : ¬ (9223372036854775807 < (n : Int)) := by omega
 have h48' : ¬ (281474976710656 < Builtin.nextslicecap n 0 * i.bytes) := by rw [nextslicecap_zero h0]; omega
 have h48i : ¬ (281474976710656 < (n : Int) * (i.bytes : Int)) := by
   rw [← Int.natCast_mul]
   omega
 have hneg : ¬ ((n : Int) < 0) := by omega
 have hns : ¬ (n * i.size = 0) := Nat.mul_ne_zero hn (by omega)
 have hf : ∀ w1 : World, (Builtin.firstCells i.size 0 (.slice a 0 0)).run P w1 = .ok #[] w1 := by intro w1; cases a <;> simp [Builtin.firstCells, loadCells, loadCellsFrom]
 simp [Builtin.append_, run_underlying ht, run_underlying hu, sizeOf, typeInfo, zeroValue, hi, hz, asInt, asIntOf, hw, hn, hneg, hns, h63', h48', h48i, Question.forced, hf, newRow, grownCap]

theorem run_zeros0 {T U ty e : TypeId} {kn : IntKind} {i : TypeInfo} {z : Value} (ht : P.underlying T = some (.slice e)) (hu : P.underlying U = some (.int kn)) (hi : P.info? e = some i) (hz : i.zero = some z) (a : Option Addr) :
   (Builtin.append_ #[T, U] ty #[.slice a 0 0, .int .i64 0]).run P w = .ok (.slice a 0 0) w := by
 have hw : IntKind.i64.wrap 0 = 0 := by rw [IntKind.wrap_i64]; omega
 cases a <;> simp [Builtin.append_, run_underlying ht, run_underlying hu, sizeOf, typeInfo, zeroValue, hi, hz, asInt, asIntOf, hw, storeCells]

theorem zeros_run_ok {T U ty : TypeId} {kn : IntKind} {s x y : AV} {u v : Value} {h' : List AObj} (hu : P.underlying U = some (.int kn)) (g : GH G X w h) (rs : RV X w h s u) (rx : RV X w h x v) (e : azeros P h T s x = some (y, h')) :
   ∃ X' w' y', (Builtin.append_ #[T, U] ty #[u, v]).run P w = .ok y' w' ∧ RV X' w' h' y y' ∧ GH G X' w' h' ∧ Tr X w h X' w' h' := by
 unfold azeros at e
 split at e
 case h_2 => cases e
 rename_i el l he
 have ht := elemOf_ok he
 split at e
 case h_2 => cases e
 rename_i z by_ hz hby
 split at e
 case isFalse => cases e
 rename_i hc
 obtain ⟨hl0, hlb, hlm, hsz, hz0⟩ := hc
 obtain ⟨i, zv, hi, hiz, hzc⟩ := zeroOf_info hz
 have hzs := zcells_size hzc
 have hisz : i.size = z.length := by obtain ⟨i', h1, h2⟩ := szOf_info hsz; rw [hi] at h1; cases h1; exact h2
 have hiby : i.bytes = by_ := byOf_info hi hby
 have hv := int_ok rx
 subst hv
 obtain ⟨a, rfl⟩ : ∃ a, u = .slice a 0 0 := by
   cases rs with
   | e0 a => exact ⟨a, rfl⟩
   | dead hr _ _ => simp [AV.refs] at hr
 split at e
 · rename_i hl
   subst hl
   cases e
   exact ⟨X, w, _, run_zeros0 ht hu hi hiz a, .e0 a, g, .refl _ _ _⟩
 · rename_i hl
   cases e
   obtain ⟨n, rfl⟩ : ∃ n : Nat, l = n := ⟨l.toNat, by omega⟩
   have h0 : 0 < n := by omega
   have hb48 : n * i.bytes ≤ 281474976710656 := by
     rw [hiby]
     have : ((n * by_ : Nat) : Int) ≤ 140737488355328 := by simpa using hlb
     omega
   have hrun := run_zeros (w := w) (ty := ty) ht hu hi hiz a n h0 (by omega) (by omega) hb48
   have hge := grownCap_ge w n 0 el
   have hzk := zeros_ok (X := X) (w := w) (h := h) hzc n
   have hzeq : (Array.range (n * z.length)).map (zv.cells[· % zv.cells.size]!) = Builtin.zeroCells zv.cells n := by rw [Builtin.zeroCells, hzs]
   rw [hzeq] at hzk
   obtain ⟨k1, k2, k3⟩ := hzk
   have hp := Pushed.drew w (.cells (Builtin.zeroCells zv.cells n ++ Builtin.zeroCells zv.cells (grownCap w n 0 el - n)) el (0, 0))
   have hsize : (Builtin.zeroCells zv.cells n ++ Builtin.zeroCells zv.cells (grownCap w n 0 el - n)).size = grownCap w n 0 el * z.length := by
     simp only [Array.size_append, size_zeroCells, hzs, ← Nat.add_mul]
     congr 1
     omega
   have hlen : (List.replicate n z).flatten.length = n * z.length := flatten_length z n
   have hzn : (Builtin.zeroCells zv.cells n).size = n * z.length := by rw [size_zeroCells, hzs]
   have hle := Nat.mul_le_mul_right z.length hge
   have get : ∀ (j : Nat) (v : Value), j < (List.replicate n z).flatten.length → (Builtin.zeroCells zv.cells n ++ Builtin.zeroCells zv.cells (grownCap w n 0 el - n))[j]? = some v → (Builtin.zeroCells zv.cells n)[j]? = some v := by
     intro j v hj hv
     rw [Array.getElem?_append_left (by omega)] at hv
     exact hv
   obtain ⟨g', t⟩ := gh_push g hp _ ((objOK_cells g hp (List.replicate n z).flatten (by omega) (fun j v hj hv => k2 j v (get j v hj hv)) (fun j a v ha hv => k3 j a v ha (get j v (lt_of_some ha) hv))).2 z.length)
   refine ⟨_, _, _, hrun, ?_, g', t⟩
   have hsh : (w.drew.alloc (.cells (Builtin.zeroCells zv.cells n ++ Builtin.zeroCells zv.cells (grownCap w n 0 el - n)) el)).shape? w.heap.size = some (el, (Builtin.zeroCells zv.cells n ++ Builtin.zeroCells zv.cells (grownCap w n 0 el - n)).size) := by simp only [World.shape?, hp.at]
   have := RV.hs (X := X.upd h.length (some (w.heap.size, 0))) (w := w.drew.alloc (.cells (Builtin.zeroCells zv.cells n ++ Builtin.zeroCells zv.cells (grownCap w n 0 el - n)) el)) (h := h ++ [.arr false z.length (List.replicate n z).flatten]) (id := h.length) (off := 0) (n := n) (t := false) (cap := grownCap w n 0 el) (fz := false) (sz := z.length) (cells := (List.replicate n z).flatten) (by simp) (Ctx.upd_same _ _ _) hsh (by omega) hge (by omega) (by simp) (fun _ => by omega)
   simpa using this

theorem next_ok {cur : Option (AV × AV)} {ks vs : List AV} {v : Value} {id : Nat} {ty : TypeId} (hid : h[id]? = some (.mit cur ks vs)) (g : GH G X w h) (r : RV X w h (.ptr id 0) v) :
   (ks = [] ∧ (Instr.next v false ty).run P w = .ok (.tuple #[.bool false]) w) ∨
   ∃ j k x, ks[j]? = some k ∧ vs[j]? = some x ∧ ∃ w' kv xv, (Instr.next v false ty).run P w = .ok (.tuple #[.bool true, kv, xv]) w' ∧ RV X w' (h.set id (.mit (some (k, x)) (ks.eraseIdx j) (vs.eraseIdx j))) k kv ∧
     RV X w' (h.set id (.mit (some (k, x)) (ks.eraseIdx j) (vs.eraseIdx j))) x xv ∧ GH G X w' (h.set id (.mit (some (k, x)) (ks.eraseIdx j) (vs.eraseIdx j))) ∧ Tr X w h X w' (h.set id (.mit (some (k, x)) (ks.eraseIdx j) (vs.eraseIdx j))) := by
 cases r with
 | dead hr hd _ => simp [AV.refs] at hr; subst hr; rw [hid] at hd; cases hd
 | ptr hid' hnd hι =>
 rw [hid] at hid'; cases hid'
 have ok := g.objs _ _ hid
 cases ok with
 | absent h0 => rw [h0] at hι; cases hι
 | @mit _ _ _ b m seen es clock h0 hnF hb hF hm h3 h4 hk hv h1 h2 _ =>
 rw [h0] at hι
 simp only [Option.some.injEq, Prod.mk.injEq] at hι
 obtain ⟨rfl, rfl⟩ := hι
 have hold : ∀ x ∈ es.toList, x.born < clock := by
   intro x hx
   obtain ⟨j, hj⟩ := List.mem_iff_getElem?.1 hx
   exact h3 j x (by simpa using hj)
 rcases run_next_at (P := P) w ty b m clock clock seen es clock hb hm hold (Nat.le_refl _) with ⟨hz, hrun⟩ | ⟨e, he, w1, hw1, hrun⟩
 · left
   exact ⟨List.eq_nil_of_length_eq_zero (by rw [hk]; exact hz), hrun⟩
 · right
   obtain ⟨j, hj⟩ := List.mem_iff_getElem?.1 he
   have hjlt := lt_of_some hj
   have hje : (es.filter fun e => !seen.contains e.born)[j]? = some e := by rw [← Array.getElem?_toList]; exact hj
   have hls : (es.filter fun e => !seen.contains e.born).size = (leftOf es seen).toList.length := by rw [Array.length_toList]; rfl
   have hjk : j < ks.length := by rw [hk, hls]; exact hjlt
   have hjv : j < vs.length := by rw [hv, hls]; exact hjlt
   have hsame : SameHeap w w1 := by rcases hw1 with rfl | rfl <;> exact ⟨rfl, rfl, rfl, rfl⟩
   have hbs : b < w.heap.size := lt_of_block hb
   have hmb : m ≠ b := fun e => hnF (e ▸ hF)
   have hleft : (es.filter fun x => !(seen.push e.born).contains x.born) = ((es.filter fun e => !seen.contains e.born).toList.eraseIdx j).toArray := by
     apply Array.toList_inj.1
     rw [Array.toList_filter]
     have := filter_out (es := []) (b := 0) (es.toList.filter fun e => !seen.contains e.born) j e (by rw [← Array.toList_filter]; exact hj) (distinct_filter _ (fun i k x y hx hy => h4 i k x y (by simpa using hx) (by simpa using hy)))
     simp only [Array.toList_filter]
     rw [← this, List.filter_filter]
     congr 1
     funext x
     by_cases he2 : x.born = e.born
     · simp [he2]
     · have he3 : ¬ e.born = x.born := fun h => he2 h.symm
       simp [he2, he3]
   have hget : ∀ (i : Nat) (x : MapEntry), (es.filter fun x => !(seen.push e.born).contains x.born)[i]? = some x → (es.filter fun e => !seen.contains e.born)[if i < j then i else i + 1]? = some x := by
     intro i x hx
     rw [hleft] at hx
     simp only [List.getElem?_toArray, List.getElem?_eraseIdx] at hx
     rw [← Array.getElem?_toList]
     split at hx <;> rename_i hij <;> simp only [hij, if_true, if_false] <;> exact hx
   have hsz : (es.filter fun x => !(seen.push e.born).contains x.born).size = (es.filter fun e => !seen.contains e.born).size - 1 := by
     rw [hleft]
     simp only [List.size_toArray, List.length_eraseIdx, Array.length_toList]
     rw [if_pos (by rw [hls]; exact hjlt)]
   have hgs := gh_store (w' := { w1 with heap := w1.heap.setIfInBounds b (.mapIter (some m) clock (seen.push e.born) clock) }) (ob' := .mit (some (ks[j], vs[j])) (ks.eraseIdx j) (vs.eraseIdx j)) g hid h0 hnF (by simp [AObj.like]) (by simp [hsame.heap]) hsame.os hsame.tape hsame.output
     (fun k hk => by
       show (w1.heap.setIfInBounds b _)[k]? = _
       rw [Array.getElem?_setIfInBounds, if_neg (Ne.symm hk), hsame.heap])
     (fun s hs => by simp [World.shape?, hb] at hs)
     (fun ee => by
       refine .mit (b := b) (m := m) (seen := seen.push e.born) (es := es) (clock := clock) h0 hnF ?_ hF ?_ h3 h4 ?_ ?_ ?_ ?_ ?_
       · show (w1.heap.setIfInBounds b _)[b]? = _
         rw [Array.getElem?_setIfInBounds, if_pos rfl, if_pos (by rw [hsame.heap]; exact hbs)]
       · show (w1.heap.setIfInBounds b _)[m]? = _
         rw [Array.getElem?_setIfInBounds, if_neg (Ne.symm hmb), hsame.heap]; exact hm
       · rw [hsz, List.length_eraseIdx, if_pos hjk, hk]
       · rw [hsz, List.length_eraseIdx, if_pos hjv, hv]
       · intro i a x ha hx
         have hx' := hget i x hx
         rw [List.getElem?_eraseIdx] at ha
         refine (h1 (if i < j then i else i + 1) a x ?_ hx').mono ee
         split at ha <;> rename_i hij <;> simp only [hij, if_true, if_false] <;> exact ha
       · intro i a x ha hx
         have hx' := hget i x hx
         rw [List.getElem?_eraseIdx] at ha
         refine (h2 (if i < j then i else i + 1) a x ?_ hx').mono ee
         split at ha <;> rename_i hij <;> simp only [hij, if_true, if_false] <;> exact ha
       · intro k v hc
         simp only [Option.some.injEq, Prod.mk.injEq] at hc
         obtain ⟨rfl, rfl⟩ := hc
         have h9 : e ∈ (es.filter fun e => !seen.contains e.born).toList := he
         rw [Array.toList_filter] at h9
         have he9 := (List.mem_filter.1 h9).1
         refine ⟨e, by simp, find_born1 h4 he9, (h1 j _ e (by simp [hjk]) hje).mono ee, (h2 j _ e (by simp [hjv]) hje).mono ee⟩)
   obtain ⟨g', t⟩ := hgs
   refine ⟨j, ks[j], vs[j], by simp [hjk], by simp [hjv], _, _, _, hrun, (h1 j _ e (by simp [hjk]) hje).mono t.ext, (h2 j _ e (by simp [hjv]) hje).mono t.ext, g', t⟩
theorem entry_ok {k x : AV} {ks vs : List AV} {v : Value} {id : Nat} (hid : h[id]? = some (.mit (some (k, x)) ks vs)) (g : GH G X w h) (r : RV X w h (.ptr id 0) v) :
   ∃ kv xv, (Instr.entry v).run P w = .ok (.tuple #[kv, xv]) w ∧ RV X w h k kv ∧ RV X w h x xv := by
 cases r with
 | dead hr hd _ => simp [AV.refs] at hr; subst hr; rw [hid] at hd; cases hd
 | ptr hid' hnd hι =>
 rw [hid] at hid'; cases hid'
 have ok := g.objs _ _ hid
 cases ok with
 | absent h0 => rw [h0] at hι; cases hι
 | @mit _ _ _ b m seen es clock h0 hnF hb hF hm h3 h4 hk hv h1 h2 h5 =>
 rw [h0] at hι
 simp only [Option.some.injEq, Prod.mk.injEq] at hι
 obtain ⟨rfl, rfl⟩ := hι
 obtain ⟨e, hbk, hf, rk, rx⟩ := h5 k x rfl
 refine ⟨_, _, ?_, rk, rx⟩
 simp only [Instr.entry, getObj, Sem.run_bind, Sem.run, hb, hm, Result.andThen, hbk, bne_self_eq_false, Bool.false_eq_true, if_false, hf]
 rfl
end
theorem rv_str {X : Ctx} {w : World} {h : List AObj} {l : List UInt8} {v : Value} (r : RV X w h (.s l) v) : v = .string ⟨l.toArray⟩ := by
 cases r with
 | s => rfl
 | dead hr _ _ => simp [AV.refs] at hr
section
variable {P : Program} {G : Glob} {X : Ctx} {w : World} {h : List AObj}
theorem rangeS_ok {T : TypeId} {l : List UInt8} {v : Value} (hT : P.underlying T = some .string) (g : GH G X w h) (r : RV X w h (.s l) v) :
   ∃ X' w' u, (Instr.range T v).run P w = .ok u w' ∧ RV X' w' (h ++ [.sit l 0]) (.ptr h.length 0) u ∧ GH G X' w' (h ++ [.sit l 0]) ∧ Tr X w h X' w' (h ++ [.sit l 0]) := by
 obtain rfl := rv_str r
 have hp := Pushed.alloc w (.stringIter ⟨l.toArray⟩ 0)
 have hnF : ¬ X.F w.heap.size := fun f => by have := g.fbnd _ f; omega
 obtain ⟨g', t⟩ := gh_push g hp (.sit l 0) (.sit (b := w.heap.size) (Ctx.upd_same _ _ _) hnF hp.at)
 refine ⟨_, _, .pointer (some ⟨w.heap.size, 0, Option.none⟩), run_range_string w T _ hT, ?_, g', t⟩
 have := RV.ptr (X := X.upd h.length (some (w.heap.size, 0))) (w := w.alloc (.stringIter ⟨l.toArray⟩ 0)) (h := h ++ [.sit l 0]) (id := h.length) (off := 0) (ob := .sit l 0) (b := w.heap.size) (o := 0) (by simp) (by simp) (Ctx.upd_same _ _ _)
 simpa [World.iter] using this
theorem nextS_ok {l : List UInt8} {pos : Nat} {v : Value} {id : Nat} {ty : TypeId} (hid : h[id]? = some (.sit l pos)) (g : GH G X w h) (r : RV X w h (.ptr id 0) v) :
   (l.length ≤ pos ∧ (Instr.next v true ty).run P w = .ok (.tuple #[.bool false]) w) ∨
   ∃ (c : UInt8) (rn k : Nat), l[pos]? = some c ∧ ((c.toNat < 128 ∧ rn = c.toNat ∧ k = 1) ∨ (128 ≤ c.toNat ∧ 128 ≤ rn ∧ rn ≤ 2147483647 ∧ 1 ≤ k)) ∧ ∃ w', (Instr.next v true ty).run P w = .ok (.tuple #[.bool true, .int .i64 pos, .int .i32 rn]) w' ∧
     GH G X w' (h.set id (.sit l (pos + k))) ∧ Tr X w h X w' (h.set id (.sit l (pos + k))) := by
 cases r with
 | dead hr hd _ => simp [AV.refs] at hr; subst hr; rw [hid] at hd; cases hd
 | ptr hid' hnd hι =>
 rw [hid] at hid'; cases hid'
 have ok := g.objs _ _ hid
 cases ok with
 | absent h0 => rw [h0] at hι; cases hι
 | @sit _ _ b h0 hnF hb =>
 rw [h0] at hι
 simp only [Option.some.injEq, Prod.mk.injEq] at hι
 obtain ⟨rfl, rfl⟩ := hι
 have hbs : b < w.heap.size := lt_of_block hb
 by_cases hpos : pos < l.length
 · right
   have hsz : pos < (⟨l.toArray⟩ : ByteArray).size := by simpa [ByteArray.size] using hpos
   have hel : (⟨l.toArray⟩ : ByteArray)[pos]'hsz = l[pos] := by simp [ByteArray.getElem_eq_getElem_data]
   refine ⟨l[pos], (Utf8.decode ⟨l.toArray⟩ pos).1, (Utf8.decode ⟨l.toArray⟩ pos).2, by simp [hpos], ?_, { w with heap := w.heap.setIfInBounds b (.stringIter ⟨l.toArray⟩ (pos + (Utf8.decode ⟨l.toArray⟩ pos).2)) }, ?_, ?_⟩
   · by_cases hc : l[pos].toNat < 128
     · left
       have := decode_ascii ⟨l.toArray⟩ pos hsz (by rw [hel]; exact hc)
       rw [this, hel]
       exact ⟨hc, rfl, rfl⟩
     · right
       have := decode_high ⟨l.toArray⟩ pos hsz (by rw [hel]; omega)
       exact ⟨by omega, this.1, decode_le _ _, this.2⟩
   · have hgo : (getObj b).run P w = .ok (.stringIter ⟨l.toArray⟩ pos) w := by simp [getObj, Sem.run, hb]
     simp only [Instr.next, Nat.add_zero, Sem.run_bind, hgo, Result.andThen, hsz, if_true]
     simp [setObj, Sem.run, hb, goInt]
   · exact gh_store (w' := { w with heap := w.heap.setIfInBounds b (.stringIter ⟨l.toArray⟩ (pos + (Utf8.decode ⟨l.toArray⟩ pos).2)) }) (ob' := .sit l (pos + (Utf8.decode ⟨l.toArray⟩ pos).2)) g hid h0 hnF (by simp [AObj.like]) (by simp) rfl rfl rfl
       (fun k hk => by
         show (w.heap.setIfInBounds b _)[k]? = _
         rw [Array.getElem?_setIfInBounds, if_neg (Ne.symm hk)])
       (fun s hs => by simp [World.shape?, hb] at hs)
       (fun ee => .sit (b := b) h0 hnF (by
         show (w.heap.setIfInBounds b _)[b]? = _
         rw [Array.getElem?_setIfInBounds, if_pos rfl, if_pos hbs]))
 · left
   refine ⟨by omega, ?_⟩
   have hgo : (getObj b).run P w = .ok (.stringIter ⟨l.toArray⟩ pos) w := by simp [getObj, Sem.run, hb]
   have hsz : ¬ pos < (⟨l.toArray⟩ : ByteArray).size := by simpa [ByteArray.size] using hpos
   simp [Instr.next, Sem.run_bind, hgo, Result.andThen, hsz]
end

structure AOper where
 dst : Option Nat
 op : Op
 gd : Option (Nat × Bool)
 ck : Bool
 deriving Inhabited

inductive ACode where
 | skip
 | region (ops : List AOper)
 | draw (th : Option Nat) (ops : List AOper)
 | seq (a b : ACode)
 | cond (c : Operand) (a b : ACode)
 | block (id : Nat) (c : ACode)
 | loop (c : ACode)
 | exit (id : Nat)
 | ret
 deriving Inhabited

def optK (x : Option (AV × List AObj)) (K : AV → List AObj → Prop) : Prop :=
 match x with
 | some (r, h) => K r h
 | Option.none => False

def condK (c : AV) (A B : Prop) : Prop :=
 match c with
 | .b x => (x = true → A) ∧ (x = false → B)
 | _ => False

def gval (a : AV) (want : Bool) : AV :=
 match a with
 | .b x => .b (x == want)
 | .tup [] => .b false
 | _ => .u

def winPers (h : List AObj) : AV → Bool
 | .hs id _ _ _ => match h[id]? with
   | some (.arr _ _ cells) => persL cells
   | _ => true
 | a => pers a

def kcall (P : Program) (G : Glob) (dr : Bool) (f : FuncId) (A : List AV) (h : List AObj) (K : AV → List AObj → Prop) : Prop :=
 if dr then ∃ r, Ctr P G f (A.map (snap dep h)) r ∧ K (mat r (hAfter r h A)).1 (mat r (hAfter r h A)).2 else ACalls P G f A h K
theorem kcall_calls {P : Program} {G : Glob} {dr : Bool} {f : FuncId} {A : List AV} {h : List AObj} {K : AV → List AObj → Prop} (k : kcall P G dr f A h K) : ACalls P G f A h K := by
 cases dr with
 | true => obtain ⟨r, s, hK⟩ := k; exact ACalls.sem s hK
 | false => exact k

def oldRef (N : Nat) (a : AV) : Prop :=
 match a.refs with
 | some id => id < N
 | Option.none => True
def newRef (N : Nat) : AV → Prop
 | .e0 => True
 | .hs id _ _ _ => N ≤ id
 | .ptr id _ => N ≤ id
 | _ => False
def oldAll (N : Nat) : List AV → Prop
 | [] => True
 | a :: l => oldRef N a ∧ oldAll N l
def ckOp (G : Glob) (N : Nat) (op : Op) (env : List AV) : Prop :=
 match op with
 | .call c => match c.callee with
   | .builtin .append => match c.args.toList.map (aev G env) with
     | [s, _] => newRef N s
     | _ => False
   | _ => oldAll N (op.operands.toList.map (aev G env))
 | .store _ a _ => newRef N (aev G env a)
 | op => oldAll N (op.operands.toList.map (aev G env))
def ckOK (G : Glob) (dr : Option Nat) (ck : Bool) (op : Op) (env : List AV) : Prop :=
 match ck, dr with
 | true, some N => ckOp G N op env
 | _, _ => True

def isCst : Operand → Bool
 | .const _ => true
 | _ => false
def cslL (l : List (Nat × Operand)) : Bool := !l.isEmpty && l.all fun p => isCst p.2
def cval : Operand → AV
 | .const v => aval v
 | _ => .u
def aslC (P : Program) (T : TypeId) (len : Nat) (ps : Array (Nat × Operand)) : Option AV :=
 match elemOf? P T with
 | some el => match zeroOf P el with
   | some z => if szOf P el = some z.length ∧ 0 < z.length ∧ 0 < len ∧ len * z.length ≤ 65536 then
       (match afill (fun i => some (i * z.length, z.length)) (List.replicate len z).flatten (ps.toList.map fun (i, x) => (i, cval x)) with
       | some cells => if persL cells = true then some (.sl cells len) else Option.none
       | Option.none => Option.none) else Option.none
   | Option.none => Option.none
 | Option.none => Option.none
theorem csl_map {G : Glob} {env : List AV} {l : List (Nat × Operand)} (h : cslL l = true) : (l.map fun (i, x) => (i, aev G env x)) = l.map fun (i, x) => (i, cval x) := by
 simp only [cslL, Bool.and_eq_true, List.all_eq_true] at h
 apply List.map_congr_left
 rintro ⟨i, x⟩ hp
 have := h.2 _ hp
 cases x <;> simp [isCst] at this
 rfl
section
variable (P : Program) (G : Glob) (dr : Bool)

def acall (env : List AV) (h : List AObj) (c : Call) (K : AV → List AObj → Prop) : Prop :=
 match c.callee with
 | .builtin .append => match c.argTypes.toList, c.args.toList.map (aev G env) with
   | [T, U], [s, x] => if T = U then (if winPers h x then optK (aappend P h T s x) K else optK (aappend P (freeze (reach dep h x) h) T s (snap dep h x)) K) else (match P.underlying U with | some (.int _) => optK (azeros P h T s x) K | _ => False)
   | _, _ => False
 | .builtin b => optK (abuiltin P h b c.argTypes (c.args.toList.map (aev G env))) K
 | .value fx => match aev G env fx with
   | .fn f first capt => kcall P G dr f (first ++ c.args.toList.map (aev G env) ++ capt) h K
   | _ => False
 | .invoke .. => False

def awop (o : Op) (K : AV → List AObj → Prop) (env : List AV) (h : List AObj) : Prop :=
 match o with
 | .call c => acall P G dr env h c K
 | .mapUpdate T m k x => if pers (aev G env x) then (match amapUpdate P h T (aev G env m) (aev G env k) (aev G env x) with
     | some h' => K .u h'
     | Option.none => False)
   else (match amapUpdate P (freeze (reach dep h (aev G env x)) h) T (aev G env m) (aev G env k) (snap dep h (aev G env x)) with
     | some h' => K .u h'
     | Option.none => False)
 | .range T x => if dr then False else match P.underlying T, snap dep h (aev G env x) with
   | some (.map _ _), .mapv ks vs => K (.ptr (freeze (reach dep h (aev G env x)) h).length 0) (freeze (reach dep h (aev G env x)) h ++ [.mit none ks vs])
   | some .string, .s l => K (.ptr (freeze (reach dep h (aev G env x)) h).length 0) (freeze (reach dep h (aev G env x)) h ++ [.sit l 0])
   | _, _ => False
 | .next x false => if dr then False else match aev G env x with
   | .ptr id 0 => match h[id]? with
     | some (.mit _ ks vs) => (ks = [] → K (.tup [.b false]) h) ∧ ∀ (j : Nat) (k v : AV), ks[j]? = some k → vs[j]? = some v → K (.tup [.b true, k, v]) (h.set id (.mit (some (k, v)) (ks.eraseIdx j) (vs.eraseIdx j)))
     | _ => False
   | _ => False
 | .next x true => if dr then False else match aev G env x with
   | .ptr id 0 => match h[id]? with
     | some (.sit l pos) => (l.length ≤ pos → K (.tup [.b false]) h) ∧ ∀ (c : UInt8), l[pos]? = some c → (c.toNat < 128 → K (.tup [.b true, .i .i64 pos, .i .i32 c.toNat]) (h.set id (.sit l (pos + 1)))) ∧
         ∀ (rn k : Nat), 128 ≤ c.toNat → 128 ≤ rn → rn ≤ 2147483647 → 1 ≤ k → K (.tup [.b true, .i .i64 pos, .i .i32 rn]) (h.set id (.sit l (pos + k)))
     | _ => False
   | _ => False
 | .entry x => if dr then False else match aev G env x with
   | .ptr id 0 => match h[id]? with
     | some (.mit (some (k, v)) _ _) => K (.tup [k, v]) h
     | _ => False
   | _ => False
 | .buildSlice T len ps => optK (if (dr && cslL ps.toList) = true then (aslC P T len ps).map fun v => (v, h) else aop P G env h (.buildSlice T len ps)) K
 | o => optK (aop P G env h o) K

end

def nilB (y : Operand) (op : BinOp) (T : TypeId) (x : Operand) : Option (TypeId × Operand) :=
 match y with
 | .const (.slice Option.none 0 0) => (match op with | .eql => some (T, x) | _ => Option.none)
 | _ => Option.none
def nilTest : Op → Option (TypeId × Operand)
 | .binOp op T x y _ => nilB y op T x
 | _ => Option.none
def nilK (P : Program) (T : TypeId) (v : AV) (K : AV → Prop) : Prop :=
 match P.underlying T with
 | some (.slice _) => (match v with
   | .e0 => K (.b true) ∧ K (.b false)
   | .sl _ n => (n = 0 → K (.b true)) ∧ K (.b false)
   | _ => False)
 | _ => False

def arrSz (P : Program) (T : TypeId) : Option Nat :=
 match P.underlying T with
 | some (.array _ e) => szOf P e
 | _ => Option.none
def arrV (P : Program) (ev : Operand → AV) : Op → Option (Nat × List AV)
 | .alloc T => match arrSz P T with
   | some sz => (zeroOf P T).map (sz, ·)
   | Option.none => Option.none
 | .box T x => match arrSz P T with
   | some sz => (acells (ev x)).map (sz, ·)
   | Option.none => Option.none
 | _ => Option.none
section
variable (P : Program) (G : Glob) (dr : Option Nat)
def runO (op : Op) (K : AV → List AObj → Prop) (env : List AV) (h : List AObj) : Prop :=
 match nilTest op, dr with
 | some (T, x), Option.none => nilK P T (aev G env x) (fun r => K r h)
 | _, _ => match arrV P (aev G env) op with
   | some (sz, cells) => (match dr with
     | Option.none => K (.ptr h.length 0) (h ++ [.arr false sz cells])
     | some _ => awop P G dr.isSome op K env h)
   | Option.none => awop P G dr.isSome op K env h
def awops : List AOper → (List AV → List AObj → Prop) → List AV → List AObj → Prop
 | [], K, env, h => K env h
 | o :: os, K, env, h =>
   match o.gd with
   | Option.none => ckOK G dr o.ck o.op env ∧ runO P G dr o.op (fun r h' => awops os K (aput env o.dst r) h') env h
   | some (t, want) => condK (gval (env.getD t .u) want)
       (ckOK G dr o.ck o.op env ∧ runO P G dr o.op (fun r h' => awops os K (aput env o.dst r) h') env h) (awops os K (aput env o.dst (.tup [])) h)

end

def thenX (K : List AV → List AObj → Prop) (Q : Exit → List AV → List AObj → Prop) : Exit → List AV → List AObj → Prop
 | .normal, env, h => K env h
 | e, env, h => Q e env h
def blockX (id : Nat) (Q : Exit → List AV → List AObj → Prop) : Exit → List AV → List AObj → Prop
 | .exit i, env, h => if i = id then Q .normal env h else Q (.exit i) env h
 | e, env, h => Q e env h

def Loop (B : (Exit → List AV → List AObj → Prop) → List AV → List AObj → Prop) (Q : Exit → List AV → List AObj → Prop) (env : List AV) (h : List AObj) : Prop :=
 ∃ (S : Type) (I : S → List AV → List AObj → Prop) (μ : S → Nat) (s0 : S), I s0 env h ∧ ∀ s env h, I s env h → B (thenX (fun e' h' => ∃ s', I s' e' h' ∧ μ s' < μ s) Q) env h

section
variable (P : Program) (G : Glob)
def awx : ACode → (Exit → List AV → List AObj → Prop) → List AV → List AObj → Prop
 | .skip, Q, env, h => Q .normal env h
 | .region ops, Q, env, h => awops P G Option.none ops (Q .normal) env h
 | .draw th ops, Q, env, h => awops P G (some (th.getD h.length)) ops (Q .normal) env h
 | .seq a b, Q, env, h => awx a (thenX (awx b Q) Q) env h
 | .cond c a b, Q, env, h => condK (aev G env c) (awx a Q env h) (awx b Q env h)
 | .block id c, Q, env, h => awx c (blockX id Q) env h
 | .loop c, Q, env, h => Loop (awx c) Q env h
 | .exit id, Q, env, h => Q (.exit id) env h
 | .ret, Q, env, h => Q .ret env h
end

def anyPre (o : Oper) : List Nat := (o.after.toList.filter (Region.binds .any)).map (·.on)
def isMade (t : Tmp) (o : Oper) : Bool :=
 match o.op with
 | .buildSlice .. => o.dst == some t
 | .call ⟨.builtin .append, _, _⟩ => o.dst == some t
 | _ => false
def isApp (o : Oper) : Bool :=
 match o.op with
 | .call ⟨.builtin .append, _, _⟩ => true
 | _ => false
def preIs (ops : Array Oper) (q : Oper → Bool) : List Nat → Bool
 | [] => false
 | e :: es => (match ops[e]? with | some o => q o | Option.none => false) || preIs ops q es
def isStore (o : Oper) : Bool :=
 match o.op with
 | .store .. => true
 | _ => false
def isRd (o : Oper) : Bool :=
 match o.op with
 | .load .. | .slice .. | .nilCheck _ | .fieldAddr .. | .indexAddr .. | .lookup .. => true
 | .call ⟨.builtin .len, _, _⟩ => true
 | _ => false
def lateOn (ops : Array Oper) (q : Oper → Bool) (o : Oper) : Bool := o.after.toList.any fun d => !(Region.binds .any d) && (match ops[d.on]? with | some p => q p | Option.none => false)
def hasApp (ops : Array Oper) : Bool := ops.toList.any isApp
def ckOf (ops : Array Oper) (o : Oper) : Bool :=
 match o.op with
 | .call c => match c.callee with
   | .builtin .append => match c.args.toList with
     | [.tmp t, _] => preIs ops (isMade t) (anyPre o)
     | _ => false
   | .builtin .len => (hasApp ops && !preIs ops isApp (anyPre o)) || lateOn ops isStore o
   | _ => false
 | .load .. | .slice .. | .nilCheck _ | .fieldAddr .. | .indexAddr .. | .lookup .. => (hasApp ops && !preIs ops isApp (anyPre o)) || lateOn ops isStore o
 | .store .. => lateOn ops isRd o
 | _ => false

def stripOp (rx : Bool) (ops : Array Oper) (o : Oper) : Option AOper :=
 match o.guard with
 | Option.none => some ⟨o.dst, o.op, Option.none, rx && ckOf ops o⟩
 | some (j, want) => match (ops[j]?).bind (·.dst) with
   | some d => some ⟨o.dst, o.op, some (d, want), rx && ckOf ops o⟩
   | Option.none => Option.none

def stripOps (rx : Bool) (ops : Array Oper) : List Oper → Option (List AOper)
 | [] => some []
 | o :: os => match stripOp rx ops o, stripOps rx ops os with
   | some a, some l => some (a :: l)
   | _, _ => Option.none

section
variable {P : Program} {G : Glob} {dr : Bool}

def Holds (G : Glob) (X : Ctx) (w : World) (h : List AObj) (K : List AV → List AObj → Prop) (a' : Act) (w' : World) : Prop :=
 ∃ env' h' X', K env' h' ∧ GH G X' w' h' ∧ EnvOK X' w' h' env' a' ∧ Tr X w h X' w' h'

def AW (P : Program) (G : Glob) (c : Code) (Q : Exit → List AV → List AObj → Prop) (env : List AV) (h : List AObj) : Prop :=
 ∀ (X : Ctx) (w : World) (a : Act), GH G X w h → EnvOK X w h env a → c.wp P (fun e a' w' => Holds G X w h (Q e) a' w') a w

theorem optK_ok {X : Ctx} {w : World} {h : List AObj} {env : List AV} {a : Act} {K : AV → List AObj → Prop} {o : Oper} (g : GH G X w h) (r : EnvOK X w h env a) (e : optK (aop P G env h o.op) K) :
   ∃ x h', K x h' ∧ OpRes G X w h ((execOp a.eval o).run P w) x h' := by
 cases ha : aop P G env h o.op with
 | none => rw [ha] at e; exact e.elim
 | some q =>
   obtain ⟨x, h'⟩ := q
   rw [ha] at e
   exact ⟨x, h', e, aop_ok g r o ha⟩

theorem wp_opRes {X : Ctx} {w : World} {h : List AObj} {env : List AV} {a : Act} {o : Oper} {x : AV} {h' : List AObj} {next : Act → World → Prop} {Q : Exit → Act → World → Prop} (r : EnvOK X w h env a)
   (e : OpRes G X w h ((execOp a.eval o).run P w) x h') (hn : ∀ a' w' X', GH G X' w' h' → EnvOK X' w' h' (aput env o.dst x) a' → Tr X w h X' w' h' → next a' w') : o.wp P a w next Q := by
 obtain ⟨X', w', nx, v, hrun, hnx, rx, g', t⟩ := e
 unfold Oper.wp
 rw [hrun]
 rcases hnx with rfl | ⟨rfl, rfl⟩
 · exact hn _ _ _ g' ((r.mono t.ext).put _ rx) t
 · exact hn _ _ _ g' ((r.mono t.ext).put _ rx) t

theorem append_run {X : Ctx} {w : World} {h : List AObj} {env : List AV} {a : Act} {K : AV → List AObj → Prop} (o : Oper) (c : Call) (ho : o.op = .call c) (hc : c.callee = .builtin .append) (g : GH G X w h) (r : EnvOK X w h env a)
   (e : acall P G dr env h c K) : ∃ x h', K x h' ∧ OpRes G X w h ((execOp a.eval o).run P w) x h' := by
 unfold acall at e
 rw [hc] at e
 simp only at e
 split at e
 case h_2 => exact e.elim
 rename_i T U s x hty harg
 obtain ⟨o1, o2, ho1⟩ : ∃ o1 o2, c.args = #[o1, o2] := by
   have : c.args.toList.length = 2 := by have := congrArg List.length harg; simpa using this
   match hc : c.args with
   | ⟨[o1, o2]⟩ => exact ⟨o1, o2, rfl⟩
   | ⟨[]⟩ => simp [hc] at this
   | ⟨[_]⟩ => simp [hc] at this
   | ⟨_ :: _ :: _ :: _⟩ => simp [hc] at this
 have htys : c.argTypes = #[T, U] := by rw [← Array.toArray_toList (xs := c.argTypes), hty]
 simp only [ho1, List.map_cons, List.map_nil, List.cons.injEq, and_true] at harg
 obtain ⟨rfl, rfl⟩ := harg
 have hexec : ∀ y' w', (Builtin.append_ #[T, U] o.type #[a.eval o1, a.eval o2]).run P w = .ok y' w' → (execOp a.eval o).run P w = .ok (.value y') w' := by
   intro y' w' hrun
   unfold execOp
   simp only [ho]
   simp [resolve, hc, ho1, htys, invoke, builtin, hrun]
 split at e
 case isFalse =>
   split at e
   case h_2 => exact e.elim
   rename_i kn hU
   cases ha : azeros P h T (aev G env o1) (aev G env o2) with
   | none => rw [ha] at e; exact e.elim
   | some q =>
     obtain ⟨y, h'⟩ := q
     rw [ha] at e
     obtain ⟨X', w', y', hrun, rr, g', t⟩ := zeros_run_ok (ty := o.type) hU g (aev_ok g r o1) (aev_ok g r o2) ha
     exact ⟨y, h', e, X', w', _, _, hexec _ _ hrun, .inl rfl, rr, g', t⟩
 rename_i hTU
 subst hTU
 split at e
 · cases ha : aappend P h T (aev G env o1) (aev G env o2) with
   | none => rw [ha] at e; exact e.elim
   | some q =>
     obtain ⟨y, h'⟩ := q
     rw [ha] at e
     obtain ⟨X', w', y', hrun, rr, g', t⟩ := append_ok (ty := o.type) g (aev_ok g r o1) (aev_ok g r o2) ha
     exact ⟨y, h', e, X', w', _, _, hexec _ _ hrun, .inl rfl, rr, g', t⟩
 · obtain ⟨X1, g1, r1, t1⟩ := keep_ok g (aev_ok g r o2)
   cases ha : aappend P (freeze (reach dep h (aev G env o2)) h) T (aev G env o1) (snap dep h (aev G env o2)) with
   | none => rw [ha] at e; exact e.elim
   | some q =>
     obtain ⟨y, h'⟩ := q
     rw [ha] at e
     obtain ⟨X', w', y', hrun, rr, g', t⟩ := append_ok (ty := o.type) g1 ((aev_ok g r o1).mono t1.ext) r1 ha
     exact ⟨y, h', e, X', w', _, _, hexec _ _ hrun, .inl rfl, rr, g', t1.trans t⟩

theorem update_run {X : Ctx} {w : World} {h : List AObj} {env : List AV} {a : Act} {K : AV → List AObj → Prop} (o : Oper) (T : TypeId) (m k x : Operand) (ho : o.op = .mapUpdate T m k x) (g : GH G X w h) (r : EnvOK X w h env a)
   (e : awop P G dr o.op K env h) : ∃ x h', K x h' ∧ OpRes G X w h ((execOp a.eval o).run P w) x h' := by
 rw [ho] at e
 unfold awop at e
 simp only at e
 have hexec : ∀ w', (Instr.mapUpdate T (a.eval m) (a.eval k) (a.eval x)).run P w = .ok () w' → (execOp a.eval o).run P w = .ok .skip w' := by
   intro w' hrun
   unfold execOp
   simp only [ho]
   simp [hrun]
 split at e
 · cases ha : amapUpdate P h T (aev G env m) (aev G env k) (aev G env x) with
   | none => rw [ha] at e; exact e.elim
   | some h' =>
     rw [ha] at e
     obtain ⟨w', hrun, g', t⟩ := mapUpdate_ok g (aev_ok g r m) (aev_ok g r k) (aev_ok g r x) ha
     exact ⟨.u, h', e, X, w', _, _, hexec _ hrun, .inr ⟨rfl, rfl⟩, .u _, g', t⟩
 · obtain ⟨X1, g1, r1, t1⟩ := keep_ok g (aev_ok g r x)
   cases ha : amapUpdate P (freeze (reach dep h (aev G env x)) h) T (aev G env m) (aev G env k) (snap dep h (aev G env x)) with
   | none => rw [ha] at e; exact e.elim
   | some h' =>
     rw [ha] at e
     obtain ⟨w', hrun, g', t⟩ := mapUpdate_ok g1 ((aev_ok g r m).mono t1.ext) ((aev_ok g r k).mono t1.ext) r1 ha
     exact ⟨.u, h', e, X1, w', _, _, hexec _ hrun, .inr ⟨rfl, rfl⟩, .u _, g', t1.trans t⟩

theorem range_run {X : Ctx} {w : World} {h : List AObj} {env : List AV} {a : Act} {K : AV → List AObj → Prop} (o : Oper) (T : TypeId) (x : Operand) (ho : o.op = .range T x) (g : GH G X w h) (r : EnvOK X w h env a)
   (e : awop P G dr o.op K env h) : ∃ x h', K x h' ∧ OpRes G X w h ((execOp a.eval o).run P w) x h' := by
 rw [ho] at e
 unfold awop at e
 simp only at e
 split at e
 · exact e.elim
 split at e
 · rename_i K' E ks vs hT hs
   obtain ⟨X1, g1, r1, t1⟩ := keep_ok g (aev_ok g r x)
   rw [hs] at r1
   obtain ⟨X', w', u, hrun, ru, g', t⟩ := range_ok hT g1 r1
   refine ⟨_, _, e, X', w', _, _, ?_, .inl rfl, ru, g', t1.trans t⟩
   unfold execOp
   simp only [ho]
   simp [hrun]
 · rename_i l hT hs
   obtain ⟨X1, g1, r1, t1⟩ := keep_ok g (aev_ok g r x)
   rw [hs] at r1
   obtain ⟨X', w', u, hrun, ru, g', t⟩ := rangeS_ok hT g1 r1
   refine ⟨_, _, e, X', w', _, _, ?_, .inl rfl, ru, g', t1.trans t⟩
   unfold execOp
   simp only [ho]
   simp [hrun]
 · exact e.elim

theorem next_run {X : Ctx} {w : World} {h : List AObj} {env : List AV} {a : Act} {K : AV → List AObj → Prop} (o : Oper) (x : Operand) (ho : o.op = .next x false) (g : GH G X w h) (r : EnvOK X w h env a)
   (e : awop P G dr o.op K env h) : ∃ x h', K x h' ∧ OpRes G X w h ((execOp a.eval o).run P w) x h' := by
 rw [ho] at e
 unfold awop at e
 simp only at e
 split at e
 · exact e.elim
 split at e
 · rename_i id hx
   split at e
   · rename_i cur ks vs hid
     have rx := aev_ok g r x
     rw [hx] at rx
     have hexec : ∀ y' w', (Instr.next (a.eval x) false o.type).run P w = .ok y' w' → (execOp a.eval o).run P w = .ok (.value y') w' := by
       intro y' w' hrun
       unfold execOp
       simp only [ho]
       simp [hrun]
     rcases next_ok (ty := o.type) hid g rx with ⟨hk, hrun⟩ | ⟨j, k, v, hk, hv, w', kv, xv, hrun, rk, rv, g', t⟩
     · exact ⟨_, _, e.1 hk, X, w, _, _, hexec _ _ hrun, .inl rfl, .tup rfl (fun j a v ha hv => by
         cases j with
         | zero => simp at ha hv; subst ha; subst hv; exact .b _
         | succ j => simp at ha), g, .refl _ _ _⟩
     · exact ⟨_, _, e.2 j k v hk hv, X, w', _, _, hexec _ _ hrun, .inl rfl, .tup rfl (fun j a v ha hv => by
         match j with
         | 0 => simp at ha hv; subst ha; subst hv; exact .b _
         | 1 => simp at ha hv; subst ha; subst hv; exact rk
         | 2 => simp at ha hv; subst ha; subst hv; exact rv
         | j + 3 => simp at ha), g', t⟩
   · exact e.elim
 · exact e.elim

theorem nextS_run {X : Ctx} {w : World} {h : List AObj} {env : List AV} {a : Act} {K : AV → List AObj → Prop} (o : Oper) (x : Operand) (ho : o.op = .next x true) (g : GH G X w h) (r : EnvOK X w h env a)
   (e : awop P G dr o.op K env h) : ∃ x h', K x h' ∧ OpRes G X w h ((execOp a.eval o).run P w) x h' := by
 rw [ho] at e
 unfold awop at e
 simp only at e
 split at e
 · exact e.elim
 split at e
 · rename_i id hx
   split at e
   · rename_i l pos hid
     have rx := aev_ok g r x
     rw [hx] at rx
     have hexec : ∀ y' w', (Instr.next (a.eval x) true o.type).run P w = .ok y' w' → (execOp a.eval o).run P w = .ok (.value y') w' := by
       intro y' w' hrun
       unfold execOp
       simp only [ho]
       simp [hrun]
     rcases nextS_ok (ty := o.type) hid g rx with ⟨hk, hrun⟩ | ⟨c, rn, k, hc, hcase, w', hrun, g', t⟩
     · exact ⟨_, _, e.1 hk, X, w, _, _, hexec _ _ hrun, .inl rfl, .tup rfl (fun j a v ha hv => by
         cases j with
         | zero => simp at ha hv; subst ha; subst hv; exact .b _
         | succ j => simp at ha), g, .refl _ _ _⟩
     · have hK : K (.tup [.b true, .i .i64 pos, .i .i32 rn]) (h.set id (.sit l (pos + k))) := by
         rcases hcase with ⟨h1, rfl, rfl⟩ | ⟨h1, h2, h3, h4⟩
         · exact (e.2 c hc).1 h1
         · exact (e.2 c hc).2 rn k h1 h2 h3 h4
       exact ⟨_, _, hK, X, w', _, _, hexec _ _ hrun, .inl rfl, .tup rfl (fun j a v ha hv => by
         match j with
         | 0 => simp at ha hv; subst ha; subst hv; exact .b _
         | 1 => simp at ha hv; subst ha; subst hv; exact .i _ _
         | 2 => simp at ha hv; subst ha; subst hv; exact .i _ _
         | j + 3 => simp at ha), g', t⟩
   · exact e.elim
 · exact e.elim

theorem entry_run {X : Ctx} {w : World} {h : List AObj} {env : List AV} {a : Act} {K : AV → List AObj → Prop} (o : Oper) (x : Operand) (ho : o.op = .entry x) (g : GH G X w h) (r : EnvOK X w h env a)
   (e : awop P G dr o.op K env h) : ∃ x h', K x h' ∧ OpRes G X w h ((execOp a.eval o).run P w) x h' := by
 rw [ho] at e
 unfold awop at e
 simp only at e
 split at e
 · exact e.elim
 split at e
 · rename_i id hx
   split at e
   · rename_i k v _ _ hid
     have rx := aev_ok g r x
     rw [hx] at rx
     obtain ⟨kv, xv, hrun, rk, rv⟩ := entry_ok (P := P) hid g rx
     have hexec : (execOp a.eval o).run P w = .ok (.value (.tuple #[kv, xv])) w := by
       unfold execOp
       simp only [ho]
       simp [hrun]
     exact ⟨_, _, e, X, w, _, _, hexec, .inl rfl, .tup rfl (fun j a v ha hv => by
       match j with
       | 0 => simp at ha hv; subst ha; subst hv; exact rk
       | 1 => simp at ha hv; subst ha; subst hv; exact rv
       | j + 2 => simp at ha), g, .refl _ _ _⟩
   · exact e.elim
 · exact e.elim

theorem callee_ok {X : Ctx} {w : World} {h : List AObj} {f : FuncId} {first capt : List AV} {v : Value} (r : RV X w h (.fn f first capt) v) :
   ∃ first' capt', v = .func (.func f) first' capt' ∧ first.length = first'.size ∧ capt.length = capt'.size ∧ (∀ (j : Nat) (a : AV) (v : Value), first[j]? = some a → first'[j]? = some v → RV X w h a v) ∧
     (∀ (j : Nat) (a : AV) (v : Value), capt[j]? = some a → capt'[j]? = some v → RV X w h a v) := by
 cases r with
 | fn h1 h2 h3 h4 => exact ⟨_, _, rfl, h1, h2, h3, h4⟩
 | dead hr _ _ => simp [AV.refs] at hr

theorem append_rel {Q : AV → Value → Prop} {as bs : List AV} {us vs : Array Value} (ha : as.length = us.size) (h1 : ∀ (j : Nat) (a : AV) (v : Value), as[j]? = some a → us[j]? = some v → Q a v)
   (h2 : ∀ (j : Nat) (a : AV) (v : Value), bs[j]? = some a → vs[j]? = some v → Q a v) : ∀ (j : Nat) (a : AV) (v : Value), (as ++ bs)[j]? = some a → (us ++ vs)[j]? = some v → Q a v := by
 intro j a v hx hv
 by_cases hj : j < as.length
 · rw [List.getElem?_append_left hj] at hx
   rw [Array.getElem?_append_left (by omega)] at hv
   exact h1 _ _ _ hx hv
 · rw [List.getElem?_append_right (by omega)] at hx
   rw [Array.getElem?_append_right (by omega), ← ha] at hv
   exact h2 _ _ _ hx hv

theorem arr_resF {X : Ctx} {w : World} {h : List AObj} (g : GH G X w h) {cells : List AV} {cs : Array Value} (T : TypeId) {n cap : Nat} (hl : cells.length ≤ cs.size) (h1 : Cells1 cs) (hr : ∀ (j : Nat) (x : AV) (u : Value), cells[j]? = some x → cs[j]? = some u → RV X w h x u) (hnc : n ≤ cap) :
   ∃ X' w', (newRow T cs).run P w = .ok ⟨w.heap.size, 0, Option.none⟩ w' ∧ RV X' w' h (.sl cells n) (.slice (some ⟨w.heap.size, 0, Option.none⟩) n cap) ∧ GH G X' w' h ∧ Tr X w h X' w' h := by
 have hp := Pushed.alloc w (.cells cs T (0, 0))
 have hgr := hp.grew
 have e : Ext X w h ⟨fun b => X.F b ∨ b = w.heap.size, X.ι⟩ (w.alloc (.cells cs T (0, 0))) h :=
   ⟨fun _ f => .inl f, fun b hb => hp.old (g.fbnd b hb), fun b s hs => by rw [shape_of (hp.old (shape_lt hs))]; exact hs, fun id o ho => ⟨o, ho, .inr ⟨AObj.like_refl _, .inl rfl⟩⟩⟩
 refine ⟨⟨fun b => X.F b ∨ b = w.heap.size, X.ι⟩, _, rfl, ?_, ⟨?_, g.dom, g.inj, ?_, ?_, fun k a hk => (g.gl k a hk).mono e⟩, ⟨⟨hgr.size, hgr.os, hgr.tape, hgr.output, fun b hb _ => hp.old hb, fun id b o hb => .inr ⟨id, o, hb⟩, ?_⟩, e, fun id z hid _ => hid⟩⟩
 · exact .sl (b := w.heap.size) (o := 0) (.inr rfl) hp.at (by omega) hnc (fun j v _ hv => h1 j v (by simpa using hv)) (fun j a v ha hv => (hr j a v ha (by simpa using hv)).mono e)
 · intro id ob hob
   refine (g.objs id ob hob).mono e rfl (fun b o hb => hp.old (g.bnd _ _ _ hb)) (fun b o hb f => ?_)
   rcases f with f | f
   · exact f
   · have := g.bnd _ _ _ hb; omega
 · intro id b o hb
   exact Nat.lt_of_lt_of_le (g.bnd _ _ _ hb) hgr.size
 · intro b hb
   rcases hb with f | f
   · exact Nat.lt_of_lt_of_le (g.fbnd b f) hgr.size
   · rw [f]; have := hp.size; show w.heap.size < (w.alloc (.cells cs T (0, 0))).heap.size; omega
 · intro b hb
   rcases hb with f | f
   · exact .inl f
   · exact .inr (.inl (by omega))
theorem slC_run {X : Ctx} {w : World} {h : List AObj} {env : List AV} {a : Act} {v : AV} (o : Oper) {T : TypeId} {len : Nat} {ps : Array (Nat × Operand)} (ho : o.op = .buildSlice T len ps) (g : GH G X w h) (r : EnvOK X w h env a) (hc : cslL ps.toList = true) (e : aslC P T len ps = some v) :
   OpRes G X w h ((execOp a.eval o).run P w) v h := by
 unfold aslC at e
 cases he : elemOf? P T with
 | none => simp [he] at e
 | some el =>
 have hu := elemOf_ok he
 cases hz : zeroOf P el with
 | none => simp [he, hz] at e
 | some z =>
 simp only [he, hz] at e
 split at e
 case isFalse => cases e
 rename_i hcnd
 obtain ⟨hsz, hz0, hlen, hbig⟩ := hcnd
 obtain ⟨i, zv, hi, hiz, hzc⟩ := zeroOf_info hz
 obtain ⟨z1, z2, z3⟩ := zeros_ok (X := X) (w := w) (h := h) hzc len
 cases hf : afill (fun i => some (i * z.length, z.length)) (List.replicate len z).flatten (ps.toList.map fun (i, x) => (i, cval x)) with
 | none => simp [hf] at e
 | some cells =>
 simp only [hf] at e
 split at e
 case isFalse => cases e
 cases e
 rw [← csl_map (G := G) (env := env) hc] at hf
 obtain ⟨p1, p2⟩ := parts_ok g r ps
 obtain ⟨vout, f1, f2, f3, f4, f5⟩ := fill_ok (fun i => some (i * z.length, z.length)) _ _ _ _ cells p1 p2 z1 z2 z3 hf
 have hvs : vout.size = len * z.length := by rw [f5]; simp
 obtain ⟨X', w', hrun, rr, g', t⟩ := arr_resF (P := P) g el (n := len) (cap := len) (by omega) f3 f4 (Nat.le_refl _)
 unfold execOp
 simp only [ho]
 refine ⟨X', w', _, _, ?_, .inl rfl, rr, g', t⟩
 have hnb : ¬ (len * z.length > 2 ^ 24) := by omega
 have f1' : Instr.fill (fun i => some (i * z.length, z.length)) ((Array.range (len * z.length)).map (zv.cells[· % zv.cells.size]!)) (ps.map fun x => (x.1, a.eval x.2)).toList = some vout := f1
 have h0 : ¬ len * z.length = 0 := Nat.ne_of_gt (Nat.mul_pos hlen hz0)
 simp only [Instr.buildSlice, Sem.run_bind, run_underlying hu, Result.andThen_ok, run_size hsz, if_neg hnb, Sem.run_pure, if_neg h0, run_zero hi hiz, f1', hrun]
theorem awop_ok {X : Ctx} {w : World} {h : List AObj} {env : List AV} {a : Act} {K : AV → List AObj → Prop} {next : Act → World → Prop} {Q : Exit → Act → World → Prop} (o : Oper) (g : GH G X w h) (r : EnvOK X w h env a) (e : awop P G dr o.op K env h)
   (hn : ∀ x h' a' w' X', K x h' → GH G X' w' h' → EnvOK X' w' h' (aput env o.dst x) a' → Tr X w h X' w' h' → next a' w') : o.wp P a w next Q := by
 have plain : optK (aop P G env h o.op) K → o.wp P a w next Q := by
   intro e
   obtain ⟨x, h', hK, hres⟩ := optK_ok g r e
   exact wp_opRes r hres (fun a' w' X' g' r' t => hn x h' a' w' X' hK g' r' t)
 cases ho : o.op with
 | call c =>
   rw [ho] at e
   unfold awop at e
   simp only at e
   cases hc : c.callee with
   | builtin b =>
     by_cases hb : b = .append
     · subst hb
       obtain ⟨x, h', hK, hres⟩ := append_run o c ho hc g r e
       exact wp_opRes r hres (fun a' w' X' g' r' t => hn x h' a' w' X' hK g' r' t)
     · refine plain ?_
       unfold acall at e
       rw [ho]
       simp only [aop, hc]
       rw [hc] at e
       cases b <;> first | exact e | exact absurd rfl hb
   | value fx =>
     unfold acall at e
     rw [hc] at e
     simp only at e
     have rf := aev_ok g r fx
     cases hf : aev G env fx with
     | fn f first capt =>
       rw [hf] at e rf
       simp only at e
       obtain ⟨first', capt', hv, l1, l2, r1, r2⟩ := callee_ok rf
       obtain ⟨m1, m2⟩ := map_ok g r c.args
       unfold Oper.wp
       have e0 := kcall_calls e
       have hrun : (execOp a.eval o).run P w = .ok (.enter f (first' ++ c.args.map a.eval ++ capt')) w := by
         unfold execOp
         simp only [ho]
         simp [resolve, hc, hv, Deferred.ofValue, invoke, run_callFunc e0.1]
       rw [hrun]
       have e := kcall_calls e
       refine (e.2 X w (first' ++ c.args.map a.eval ++ capt') g (by simp [l1, l2]) (append_rel (by simp [l1]) (append_rel l1 r1 m2) r2)).mono ?_
       rintro e' w' ⟨v, x, h', X', rfl, hK, g', rx, t⟩
       exact hn x h' _ w' X' hK g' ((r.mono t.ext).put _ rx) t
     | _ => rw [hf] at e; exact e.elim
   | invoke _ _ => unfold acall at e; rw [hc] at e; exact e.elim
 | mapUpdate T m k x =>
   obtain ⟨x, h', hK, hres⟩ := update_run o T m k x ho g r e
   exact wp_opRes r hres (fun a' w' X' g' r' t => hn x h' a' w' X' hK g' r' t)
 | range T x =>
   obtain ⟨x, h', hK, hres⟩ := range_run o T x ho g r e
   exact wp_opRes r hres (fun a' w' X' g' r' t => hn x h' a' w' X' hK g' r' t)
 | entry x =>
   obtain ⟨x, h', hK, hres⟩ := entry_run o x ho g r e
   exact wp_opRes r hres (fun a' w' X' g' r' t => hn x h' a' w' X' hK g' r' t)
 | next x b =>
   cases b with
   | true =>
     obtain ⟨x, h', hK, hres⟩ := nextS_run o x ho g r e
     exact wp_opRes r hres (fun a' w' X' g' r' t => hn x h' a' w' X' hK g' r' t)
   | false =>
     obtain ⟨x, h', hK, hres⟩ := next_run o x ho g r e
     exact wp_opRes r hres (fun a' w' X' g' r' t => hn x h' a' w' X' hK g' r' t)
 | buildSlice T len ps =>
   rw [ho] at e
   unfold awop at e
   simp only at e
   by_cases hc : (dr && cslL ps.toList) = true
   · rw [if_pos hc] at e
     cases hv : aslC P T len ps with
     | none => rw [hv] at e; exact e.elim
     | some v =>
       rw [hv] at e
       simp only [Bool.and_eq_true] at hc
       exact wp_opRes r (slC_run o ho g r hc.2 hv) (fun a' w' X' g' r' t => hn v h a' w' X' e g' r' t)
   · rw [if_neg hc] at e
     exact plain (by rw [ho]; exact e)
 | _ => exact plain (by rw [ho] at e ⊢; exact e)

theorem run_equalIn_nil (w : World) (d : Nat) {T el : TypeId} (hT : P.underlying T = some (.slice el)) (ad : Option Addr) (n c : Nat) : (Op.equalIn (d + 1) T (.slice ad n c) (.slice Option.none 0 0)).run P w = .ok ad.isNone w := by
 unfold Op.equalIn
 rw [Sem.run_bind, run_underlying hT]
 cases ad <;> rfl
theorem nil_run {X : Ctx} {w : World} {h : List AObj} {env : List AV} {a : Act} {K : AV → List AObj → Prop} (o : Oper) (T : TypeId) (x : Operand) (U : TypeId) (ho : o.op = .binOp .eql T x (.const (.slice Option.none 0 0)) U) (g : GH G X w h) (r : EnvOK X w h env a)
   (e : nilK P T (aev G env x) (fun r => K r h)) : ∃ x h', K x h' ∧ OpRes G X w h ((execOp a.eval o).run P w) x h' := by
 unfold nilK at e
 split at e
 case h_2 => exact e.elim
 rename_i el hT
 have rx := aev_ok g r x
 have hexec : ∀ (ad : Option Addr) (n c : Nat), a.eval x = .slice ad n c → (execOp a.eval o).run P w = .ok (.value (.bool ad.isNone)) w := by
   intro ad n c hx
   have hy : a.eval (.const (.slice Option.none 0 0)) = .slice Option.none 0 0 := rfl
   have h1 := run_equalIn_nil (P := P) w 9999 hT ad n c
   have h2 : (binOp .eql T (.slice ad n c) (.slice Option.none 0 0)).run P w = .ok (.bool ad.isNone) w := by
     simp only [binOp, Op.equal, Op.maxDepth]
     simp [h1]
   have h3 : (eqGuard .eql T x (.const (.slice Option.none 0 0)) (.slice ad n c) (.slice Option.none 0 0)).run P w = .ok () w := by simp [eqGuard]
   unfold execOp
   simp only [ho, hx, hy]
   simp [h2, h3]
 have fin : ∀ b : Bool, (execOp a.eval o).run P w = .ok (.value (.bool b)) w → K (.b b) h → ∃ x h', K x h' ∧ OpRes G X w h ((execOp a.eval o).run P w) x h' :=
   fun b hb hk => ⟨.b b, h, hk, .pure g hb (.b b)⟩
 cases hx : aev G env x with
 | e0 =>
   rw [hx] at e rx
   generalize hv : a.eval x = v at rx
   cases rx with
   | e0 ad =>
     have := hexec ad 0 0 hv
     cases ad with
     | none => exact fin true this e.1
     | some _ => exact fin false this e.2
   | dead hr _ _ => simp [AV.refs] at hr
 | sl cells n =>
   rw [hx] at e rx
   generalize hv : a.eval x = v at rx
   cases rx with
   | sl0 ad c =>
     have := hexec ad 0 c hv
     cases ad with
     | none => exact fin true this (e.1 rfl)
     | some _ => exact fin false this e.2
   | sl => exact fin false (hexec _ _ _ hv) e.2
   | dead hr _ _ => simp [AV.refs] at hr
 | _ => rw [hx] at e; exact e.elim

theorem runO_some {N : Nat} {op : Op} {K : AV → List AObj → Prop} {env : List AV} {h : List AObj} : runO P G (some N) op K env h = awop P G true op K env h := by
 unfold runO
 cases nilTest op <;> cases arrV P (aev G env) op <;> rfl

theorem arr_run {X : Ctx} {w : World} {h : List AObj} {env : List AV} {a : Act} {K : AV → List AObj → Prop} {sz : Nat} {cells : List AV} (o : Oper) (g : GH G X w h) (r : EnvOK X w h env a) (ha : arrV P (aev G env) o.op = some (sz, cells))
   (e : K (.ptr h.length 0) (h ++ [.arr false sz cells])) : ∃ x h', K x h' ∧ OpRes G X w h ((execOp a.eval o).run P w) x h' := by
 have ar : ∀ {cs : Array Value} (T : TypeId), cs.size = cells.length → Cells1 cs → (∀ (j : Nat) (x : AV) (u : Value), cells[j]? = some x → cs[j]? = some u → RV X w h x u) →
     ∃ X' w', (newRow T cs).run P w = .ok ⟨w.heap.size, 0, Option.none⟩ w' ∧ RV X' w' (h ++ [.arr false sz cells]) (.ptr h.length 0) (.pointer (some ⟨w.heap.size, 0, Option.none⟩)) ∧ GH G X' w' (h ++ [.arr false sz cells]) ∧ Tr X w h X' w' (h ++ [.arr false sz cells]) := by
   intro cs T hl h1 hr
   have hp := Pushed.alloc w (.cells cs T (0, 0))
   obtain ⟨g', t⟩ := gh_push g hp _ ((objOK_cells g hp cells (by omega) (fun j v _ hv => h1 j v hv) hr).2 sz)
   refine ⟨_, _, rfl, ?_, g', t⟩
   have := RV.ptr (X := X.upd h.length (some (w.heap.size, 0))) (w := w.alloc (.cells cs T (0, 0))) (h := h ++ [.arr false sz cells]) (id := h.length) (off := 0) (ob := .arr false sz cells) (b := w.heap.size) (o := 0) (by simp) (by simp) (Ctx.upd_same _ _ _)
   simpa using this
 cases ho : o.op with
 | alloc T =>
   rw [ho] at ha
   simp only [arrV] at ha
   cases hs : arrSz P T with
   | none => simp [hs] at ha
   | some s =>
     cases hz : zeroOf P T with
     | none => simp [hs, hz] at ha
     | some c =>
       simp only [hs, hz, Option.map_some, Option.some.injEq, Prod.mk.injEq] at ha
       obtain ⟨rfl, rfl⟩ := ha
       obtain ⟨i, zv, hi, hiz, hzc⟩ := zeroOf_info hz
       obtain ⟨h1, h2, h3⟩ := aval_cells (X := X) (w := w) (h := h) hzc
       obtain ⟨X', w', hrun, rr, g', t⟩ := ar T h1 h2 h3
       refine ⟨_, _, e, X', w', _, _, ?_, .inl rfl, rr, g', t⟩
       unfold execOp
       simp [ho, Instr.alloc, run_zero hi hiz, newVar, hrun]
 | box T y =>
   rw [ho] at ha
   simp only [arrV] at ha
   cases hs : arrSz P T with
   | none => simp [hs] at ha
   | some s =>
     cases hc : acells (aev G env y) with
     | none => simp [hs, hc] at ha
     | some c =>
       simp only [hs, hc, Option.map_some, Option.some.injEq, Prod.mk.injEq] at ha
       obtain ⟨rfl, rfl⟩ := ha
       obtain ⟨h1, h2, h3⟩ := (aev_ok g r y).cells hc
       obtain ⟨X', w', hrun, rr, g', t⟩ := ar T h1 h2 h3
       refine ⟨_, _, e, X', w', _, _, ?_, .inl rfl, rr, g', t⟩
       unfold execOp
       simp [ho, Instr.box, newVar, hrun]
 | _ => rw [ho] at ha; simp [arrV] at ha

theorem runO_ok {dr : Option Nat} {X : Ctx} {w : World} {h : List AObj} {env : List AV} {a : Act} {K : AV → List AObj → Prop} {next : Act → World → Prop} {Q : Exit → Act → World → Prop} (o : Oper) (g : GH G X w h) (r : EnvOK X w h env a) (e : runO P G dr o.op K env h)
   (hn : ∀ x h' a' w' X', K x h' → GH G X' w' h' → EnvOK X' w' h' (aput env o.dst x) a' → Tr X w h X' w' h' → next a' w') : o.wp P a w next Q := by
 cases dr with
 | some N => rw [runO_some] at e; exact awop_ok o g r e hn
 | none =>
   cases hnt : nilTest o.op with
   | none =>
     unfold runO at e; rw [hnt] at e
     simp only at e
     cases ha : arrV P (aev G env) o.op with
     | none => rw [ha] at e; exact awop_ok o g r e hn
     | some q =>
       rw [ha] at e
       obtain ⟨y, h', hK, hres⟩ := arr_run o g r ha e
       exact wp_opRes r hres (fun a' w' X' g' r' t => hn y h' a' w' X' hK g' r' t)
   | some q =>
     obtain ⟨T, x⟩ := q
     unfold runO at e
     rw [hnt] at e
     have hop : ∃ U, o.op = .binOp .eql T x (.const (.slice Option.none 0 0)) U := by
       cases ho : o.op with
       | binOp op T' x' y U =>
         rw [ho] at hnt
         simp only [nilTest] at hnt
         unfold nilB at hnt
         split at hnt
         · split at hnt
           · cases hnt; exact ⟨U, rfl⟩
           · cases hnt
         · cases hnt
       | _ => rw [ho] at hnt; simp [nilTest] at hnt
     obtain ⟨U, hop⟩ := hop
     obtain ⟨y, h', hK, hres⟩ := nil_run o T x U hop g r e
     exact wp_opRes r hres (fun a' w' X' g' r' t => hn y h' a' w' X' hK g' r' t)

theorem wanted_of {X : Ctx} {w : World} {h : List AObj} {env : List AV} {a : Act} {ops : Array Oper} {o : Oper} {j d : Nat} {want c : Bool} (r : EnvOK X w h env a) (hg : o.guard = some (j, want)) (hd : ((ops[j]?).bind fun x => x.dst) = some d)
   (hc : gval (env.getD d .u) want = .b c) : Region.wanted o (yielded ops a.tmps) = c := by
 have hlt : d < env.length := by
   rcases Nat.lt_or_ge d env.length with h1 | h1
   · exact h1
   · rw [List.getD, List.getElem?_eq_none h1] at hc; simp [gval] at hc
 have hlt' : d < a.tmps.size := r.size ▸ hlt
 have hr := r.rel d (env.getD d .u) a.tmps[d] (by simp [List.getD, hlt]) (by simp [hlt'])
 cases hx : env.getD d .u with
 | b x =>
   rw [hx] at hr hc
   simp only [gval, AV.b.injEq] at hc
   have hv := bool_ok hr
   have hgt : a.tmps[d]? = some (.bool x) := by rw [← hv]; simp [hlt']
   have hy : yielded ops a.tmps j = some x := by simp only [yielded, hd, Option.bind_some, hgt]
   simp only [Region.wanted, hg, hy]
   rw [← hc]
   cases x <;> cases want <;> rfl
 | tup l =>
   rw [hx] at hr hc
   cases l with
   | cons => simp [gval] at hc
   | nil =>
     simp only [gval, AV.b.injEq] at hc
     have hv : a.tmps[d] = .tuple #[] := by
       cases hr' : a.tmps[d] with
       | tuple vs =>
         rw [hr'] at hr
         cases hr with
         | tup h1 h2 => exact congrArg Value.tuple (Array.eq_empty_of_size_eq_zero (by simpa using h1.symm))
         | dead h1 => simp [AV.refs] at h1
       | _ =>
         rw [hr'] at hr
         cases hr with
         | dead h1 => simp [AV.refs] at h1
     have hgt : a.tmps[d]? = some (.tuple #[]) := by rw [← hv]; simp [hlt']
     have hy : yielded ops a.tmps j = none := by simp only [yielded, hd, Option.bind_some, hgt]
     simp only [Region.wanted, hg, hy]
     rw [← hc]; rfl
 | _ => rw [hx] at hc; simp [gval] at hc

theorem awops_ok {rx : Bool} {dr : Option Nat} {ops : Array Oper} {Q : Exit → Act → World → Prop} {K : List AV → List AObj → Prop} : ∀ (l : List Oper) (al : List AOper), stripOps rx ops l = some al → ∀ (env : List AV) (h : List AObj) (X : Ctx) (w : World) (a : Act),
   awops P G dr al K env h → GH G X w h → EnvOK X w h env a → (∀ a' w', Holds G X w h K a' w' → Q .normal a' w') → wpList P ops Q l a w
 | [], al, hs, env, h, X, w, a, e, g, r, hQ => by
   simp only [stripOps, Option.some.injEq] at hs
   subst hs
   exact hQ a w ⟨env, h, X, e, g, r, .refl _ _ _⟩
 | o :: l, al, hs, env, h, X, w, a, e, g, r, hQ => by
   simp only [stripOps] at hs
   cases ho : stripOp rx ops o with
   | none => simp [ho] at hs
   | some ao =>
   cases hl : stripOps rx ops l with
   | none => simp [ho, hl] at hs
   | some al' =>
   simp only [ho, hl, Option.some.injEq] at hs
   subst hs
   have rest : ∀ (x : AV) (h' : List AObj) (a' : Act) (w' : World) (X' : Ctx), awops P G dr al' K (aput env o.dst x) h' → GH G X' w' h' → EnvOK X' w' h' (aput env o.dst x) a' → Tr X w h X' w' h' → wpList P ops Q l a' w' :=
     fun x h' a' w' X' e' g' r' t => awops_ok l al' hl _ h' X' w' a' e' g' r' (fun a2 w2 ⟨env2, h2, X2, k1, k2, k3, k4⟩ => hQ a2 w2 ⟨env2, h2, X2, k1, k2, k3, t.trans k4⟩)
   unfold stripOp at ho
   cases hg : o.guard with
   | none =>
     simp only [hg, Option.some.injEq] at ho
     subst ho
     simp only [awops] at e
     refine wpList_plain hg (fun K' hK' => ?_)
     exact runO_ok o g r e.2 (fun x h' a' w' X' k1 k2 k3 k4 => hK' _ _ (rest x h' a' w' X' k1 k2 k3 k4))
   | some q =>
     obtain ⟨j, want⟩ := q
     simp only [hg] at ho
     cases hd : (ops[j]?).bind (·.dst) with
     | none => simp [hd] at ho
     | some d =>
       simp only [hd, Option.some.injEq] at ho
       subst ho
       simp only [awops] at e
       cases hx : gval (env.getD d .u) want with
       | b x =>
         rw [hx] at e
         simp only [condK] at e
         have hw := wanted_of r hg hd hx
         refine wpList_step (fun K' hK' => ?_)
         rw [hw]
         cases x with
         | true =>
           simp only [if_true]
           exact runO_ok o g r (e.1 rfl).2 (fun x h' a' w' X' k1 k2 k3 k4 => hK' _ _ (rest x h' a' w' X' k1 k2 k3 k4))
         | false =>
           simp only [Bool.false_eq_true, if_false]
           exact hK' _ _ (rest (.tup []) h _ w X (e.2 rfl) g (r.put _ (.tup (vs := #[]) rfl (by simp))) (.refl _ _ _))
       | _ => rw [hx] at e; exact e.elim

end
end Go.Vo

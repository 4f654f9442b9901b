/-
  The abstract layer, part Z: paths that meet again. It speaks of any program; no condition.
-/
import Derived.Test.YtpilgabbgflbhaaGreatDoorVoP3
set_option linter.unusedVariables false
set_option linter.unusedSimpArgs false
namespace Go.Vo
section
variable {P : Program} {G : Glob} {K K' : AV → List AObj → Prop}
theorem optK_mono {x : Option (AV × List AObj)} (hK : ∀ r h, K r h → K' r h) (o : optK x K) : optK x K' := by
 cases x with
 | none => exact o
 | some p => exact hK _ _ o
theorem kcall_mono {dr : Bool} {f : FuncId} {A : List AV} {h : List AObj} (hK : ∀ r h, K r h → K' r h) (k : kcall P G dr f A h K) : kcall P G dr f A h K' := by
 cases dr with
 | true => obtain ⟨r, s, k⟩ := k; exact ⟨r, s, hK _ _ k⟩
 | false => exact ACalls.mono k hK
theorem condK_mono {c : AV} {A B A' B' : Prop} (hA : A → A') (hB : B → B') (k : condK c A B) : condK c A' B' := by
 cases c <;> simp only [condK] at k ⊢
 exact ⟨fun h => hA (k.1 h), fun h => hB (k.2 h)⟩
theorem acall_mono {dr : Bool} {env : List AV} {h : List AObj} {c : Call} (hK : ∀ r h, K r h → K' r h) (a : acall P G dr env h c K) : acall P G dr env h c K' := by
 unfold acall at a ⊢
 cases hc : c.callee with
 | builtin b =>
   rw [hc] at a
   cases b
   case append =>
     simp only at a ⊢
     split at a
     · split at a
       · rename_i hT
         rw [if_pos hT]
         split at a
         · rename_i hw; rw [if_pos hw]; exact optK_mono hK a
         · rename_i hw; rw [if_neg hw]; exact optK_mono hK a
       · rename_i hT
         rw [if_neg hT]
         split at a
         · exact optK_mono hK a
         · exact a.elim
     · exact a.elim
   all_goals exact optK_mono hK a
 | value fx =>
   rw [hc] at a
   simp only at a ⊢
   split at a
   · exact kcall_mono hK a
   · exact a.elim
 | invoke => rw [hc] at a; exact a.elim
theorem awop_mono {dr : Bool} {o : Op} {env : List AV} {h : List AObj} (hK : ∀ r h, K r h → K' r h) (a : awop P G dr o K env h) : awop P G dr o K' env h := by
 cases o
 case call c => exact acall_mono hK a
 case mapUpdate T m k x =>
   unfold awop at a ⊢
   simp only at a ⊢
   split at a
   · rename_i hp
     rw [if_pos hp]
     split at a
     · exact hK _ _ a
     · exact a.elim
   · rename_i hp
     rw [if_neg hp]
     split at a
     · exact hK _ _ a
     · exact a.elim
 case range T x =>
   unfold awop at a ⊢
   simp only at a ⊢
   split at a
   · exact a.elim
   · rename_i hd
     rw [if_neg hd]
     split at a
     · exact hK _ _ a
     · exact hK _ _ a
     · exact a.elim
 case next x b =>
   cases b
   · unfold awop at a ⊢
     simp only at a ⊢
     split at a
     · exact a.elim
     · rename_i hd
       rw [if_neg hd]
       split at a
       · split at a
         · exact ⟨fun h => hK _ _ (a.1 h), fun j k v h1 h2 => hK _ _ (a.2 j k v h1 h2)⟩
         · exact a.elim
       · exact a.elim
   · unfold awop at a ⊢
     simp only at a ⊢
     split at a
     · exact a.elim
     · rename_i hd
       rw [if_neg hd]
       split at a
       · split at a
         · exact ⟨fun h => hK _ _ (a.1 h), fun c h1 => ⟨fun h2 => hK _ _ ((a.2 c h1).1 h2), fun rn k h2 h3 h4 h5 => hK _ _ ((a.2 c h1).2 rn k h2 h3 h4 h5)⟩⟩
         · exact a.elim
       · exact a.elim
 case entry x =>
   unfold awop at a ⊢
   simp only at a ⊢
   split at a
   · exact a.elim
   · rename_i hd
     rw [if_neg hd]
     split at a
     · split at a
       · exact hK _ _ a
       · exact a.elim
     · exact a.elim
 all_goals first | exact hK _ _ a | exact optK_mono hK a | exact False.elim a
theorem nilK_mono {T : TypeId} {v : AV} {K K' : AV → Prop} (hK : ∀ r, K r → K' r) (a : nilK P T v K) : nilK P T v K' := by
 unfold nilK at a ⊢
 split at a
 · split at a
   · exact ⟨hK _ a.1, hK _ a.2⟩
   · exact ⟨fun h => hK _ (a.1 h), hK _ a.2⟩
   · exact a.elim
 · exact a.elim
theorem runO_mono {dr : Option Nat} {op : Op} {env : List AV} {h : List AObj} (hK : ∀ r h, K r h → K' r h) (a : runO P G dr op K env h) : runO P G dr op K' env h := by
 unfold runO at a ⊢
 split at a
 · exact nilK_mono (fun r => hK r h) a
 · first
     | exact awop_mono hK a
     | (split at a
        · split at a
          · exact hK _ _ a
          · exact awop_mono hK a
        · exact awop_mono hK a)
theorem awops_mono {dr : Option Nat} {K K' : List AV → List AObj → Prop} (hK : ∀ e h, K e h → K' e h) : ∀ {os : List AOper} {env : List AV} {h : List AObj}, awops P G dr os K env h → awops P G dr os K' env h
 | [], _, _, a => hK _ _ a
 | o :: os, env, h, a => by
   rw [awops] at a ⊢
   split at a
   · exact ⟨a.1, runO_mono (fun r h' => awops_mono hK) a.2⟩
   · exact condK_mono (fun a => ⟨a.1, runO_mono (fun r h' => awops_mono hK) a.2⟩) (awops_mono hK) a
theorem awx_mono : ∀ {c : ACode} {Q Q' : Exit → List AV → List AObj → Prop} {env : List AV} {h : List AObj}, (∀ x e h, Q x e h → Q' x e h) → awx P G c Q env h → awx P G c Q' env h
 | .skip, _, _, _, _, hQ, a => hQ _ _ _ a
 | .region ops, _, _, _, _, hQ, a => awops_mono (hQ _) a
 | .draw th ops, _, _, _, _, hQ, a => awops_mono (hQ _) a
 | .seq x y, _, _, _, _, hQ, a => by
   rw [awx] at a ⊢
   refine awx_mono (fun x e h k => ?_) a
   cases x
   case normal => exact awx_mono hQ k
   all_goals exact hQ _ _ _ k
 | .cond c x y, _, _, _, _, hQ, a => condK_mono (awx_mono hQ) (awx_mono hQ) a
 | .block id c, Q, Q', _, _, hQ, a => by
   rw [awx] at a ⊢
   refine awx_mono (fun x e h k => ?_) a
   cases x
   case exit i =>
     simp only [blockX] at k ⊢
     split at k
     · rename_i hi; rw [if_pos hi]; exact hQ _ _ _ k
     · rename_i hi; rw [if_neg hi]; exact hQ _ _ _ k
   all_goals exact hQ _ _ _ k
 | .loop c, _, _, _, _, hQ, a => by
   obtain ⟨S, I, μ, s0, h0, r⟩ := a
   refine ⟨S, I, μ, s0, h0, fun s env h hI => awx_mono (fun x e h k => ?_) (r s env h hI)⟩
   cases x
   case normal => exact k
   all_goals exact hQ _ _ _ k
 | .exit id, _, _, _, _, hQ, a => hQ _ _ _ a
 | .ret, _, _, _, _, hQ, a => hQ _ _ _ a
theorem x_cut {a b : ACode} {Q : Exit → List AV → List AObj → Prop} {env : List AV} {h : List AObj} (ps : List Slot) (hp : List AObj)
   (first : awx P G a (thenX (fun e' h' => h' = hp ∧ Fits ps env e') Q) env h)
   (rest : ∀ j : Nat → AV, awx P G b Q (mkEnv j 0 ps env) hp) : awx P G (.seq a b) Q env h := by
 rw [awx]
 refine awx_mono (fun x e h' k => ?_) first
 cases x
 case normal =>
   obtain ⟨rfl, hf⟩ := k
   have he : mkEnv (fun n => e.getD n .u) 0 ps env = e := mk_fits _ env e 0 _ (fun m v hv => by simp [List.getD, hv]) hf
   have r := rest (fun n => e.getD n .u)
   rw [he] at r
   exact r
 all_goals exact k
theorem x_cutH {a b : ACode} {Q : Exit → List AV → List AObj → Prop} {env : List AV} {h : List AObj} (ps : List Slot)
   (first : awx P G a (thenX (fun e' h' => h' = h ∧ Fits ps env e') Q) env h)
   (rest : ∀ j : Nat → AV, awx P G b Q (mkEnv j 0 ps env) h) : awx P G (.seq a b) Q env h := x_cut ps h first rest
theorem seq_h {a b : ACode} {Q : Exit → List AV → List AObj → Prop} {env : List AV} {h : List AObj} (k : ∀ K : List AV → List AObj → Prop, awx P G b Q = K → awx P G a (thenX K Q) env h) : awx P G (.seq a b) Q env h := by rw [awx]; exact k _ rfl
theorem x_loopN {c : ACode} {S : Type} {Q : Exit → List AV → List AObj → Prop} {env : List AV} {h : List AObj} (ps : S → List Slot) (I : S → Prop) (μ : S → Nat) (s0 : S) (h0 : I s0) (k0 : Fits (ps s0) env env)
   (round : ∀ (s : S) (g : List AObj) (j : Nat → AV), I s → awx P G c (thenX (fun e' h' => ∃ s' g', I s' ∧ μ s' < μ s ∧ h' = h ++ g' ∧ Fits (ps s') env e') Q) (mkEnv j 0 (ps s) env) (h ++ g)) : awx P G (.loop c) Q env h :=
 x_loopG ps (fun _ => h) I μ s0 [] h0 (List.append_nil _).symm k0 round
end
section
variable {P : Program} {G : Glob} {X : Ctx} {w : World} {h : List AObj}
theorem sem_callF {f : FuncId} {A A' : List AV} {r : AV} (s : Ctr P G f A' r) (hA : A'.length = A.length) (hs : ∀ (j : Nat) (a a' : AV), A[j]? = some a → A'[j]? = some a' → a' = snap dep h a ∨ (a = .e0 ∧ a' = .e0)) (g : GH G X w h) {vs : Array Value} (hl : A.length = vs.size) (hr : ∀ (j : Nat) (a : AV) (v : Value), A[j]? = some a → vs[j]? = some v → RV X w h a v) :
   Calls P f vs w fun e w' => ∃ v X', e = .returned v ∧ GH G X' w' (mat r (freeze (A.flatMap (reach dep h)) h)).2 ∧ RV X' w' (mat r (freeze (A.flatMap (reach dep h)) h)).2 (mat r (freeze (A.flatMap (reach dep h)) h)).1 v ∧ Tr X w h X' w' (mat r (freeze (A.flatMap (reach dep h)) h)).2 := by
 obtain ⟨_, hG, s⟩ := s
 have hFc : ∀ b, FR X (A.flatMap (reach dep h)) b → b < w.heap.size := by
   rintro b (hb | ⟨id, _, o, ho⟩)
   · exact g.fbnd b hb
   · exact g.bnd _ _ _ ho
 refine (s (FR X (A.flatMap (reach dep h))) w vs hFc ?_ (hA.trans hl) ?_).mono ?_
 · intro k a hk
   exact (g.gl k a hk).pers (hG k a hk) (fun b hb => .inl hb) (fun _ _ => rfl)
 · intro j a v ha hv
   obtain ⟨x, hx⟩ : ∃ x, A[j]? = some x := ⟨_, List.getElem?_eq_getElem (by have := lt_of_some ha; omega)⟩
   rcases hs j x a hx ha with rfl | ⟨rfl, rfl⟩
   · refine (snap_ok g dep x v (hr j x v hx hv)).monoF (FR.mono ?_)
     intro i hi
     exact List.mem_flatMap.2 ⟨x, List.mem_of_getElem? hx, hi⟩
   · cases hr j _ v hx hv with
     | e0 ad => exact .e0 ad
     | dead hr _ _ => simp [AV.refs] at hr
 · rintro e w' ⟨v, F', bs, rfl, hgr, hF1, hF2, hF3, hRR, hnd, hbs⟩
   have close : ∀ (X1 : Ctx) (h1 : List AObj) (F1 : Nat → Prop), GH G X1 w' h1 → Tr X w h X1 w' h1 → X1.ι = X.ι → (∀ b, X1.F b → F' b) → RR F1 w' r v bs → (∀ b, F1 b → X1.F b) →
       ∃ v' X', Ending.returned v = .returned v' ∧ GH G X' w' (mat r h1).2 ∧ RV X' w' (mat r h1).2 (mat r h1).1 v' ∧ Tr X w h X' w' (mat r h1).2 := by
     intro X1 h1 F1 g1 t1 hι hX1 hRR1 hF11
     obtain ⟨X', M, R⟩ := mat_ok r v bs hRR1 X1 h1 g1 hF11 hnd (fun b hb => ⟨fun f => (hbs b hb).1 (hX1 b f), fun id o e => by
       rw [hι] at e
       have := g.bnd _ _ _ e
       have := (hbs b hb).2
       omega⟩)
     refine ⟨v, X', rfl, M.gh, R, ⟨⟨hgr.size, hgr.os, hgr.tape, hgr.output, fun b hb _ => hgr.old b hb, ?_, ?_⟩, t1.ext.trans M.ext, Abs.trans t1.ext t1.abs M.abs⟩⟩
     · intro id b o hb
       rcases M.ι id b o hb with h | h
       · rw [hι] at h; exact .inr ⟨id, o, h⟩
       · exact .inl (hbs b h).2
     · intro b hb
       rw [M.F] at hb
       exact t1.step.fnew b hb
   have ga := gh_after g hgr (A.flatMap (reach dep h)) F' (fun b hb => hF1 b (.inl hb)) (fun id hi b o ho => hF1 b (.inr ⟨id, hi, o, ho⟩)) (fun b hlt hb => by
     rcases hF2 b hb with h | h
     · exact h
     · omega) hF3 (fun id hi ob hob => by
       obtain ⟨x, hx, hi'⟩ := List.mem_flatMap.1 hi
       obtain ⟨ob', h1, h2⟩ := reach_fzable dep x id hi'
       rw [hob] at h1; cases h1; exact h2) (fun id hi hι z hz => by
       obtain ⟨x, hx, hi'⟩ := List.mem_flatMap.1 hi
       obtain ⟨j, hj⟩ := List.mem_iff_getElem?.1 hx
       have hjv : j < vs.size := hl ▸ lt_of_some hj
       exact reach_abs g dep x vs[j] (hr j x vs[j] hj (by simp [hjv])) id hi' hι z hz)
   exact close ⟨F', X.ι⟩ _ F' ga.1 ga.2 rfl (fun _ h => h) hRR (fun _ h => h)
end
theorem c_ctrF {P : Program} {G : Glob} {d : Option Nat} {os : List AOper} {K : List AV → List AObj → Prop} {env : List AV} {h : List AObj} {f : FuncId} {A A' : List AV} {r : AV} (s : Ctr P G f A' r) (hA : A.map (snap dep h) = A')
   (k : awops P G none os K (aput env d (mat r (freeze (A.flatMap (reach dep h)) h)).1) (mat r (freeze (A.flatMap (reach dep h)) h)).2) : callF P G none f A d os K env h := by
 subst hA
 exact ⟨s.1, fun X w vs g hl hr => (sem_callF s (by simp) (fun j a a' h1 h2 => by rw [List.getElem?_map, h1] at h2; simp at h2; exact .inl h2.symm) g hl hr).mono fun e w' ⟨v, X', h1, h2, h3, h4⟩ => ⟨v, _, _, X', h1, k, h2, h3, h4⟩⟩
def e0ok : AV → Bool
 | .e0 => true
 | a => pers a
def reachN (h : List AObj) (a : AV) : List Nat := reach dep h a
def hsQ (o : Option AObj) (id : Nat) (alt : List Nat) : List Nat :=
 match o with
 | some (.arr _ _ cells) => if cells.all e0ok then [id] else alt
 | _ => alt
def aggQ (cells : List AV) (alt : List Nat) : List Nat := if cells.all e0ok then [] else alt
theorem reach_e0ok {h : List AObj} {a : AV} {k : Nat} (e : e0ok a = true) : reach k h a = [] := by
 cases k with
 | zero => rfl
 | succ k =>
   rw [reach]
   by_cases hp : pers a = true
   · rw [if_pos hp]
   · rw [if_neg hp]
     cases a with
     | e0 => rfl
     | _ => exact absurd e hp
theorem reachs_e0ok {h : List AObj} {l : List AV} {k : Nat} (e : l.all e0ok = true) : l.flatMap (reach k h) = [] := by
 induction l with
 | nil => rfl
 | cons a l ih =>
   rw [List.all_cons, Bool.and_eq_true] at e
   rw [List.flatMap_cons, reach_e0ok e.1, ih e.2, List.append_nil]
theorem reach_hs {h : List AObj} {id off n : Nat} {t : Bool} : reach dep h (.hs id off n t) = hsQ h[id]? id (reachN h (.hs id off n t)) := by
 cases ho : h[id]? with
 | none => rfl
 | some o =>
   cases o with
   | arr fz sz cells =>
     simp only [hsQ]
     split
     · rename_i e
       have e2 : ((cells.drop off).take (n * sz)).all e0ok = true := List.all_eq_true.2 fun x hx => List.all_eq_true.1 e x (List.mem_of_mem_drop (List.mem_of_mem_take hx))
       rw [reach_dep]
       simp only [pers, Bool.false_eq_true, if_false, reachK, ho, reachs_e0ok e2, ite_self]
     · rfl
   | _ => rfl
theorem reach_agg {h : List AObj} {cells : List AV} : reach dep h (.agg cells) = aggQ cells (reachN h (.agg cells)) := by
 unfold aggQ
 split
 · rename_i e
   rw [reach_dep]
   by_cases hp : pers (.agg cells) = true
   · rw [if_pos hp]
   · rw [if_neg hp]
     simp only [reachK, reachs_e0ok e, ite_self]
 · rfl
attribute [go_sem ↓] reach_hs reach_agg
attribute [go_sem] hsQ aggQ e0ok List.all_cons List.all_nil
end Go.Vo

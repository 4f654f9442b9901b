/-
  TermOrdered: for any three terms the law's function returns true and leaves its arguments as they were (the card of the first form, 'TermOrderedCardSaid').
 Conditions: those of the given statement alone (the listed tables of the library hold what the program's text lays in them, as the card ties them).
-/
import Derived.Test.YtnjnjdebgkjfhaaGreatDoorSoP56
import Derived.Test.YtnjnjdebgkjfhaaGreatDoorVaP57
set_option maxRecDepth 100000
set_option linter.unusedSimpArgs false
set_option linter.unusedVariables false
set_option maxHeartbeats 4000000
namespace Go.Proofs.YtnjnjdebgkjfhaaGreatDoor.termOrdered
open Go Go.Vo Go.ChangeShapes Go.WideShapes Go.ChangeAt Go.RowKit
open Nat (reduceAdd reduceSub reduceMul reduceLeDiff reduceLT reduceEqDiff)
open Int (reduceNeg)

theorem contract (H : Type) (enc : TypeId × Value → H) (W : World) (base : Nat) (args : Array Value) (ds gs : List (DataW H)) (before : List MemPlace)
   (hval : ∀ (j : Nat) t v, Tryz.f8.params[j]? = some t → args[j]? = some v → Value.okWide Tryz.prog W .any base t v)
   (hW : DataW.Whole enc Tryz.prog Tryz.f8.params.toList Rows.termOrderedSpec.vars false W args.toList ds gs before)
   (hwt : (DataW.weightsEach Tryz.prog (Tryz.f8.params.toList ++ []) (ds ++ gs)).all (· ≤ reachBytes) = true) (hL : laidMet Tryz.prog theLaid W) :
   Calls Tryz.prog 8 args W fun e W' => ∃ v, e = .returned v ∧ Rows.termOrderedSpec.post enc Tryz.prog Tryz.f8 false true false false W args v W' := by
 have hW' := hW
 obtain ⟨p, q, hA0, hV, rfl, hfz, hnd⟩ := hW
 have hA : DataW.TrodAll enc Tryz.prog W 0 (fun _ => true) true Tryz.f8.params.toList args.toList ds p := hA0
 rw [Tryz.params8] at hA hval hwt
 obtain ⟨rfl, rfl⟩ := trodVars_none hV
 obtain ⟨v0, vs0, d0, ds0, p0, q0, hargs, rfl, rfl, h0, r0⟩ := trodAll_cons hA
 obtain ⟨rfl, rfl, rfl⟩ := trodAll_nil r0
 obtain rfl : args = #[v0] := by cases args; simp_all
 have hw0 : ∀ n ∈ d0.weights Tryz.prog 59, n ≤ reachBytes := fun n hn => by
   have := List.all_eq_true.1 hwt n (by simp [DataW.weightsEach, hn])
   simpa using this
 obtain ⟨s0, t0, u0, hs0, hr0⟩ := terms3_arg (hval 0 _ v0 rfl rfl) h0 hw0
 refine (ctr_calls (ctr322 s0 t0 u0 hs0.1 hs0.2.1 hs0.2.2) (gRel hL) rfl ?_).mono ?_
 · intro j a v ha hv
   match j with
   | 0 => simp at ha hv; subst ha; subst hv; exact hr0
   | j + 1 => simp at ha
 · rintro e W' ⟨rfl, hg⟩
   exact ⟨_, rfl, post_true laidOut (reads_params _ (by kernel_rfl)) (by kernel_rfl) Tryz.underlying4 rfl hW' rfl rfl rfl hg⟩
theorem witness_row (os : Os) {H : Type} (enc : TypeId × Value → H) :
   (OpenSpec.ofChange Rows.termOrderedSpec).preRow enc Tryz.prog Tryz.f8 Rows.termOrderedRow.domain false Rows.termOrderedRow.laid ((laidWorld os).forCall (fun _ _ => 0) ⟨#[], #[terms3V], []⟩).memory #[terms3V] := by
 have hw : (DataW.whole enc Tryz.prog ((laidWorld os).forCall (fun _ _ => 0) ⟨#[], #[terms3V], []⟩).memory Tryz.f8.params.toList Rows.termOrderedSpec.vars false #[terms3V].toList 8).map (fun x => (x.1, x.2.1)) =
     some ([terms3D], []) := by kernel_rfl
 obtain ⟨⟨x1, x2, x3⟩, hx, hx1⟩ := Option.map_eq_some_iff.1 hw
 simp only [Prod.mk.injEq] at hx1
 obtain ⟨rfl, rfl⟩ := hx1
 exact OpenSpec.preRow_of_cond 8 hx (by kernel_rfl) (fun k hk => by cases hk) (by kernel_rfl) (laid_met os _)
theorem lifted (os : Os) (started : os.Started) (H : Type) (enc : TypeId × Value → H) (F : Stop.Interp) :
   ReturnsInHanded {} Tryz.checked os 8 .any ((OpenSpec.ofChange Rows.termOrderedSpec).preRow enc Tryz.prog Tryz.f8 Rows.termOrderedRow.domain false Rows.termOrderedRow.laid) (((OpenSpec.ofChange Rows.termOrderedSpec).at F).post enc Tryz.prog Tryz.f8 false true false false) := by
 refine returnsInHanded_of_row (C := Tryz.checked) (s := OpenSpec.ofChange Rows.termOrderedSpec) own started (by kernel_rfl) Tryz.func8
   (witness_row_atRef (enc := enc) (C := Tryz.checked) false (laidWorld os) #[terms3V] rfl (by kernel_rfl) (by kernel_rfl) (by kernel_rfl) (witness_row os enc)) ?_
 intro W base args ds gs before hval hW _ _ hwt hL _ _
 exact contract H enc W base args ds gs before hval hW hwt hL
theorem k1 : laidOutB Tryz.pinned.checked.prog = true := by kernel_rfl
theorem k2 : mapsRowed Tryz.pinned.checked.prog = true := by kernel_rfl
theorem k3 : (Rows.termOrderedRow.inPlace == Tryz.pinned.checked.prog.inPlace 8) = true := by kernel_rfl
theorem k4 : (Rows.termOrderedRow.unfollowed == Tryz.pinned.checked.prog.unfollowed 8) = true := by kernel_rfl
theorem k5 : (Rows.termOrderedRow.recurses == Tryz.pinned.checked.prog.recurses 8) = true := by kernel_rfl
theorem k6 : (Rows.termOrderedRow.named == Tryz.pinned.checked.prog.varsNamed 8) = true := by kernel_rfl
theorem k7 : (Rows.termOrderedRow.plainKeys == Tryz.pinned.checked.prog.plainKeys) = true := by kernel_rfl
theorem k8 : Tryz.pinned.checked.prog.stopsHeard = true := by kernel_rfl
theorem k9 : Tryz.pinned.checked.prog.mayEnter = true := by kernel_rfl
theorem k10 : (Rows.termOrderedRow.lifted == Tryz.pinned.checked.prog.liftsFinal) = true := by kernel_rfl
theorem k11 : (Tryz.pinned.checked.prog.make == some Rows.termOrderedRow.make) = true := by kernel_rfl
theorem closed : joinedFacts Tryz.pinned.checked.prog 8 Tryz.f8 (OpenSpec.ofChange Rows.termOrderedSpec).bare Rows.termOrderedRow = true := by
 simp only [joinedFacts, k1, k2, k3, k4, k5, k6, k7, k8, k9, k10, k11]
 kernel_rfl
theorem said : Rows.TermOrderedSaid :=
 OpenClaim.holds_of_cond 8 Tryz.f8 rfl rfl rfl rfl rfl rfl rfl ⟨rfl, rfl, rfl, rfl, rfl⟩ rfl rfl rfl rfl rfl (by kernel_rfl) Tryz.func8 closed
   (of_decide_eq_true (by kernel_rfl)) (by unfold Func.isWrapper; first | (rw [if_pos (by decide +kernel)]; kernel_rfl) | (rw [if_neg (by decide +kernel)]; exact ⟨rfl, rfl⟩))
   (fun os started H enc _ F => by rw [OpenClaim.pre_eq_preRow]; exact lifted os started H enc F)
theorem plain (f : FuncId) (fn : Func) (hf : Tryz.pinned.checked.prog.funcNamed "voussoir/voussoirlaw02.TermOrdered" = some f) (hfn : Tryz.pinned.checked.prog.funcs[f]? = some fn) :
   false = Tryz.pinned.checked.prog.looks [] ∧ ∀ (j : Nat) t, fn.params[j]? = some t → Tryz.pinned.checked.prog.wantsStandIn t = false := by
 obtain rfl : f = 8 := Option.some.inj ((show Tryz.prog.funcNamed "voussoir/voussoirlaw02.TermOrdered" = some 8 by kernel_rfl).symm.trans hf) |>.symm
 obtain rfl : fn = Tryz.f8 := (Option.some.inj (Tryz.func8.symm.trans hfn)).symm
 refine ⟨by kernel_rfl, fun j t ht => ?_⟩
 have h := Array.mem_of_getElem? ht
 rw [Tryz.params8] at h
 have hw : ([59] : List Nat).all (fun t => !Tryz.prog.wantsStandIn t) = true := by kernel_rfl
 have h2 := List.all_eq_true.1 hw t (by simpa using h)
 exact (Bool.not_eq_true' _).mp h2
theorem holds : Rows.TermOrderedCardSaid :=
 Claim7.holds_tied_plain_at .later [] _ _ _ _ said (fun _ h => by cases h) (by kernel_rfl) (fun _ h => by cases h) termOrdered_row_tie rfl ⟨rfl, rfl⟩ (by kernel_rfl) rfl plain (by kernel_rfl)
end Go.Proofs.YtnjnjdebgkjfhaaGreatDoor.termOrdered

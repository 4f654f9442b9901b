/-
  What functions of the chapter return, as plain functions of what they are given; no condition beyond those that each theorem names.
-/
import Derived.Test.YtnjnjdebgkjfhaaGreatDoorVaP51
import Derived.Test.YtnjnjdebgkjfhaaGreatDoorSoP53
import Derived.Test.YtnjnjdebgkjfhaaGreatDoorSoP52
import Derived.Test.YtnjnjdebgkjfhaaGreatDoorVoP56
set_option maxRecDepth 100000
set_option linter.unusedSimpArgs false
set_option linter.unusedVariables false
set_option maxHeartbeats 4000000
namespace Go.Proofs.YtnjnjdebgkjfhaaGreatDoor
open Go Go.Vo Go.Shelf Go.RowKit
open Nat (reduceAdd reduceSub reduceMul reduceLeDiff reduceLT reduceEqDiff)
open Int (reduceNeg)

abbrev TW : TypeId := 139
abbrev TB : TypeId := 5
set_option maxHeartbeats 1000000 in
theorem copyP (b : Nat) (p v : Value) (w : World) (hb : w.heap[b]? = some (.cells #[p, v] TW (0, 0))) (hp : p = .pointer none ∨ p = selfP b) :
   Calls Tryz.prog 225 #[selfP b] w fun e w' => e = .returned (.tuple #[]) ∧ w'.heap[b]? = some (.cells #[selfP b, v] TW (0, 0)) ∧ w.grownBy w' (some b) ∧ w'.heap.size = w.heap.size ∧ Shp w w' := by
 have h0 : w.cell? ⟨b, 0, none⟩ = some p := by rw [Lib.cell_of_heap hb]; rfl
 have hsz : (Tryz.prog.info? 137).map (·.size) = some 2 := by kernel_rfl
 obtain ⟨j, hj, hjs⟩ := Option.map_eq_some_iff.1 hsz
 have mixed := mixed
 have t72 := Tryz.underlying137; have a72 := Tryz.isAgg137; have z72 := Tryz.sizeOf137; have v72 := Tryz.zeroValue137; have u72 := run_underlying t72
 have t70 := Tryz.underlying134; have a70 := Tryz.isAgg134; have z70 := Tryz.sizeOf134; have v70 := Tryz.zeroValue134; have u70 := run_underlying t70
 have t4 := Tryz.underlying4; have a4 := Tryz.isAgg4; have z4 := Tryz.sizeOf4; have v4 := Tryz.zeroValue4; have u4 := run_underlying t4
 have t164 := Tryz.underlying211; have a164 := Tryz.isAgg211; have z164 := Tryz.sizeOf211; have v164 := Tryz.zeroValue211; have u164 := run_underlying t164
 unfold selfP at *
 rcases hp with rfl | rfl
 · have hsh : w.shape? b = some (TW, 2) := by simp [World.shape?, hb]
   have hfz : w.frozen? ⟨b, 0, none⟩ = false := Lib.frozen_of_heap hb 0
   have hl : liesAt Tryz.prog Tryz.prog.depth TW (2 / Tryz.prog.cellsOf TW) 0 137 1 = true := by kernel_rfl
   have main : Calls Tryz.prog 225 #[.pointer (some ⟨b, 0, none⟩)] w fun e w' => e = .returned (.tuple #[]) ∧ w' = w.setCell ⟨b, 0, none⟩ (.pointer (some ⟨b, 0, none⟩)) := by
     go_enter Tryz.func225, Tryz.ntmps225
     go_wp2
     rw [Lib.run_to_unsafe w ⟨b, 0, none⟩ t70 t164 hj (by rw [hjs]; decide) hsh (Nat.zero_lt_succ 1)]
     simp only [Result.andThen]
     rw [Oper.upon_value]
     go_wp2
     rw [run_callFunc_extern Tryz.func237 (by kernel_rfl) (by kernel_rfl) (by kernel_rfl) (e := Extern.AbiNoEscape.same) (by kernel_rfl)]
     rw [Lib.run_noEscape]
     simp only [Result.andThen]
     rw [Oper.upon_value]
     go_wp2
     rw [Lib.run_from_unsafe w ⟨b, 0, none⟩ t164 t70 hj hsh hl]
     simp only [Result.andThen]
     rw [Oper.upon_value]
     go_wp2
     go_end0
     exact ⟨rfl, rfl⟩
   refine main.mono ?_
   rintro e w' ⟨rfl, rfl⟩
   refine ⟨rfl, ?_, ⟨rfl, rfl, rfl, by simp [World.setCell], fun k hk hne => ?_⟩, by simp [World.setCell], shp_setCell _ _ _⟩
   · simp [World.setCell, Array.getElem?_modify, hb]
   · exact Below.heap_setCell _ _ _ _ (fun e => hne (by simp [e]))
 · have main : Calls Tryz.prog 225 #[.pointer (some ⟨b, 0, none⟩)] w fun e w' => e = .returned (.tuple #[]) ∧ w' = w := by
     go_enter Tryz.func225, Tryz.ntmps225
     go_wp2
     rw [Lib.run_neq_ptr_same w _ t70 hj]
     go_wp2
     go_end0
     exact ⟨rfl, rfl⟩
   refine main.mono ?_
   rintro e w' ⟨rfl, rfl⟩
   exact ⟨rfl, hb, ⟨rfl, rfl, rfl, Nat.le_refl _, fun _ _ _ => rfl⟩, rfl, Shp.refl _⟩
def wren : Ren := ⟨fun | 166 => 195 | 240 => 225 | 169 => 137 | n => n, fun | 72 => 137 | 70 => 134 | 37 => 135 | 127 => 181 | 164 => 211 | 75 => 176 | n => n, fun n => n⟩
theorem wlay : WLay Tryz.prog wren TW := {
 mixed := mixed
 f166 := Tryz.func195.trans (congrArg some (by kernel_rfl))
 e240 := enters_of Tryz.func225 (by kernel_rfl) rfl
 copy := copyP
 t3 := Tryz.underlying3
 a3 := Tryz.isAgg3
 z3 := Tryz.sizeOf3
 v3 := Tryz.zeroValue3
 t4 := Tryz.underlying4
 a4 := Tryz.isAgg4
 z4 := Tryz.sizeOf4
 v4 := Tryz.zeroValue4
 t9 := Tryz.underlying9
 a9 := Tryz.isAgg9
 z9 := Tryz.sizeOf9
 v9 := Tryz.zeroValue9
 t37 := Tryz.underlying135
 a37 := Tryz.isAgg135
 z37 := Tryz.sizeOf135
 v37 := Tryz.zeroValue135
 t70 := Tryz.underlying134
 a70 := Tryz.isAgg134
 z70 := Tryz.sizeOf134
 v70 := Tryz.zeroValue134
 t72 := Tryz.underlying137
 a72 := Tryz.isAgg137
 z72 := Tryz.sizeOf137
 v72 := Tryz.zeroValue137 }
theorem bextra : Builder.Extra Tryz.prog wren := {
 sizeBuilder := by kernel_rfl
 liesBuilder := by kernel_rfl
 t5 := Tryz.underlying5
 a5 := Tryz.isAgg5
 z5 := Tryz.sizeOf5
 v5 := Tryz.zeroValue5
 infoByte := by kernel_rfl
 cellsByte := by kernel_rfl
 sizeByte := by kernel_rfl
 neB5 := by decide }
abbrev WrP (f : FuncId) (A : List AV) (r : AV) (acc acc' : Str) : Prop := Wr Tryz.prog G0 TW TB f A r acc acc'
theorem wrS {acc s : Str} (h : acc.length + s.length ≤ 140737488355328) : WrP 195 [.ptr 0 0, .s s] (.tup [.i .i64 s.length, .p .nilIface]) acc (acc ++ s) := fun v =>
 (acalls_write wlay bextra (by decide) (by kernel_rfl) h).mono fun r h' ⟨h1, v', h2⟩ => ⟨h1, v', [], h2⟩
theorem strS {acc : Str} {v : Value} : ACalls Tryz.prog G0 137 [.ptr 0 0] [bldB TW v, bldU TB v acc] (fun r h' => r = .s acc ∧ h' = [.dead, .dead]) :=
 acalls_string (T := TW) (ρ := Tryz.lays169_ren) Tryz.lays169 Tryz.Builder_Extra_169 (by decide) (by kernel_rfl)
end Go.Proofs.YtnjnjdebgkjfhaaGreatDoor

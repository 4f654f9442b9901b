/-
  What functions of the chapter return, as plain functions of what they are given; no condition beyond those that each theorem names.
-/
import Derived.Test.YtadileniakikeaaGreatDoorSoP1
import Derived.Test.YtadileniakikeaaGreatDoorVoP5
import Derived.Test.YtadileniakikeaaGreatDoorCards
import Derived.Test.YtadileniakikeaaGreatDoorTie
import Derived.Lib.LaidIn
import Derived.Lib.LaidU8
import Derived.Deep.DeepHandedRow
import Derived.Deep.DeepWitnessRowRef
set_option maxRecDepth 100000
set_option linter.unusedSimpArgs false
set_option linter.unusedVariables false
namespace Go.Proofs.YtadileniakikeaaGreatDoor
open Go Go.Vo

/-! ## what arguments read as -/
theorem flat_one {α : Type} {f : α → AV} {l : List α} : (l.flatMap fun a => [f a]) = l.map f := by
  induction l with
  | nil => rfl
  | cons x l ih => simp [ih]
section
variable {H : Type} {enc : TypeId × Value → H} {X : Ctx} {w : World} {h : List AObj} {sp : Nat → Bool} {hd : Bool}
theorem rdStr : Rd enc Tryz.prog X w h sp hd 9 (fun s : Str => [.s s]) (fun s => s.length ≤ 140737488355328) := rd_string Tryz.underlying9
theorem rdStrs (hF : ∀ b, b < w.heap.size → X.F b) : Rd enc Tryz.prog X w h sp hd 22 (fun l : List Str => [avs l]) (fun l => (∀ s ∈ l, s.length ≤ 140737488355328) ∧ l.length * 16 ≤ 140737488355328) :=
  (rd_slice hF Tryz.underlying22 (sz := 1) (by_ := 16) (by kernel_rfl) (by kernel_rfl) (by decide) (fun _ => rfl) rdStr).map id (fun l hq => ⟨hq, by rw [avs, ← flat_one]; rfl⟩)
theorem rdInts (hF : ∀ b, b < w.heap.size → X.F b) : Rd enc Tryz.prog X w h sp hd 31 (fun l : List Int => [avi l]) (fun l => l.length * 8 ≤ 140737488355328) :=
  (rd_slice hF Tryz.underlying31 (sz := 1) (by_ := 8) (by kernel_rfl) (by kernel_rfl) (by decide) (fun _ => rfl) (rd_int Tryz.underlying3)).map id (fun l hq => ⟨hq.2, by rw [avi, ← flat_one]; rfl⟩)
theorem rdPair {t : TypeId} {f0 f1 : Field} (ht : Tryz.prog.underlying t = some (.struct #[f0, f1])) (hN : Tryz.prog.cellsOf t = 2) (h0 : f0.type = 9) (h1 : f1.type = 9) (o0 : f0.offset = 0) (o1 : f1.offset = 1) :
    Rd enc Tryz.prog X w h sp hd t pairCells (fun b => b.1.length ≤ 140737488355328 ∧ b.2.length ≤ 140737488355328) := by
  have s0 : Tryz.prog.cellsOf f0.type = 1 := by rw [h0]; kernel_rfl
  have s1 : Tryz.prog.cellsOf f1.type = 1 := by rw [h1]; kernel_rfl
  have r0 : Rd enc Tryz.prog X w h sp hd f0.type (fun s : Str => [.s s]) (fun s => s.length ≤ 140737488355328) := by rw [h0]; exact rdStr
  have r1 : Rd enc Tryz.prog X w h sp hd f1.type (fun s : Str => [.s s]) (fun s => s.length ≤ 140737488355328) := by rw [h1]; exact rdStr
  exact (rd_struct ht hN (rdf_cons o0 s0 rfl (by decide) r0 (rdf_cons o1 s1 rfl (by decide) r1 (rdf_nil (by decide))))).map (fun p : Str × (Str × Unit) => (p.1, p.2.1)) (fun p hq => ⟨⟨hq.1, hq.2.1⟩, rfl⟩)
theorem rdPairs (hF : ∀ b, b < w.heap.size → X.F b) {t e : TypeId} (ht : Tryz.prog.underlying t = some (.slice e)) (hs : Tryz.prog.cellsOf e = 2) (hb : Tryz.prog.bytesOf e = 32) (he : Rd enc Tryz.prog X w h sp hd e pairCells (fun b => b.1.length ≤ 140737488355328 ∧ b.2.length ≤ 140737488355328)) :
    Rd enc Tryz.prog X w h sp hd t (fun l : List (Str × Str) => [avb l]) (fun l => (∀ b ∈ l, b.1.length ≤ 140737488355328 ∧ b.2.length ≤ 140737488355328) ∧ l.length * 32 ≤ 140737488355328) :=
  (rd_slice hF ht hs hb (by decide) pair_len he).map id (fun l hq => ⟨hq, rfl⟩)
theorem rdOp (hF : ∀ b, b < w.heap.size → X.F b) : Rd enc Tryz.prog X w h sp hd 33 opCells OkO := by
  have rp : Rd enc Tryz.prog X w h sp hd 29 (fun l : List (Str × Str) => [avb l]) (fun l => (∀ b ∈ l, b.1.length ≤ 140737488355328 ∧ b.2.length ≤ 140737488355328) ∧ l.length * 32 ≤ 140737488355328) :=
    rdPairs hF Tryz.underlying29 (by kernel_rfl) (by kernel_rfl) (rdPair Tryz.underlying75 (by kernel_rfl) rfl rfl rfl rfl)
  refine (rd_struct Tryz.underlying33 (N := 7) (by kernel_rfl) (rdf_cons rfl (sz := 1) (by kernel_rfl) rfl (by decide) rdStr (rdf_cons rfl (sz := 1) (by kernel_rfl) rfl (by decide) (rdStrs hF) (rdf_cons rfl (sz := 1) (by kernel_rfl) rfl (by decide) rdStr (rdf_cons rfl (sz := 1) (by kernel_rfl) rfl (by decide) rp
    (rdf_cons rfl (sz := 1) (by kernel_rfl) rfl (by decide) (rd_int Tryz.underlying3) (rdf_cons rfl (sz := 1) (by kernel_rfl) rfl (by decide) (rd_int Tryz.underlying30) (rdf_cons rfl (sz := 1) (by kernel_rfl) rfl (by decide) (rdInts hF) (rdf_nil (by decide)))))))))).map
    (fun p => LOp.mk p.1 p.2.1 p.2.2.1 p.2.2.2.1 p.2.2.2.2.1 p.2.2.2.2.2.1 p.2.2.2.2.2.2.1) (fun p hq => ⟨?_, rfl⟩)
  obtain ⟨q1, ⟨q2, q2b⟩, q3, ⟨q4, q4b⟩, q5, q6, q7, _⟩ := hq
  exact ⟨q1, by simp only; omega, q2, q3, by simp only; omega, q4, by simp only; omega, by simp only; omega, by simp only; omega, by simp only; omega⟩
theorem rdSig (hF : ∀ b, b < w.heap.size → X.F b) : Rd enc Tryz.prog X w h sp hd 26 sigCells OkS := by
  have rb : Rd enc Tryz.prog X w h sp hd 23 (fun l : List (Str × Str) => [avb l]) (fun l => (∀ b ∈ l, b.1.length ≤ 140737488355328 ∧ b.2.length ≤ 140737488355328) ∧ l.length * 32 ≤ 140737488355328) :=
    rdPairs hF Tryz.underlying23 (by kernel_rfl) (by kernel_rfl) (rdPair Tryz.underlying57 (by kernel_rfl) rfl rfl rfl rfl)
  have ro : Rd enc Tryz.prog X w h sp hd 24 (fun l : List LOp => [avo l]) (fun l => (∀ b ∈ l, OkO b) ∧ l.length * 120 ≤ 140737488355328) :=
    (rd_slice hF Tryz.underlying24 (sz := 7) (by_ := 120) (by kernel_rfl) (by kernel_rfl) (by decide) op_len (rdOp hF)).map id (fun l hq => ⟨hq, rfl⟩)
  refine (rd_struct Tryz.underlying26 (N := 5) (by kernel_rfl) (rdf_cons rfl (sz := 1) (by kernel_rfl) rfl (by decide) (rdStrs hF) (rdf_cons rfl (sz := 1) (by kernel_rfl) rfl (by decide) rb (rdf_cons rfl (sz := 1) (by kernel_rfl) rfl (by decide) ro (rdf_cons rfl (sz := 1) (by kernel_rfl) rfl (by decide) ro (rdf_cons rfl (sz := 1) (by kernel_rfl) rfl (by decide) (rdStrs hF) (rdf_nil (by decide)))))))).map
    (fun p => LSig.mk p.1 p.2.1 p.2.2.1 p.2.2.2.1 p.2.2.2.2.1) (fun p hq => ⟨?_, rfl⟩)
  obtain ⟨⟨q1, q1b⟩, ⟨q2, q2b⟩, ⟨q3, q3b⟩, ⟨q4, q4b⟩, ⟨q5, q5b⟩, _⟩ := hq
  exact ⟨by simp only; omega, q1, by simp only; omega, q2, by simp only; omega, q3, by simp only; omega, q4, by simp only; omega, by simp only; omega, by simp only; omega, q5⟩
end
end Go.Proofs.YtadileniakikeaaGreatDoor
set_option maxRecDepth 100000
set_option linter.unusedSimpArgs false
set_option linter.unusedVariables false
namespace Go.Proofs.YtadileniakikeaaGreatDoor
open Go Go.Vo Go.ChangeShapes Go.WideShapes Go.ChangeAt Go.RowKit

theorem own : ownKnob Tryz.prog.godebug = none := by kernel_rfl
theorem laidOut : laidOutB Tryz.prog = true := by kernel_rfl
/-- THE WITNESS: the settled world with two blocks more; the two variables hold what their initialisers lay. -/
noncomputable def laidWorld (os : Os) : World :=
  let N := (World.settled Tryz.prog os).heap.size
  let w0 := World.holding Tryz.prog os ⟨#[
    .cells #[.int .u16 9, .int .u16 13, .int .u16 1, .int .u16 32, .int .u16 133, .int .u16 101, .int .u16 160, .int .u16 5760, .int .u16 5600, .int .u16 8192, .int .u16 8202, .int .u16 1, .int .u16 8232, .int .u16 8233, .int .u16 1, .int .u16 8239, .int .u16 8287, .int .u16 48, .int .u16 12288, .int .u16 12288, .int .u16 1] 152,
    .cells #[.slice (some ⟨N, 0, none⟩) 7 7, .slice none 0 0, .int .i64 2] 149], #[], []⟩
  let put (h : Array Obj) (g : Nat) (cs : Array Value) : Array Obj := h.modify g fun
    | .cells _ t frozen => .cells cs t frozen
    | o => o
  let h1 := put w0.heap 0 (Lib.asciiSpaceTab.map fun z => Value.int .u8 z).toArray
  let h2 := put h1 1 #[.pointer (some ⟨N + 1, 0, none⟩)]
  { w0 with heap := h2 }
noncomputable abbrev N0 : Nat := (World.settled Tryz.prog default).heap.size
def theLaid : List (String × DataW Unit) := [("unicode.White_Space", Rows.laid_unicode_White_Space), ("strings.asciiSpace", Rows.laid_strings_asciiSpace)]
theorem laid_met (os : Os) (args : Array Value) : laidMet Tryz.prog theLaid ((laidWorld os).forCall (fun _ _ => 0) ⟨#[], args, []⟩).memory :=
  (LaidIn.of_run (l := theLaid) [0, 1, N0, N0 + 1] 8 (by kernel_rfl) (by kernel_rfl) (by kernel_rfl) (by kernel_rfl)).met
theorem ascii_data : Rows.laid_strings_asciiSpace (H := Unit) = Lib.tabData .u8 Lib.asciiSpaceTab := by kernel_rfl
theorem gTab : Tryz.prog.globalNamed "strings.asciiSpace" = some 0 := by kernel_rfl
theorem gTabType : (Tryz.prog.globals[0]?).map (·.type) = some 113 := by kernel_rfl
theorem table {W : World} (h : laidMet Tryz.prog theLaid W) : Lib.TabIs Tryz.prog W "strings.asciiSpace" .u8 Lib.asciiSpaceTab := by
  obtain ⟨g', t', cs, fuel, p, hg', ht', hvar, hd⟩ := Lib.laidMet.reads h (.tail _ (.head _))
  obtain rfl := Option.some.inj (gTab.symm.trans hg')
  obtain rfl := Option.some.inj (gTabType.symm.trans ht')
  rw [ascii_data] at hd
  unfold Lib.TabIs
  rw [hvar, ← Lib.cells_of_tab Tryz.underlying113 Tryz.underlying5 (by kernel_rfl) (by kernel_rfl) hd]
theorem gRel {W : World} (h : laidMet Tryz.prog theLaid W) : ∀ k a, G0 k = some a → RV (.none fun b => b < W.heap.size) W [] a (.pointer (some ⟨k, 0, Option.none⟩)) := by
  intro k a hk
  unfold G0 at hk
  split at hk
  · rename_i hk0
    subst hk0
    cases hk
    exact tab_box gTab (table h) (by decide)
  · cases hk
def sigV : Value := .agg #[.slice none 0 0, .slice none 0 0, .slice none 0 0, .slice none 0 0, .slice none 0 0]
def sigD {H : Type} : DataW H := .agg [.nil, .nil, .nil, .nil, .nil]
def strV : Value := .string ⟨#[]⟩
def strD {H : Type} : DataW H := .lit (.string [])
def twoV : Value := .agg #[.string ⟨#[]⟩, .string ⟨#[]⟩]
def twoD {H : Type} : DataW H := .agg [.lit (.string []), .lit (.string [])]
theorem okWide_sig {W : World} {base : Nat} {v : Value} (h : Value.okWide Tryz.prog W .any base 26 v) : ∃ cs, v = .agg cs := by
  unfold Value.okWide at h
  rw [Tryz.underlying26] at h
  obtain ⟨cs, rfl, _⟩ := h
  exact ⟨cs, rfl⟩
theorem reads_params (f : Func) (h : f.params.toList.all (fun t => Tryz.prog.readableRec t && decide (t < Tryz.prog.types.size)) = true) : ∀ t ∈ f.params.toList, Tryz.prog.readableRec t = true ∧ t < Tryz.prog.types.size := by
  intro t ht
  have := List.all_eq_true.1 h t ht
  simpa using this
/-- where the signature that an argument is reads -/
theorem sig_arg {H : Type} {enc : TypeId × Value → H} {W : World} {base : Nat} {v : Value} {d : DataW H} {p : List MemPlace} (hval : Value.okWide Tryz.prog W .any base 26 v) (h0 : DataW.Trod enc Tryz.prog W 0 (fun _ => true) true 26 v d p) (hw : ∀ n ∈ d.weights Tryz.prog 26, n ≤ reachBytes) :
    ∃ s, OkS s ∧ RV (.none fun b => b < W.heap.size) W [] (.agg (sigCells s)) v := arg_agg (okWide_sig hval) h0 hw (rdSig (fun _ h => h))
theorem str_arg {H : Type} {enc : TypeId × Value → H} {W : World} {base : Nat} {v : Value} {d : DataW H} {p : List MemPlace} (hval : Value.okWide Tryz.prog W .any base 9 v) (h0 : DataW.Trod enc Tryz.prog W 0 (fun _ => true) true 9 v d p) (hw : ∀ n ∈ d.weights Tryz.prog 9, n ≤ reachBytes) :
    ∃ s : Str, s.length ≤ 140737488355328 ∧ RV (.none fun b => b < W.heap.size) W [] (.s s) v := arg_string Tryz.underlying9 hval h0 hw
theorem okWide_two {W : World} {base : Nat} {v : Value} (h : Value.okWide Tryz.prog W .any base 51 v) : ∃ cs, v = .agg cs := by
  unfold Value.okWide at h
  rw [Tryz.underlying51] at h
  obtain ⟨cs, rfl, _⟩ := h
  exact ⟨cs, rfl⟩
theorem two_arg {H : Type} {enc : TypeId × Value → H} {W : World} {base : Nat} {v : Value} {d : DataW H} {p : List MemPlace} (hval : Value.okWide Tryz.prog W .any base 51 v) (h0 : DataW.Trod enc Tryz.prog W 0 (fun _ => true) true 51 v d p) (hw : ∀ n ∈ d.weights Tryz.prog 51, n ≤ reachBytes) :
    ∃ x y : Str, x.length ≤ 140737488355328 ∧ y.length ≤ 140737488355328 ∧ RV (.none fun b => b < W.heap.size) W [] (.agg [.s x, .s y]) v := by
  obtain ⟨l, ⟨hl, hq⟩, hr⟩ := arg_agg (X := .none fun b => b < W.heap.size) (h := []) (okWide_two hval) h0 hw (rd_array Tryz.underlying51 (sz := 1) (n := 2) (by kernel_rfl) (by kernel_rfl) (fun _ => rfl) rdStr)
  match l, hl with
  | [x, y], _ => exact ⟨x, y, hq x (by simp), hq y (by simp), hr⟩
end Go.Proofs.YtadileniakikeaaGreatDoor

/-
  NARROWER THAN 'FOR EVERY INPUT', by the rows' own cells (each row's printed sentence says how): SortsValid: laid · SortsFinds: laid · SortsOrdered: laid · SortsSets: laid · SortsRenamed: laid · SortsOrders: laid · SortsNames: laid.
  DERIVED. THE GIVEN ROWS OF THIS SEAT. 7 by the template 'for every input the law returns true; each argument reads behind the call as it read before'; 0 by the template 'total and deterministic' (their statements: YtadileniakikeaaGreatDoorTotals.lean).
  GIVEN WITH THE SEED: the statements are not yours to turn. If you find one false, say at which input.
  Laid BY PROGRAM, IN A SANDBOX (cutbox-rows.mjs): the forced cells as the released guide's own fill.sh prints them over the translation 798e28bc3cf75f41… (all of the seat's roots in one cut). By AI agents, Wed Nov 11 2026. No macro, syntax, notation, axiom, sorry.
-/
import Derived.Test.YtadileniakikeaaGreatDoorChecked
import GoSem.Claim
import GoSem.ClaimJoined
import GoSem.ClaimMapViews
import Derived.JoinedTies
import Derived.KernelRfl
namespace Go.Proofs.YtadileniakikeaaGreatDoor
/- THE CELL 'sum', in the pinned program and in every row, IS THE sha256 OF THE DUMP (.gsa) THAT YtadileniakikeaaGreatDoorProg.lean LOADS. Nothing in Lean hashes anything: it is a label: what it is worth is what the hold of that sum in a sandbox is worth. -/
noncomputable def Tryz.pinned : Pinned := { name := "ytadileniakikeaagreatdoor", sum := "798e28bc3cf75f41ee0ad3bf06188f3153fd98d5e5b450c931a654e87b0ee689", checked := Tryz.checked }
namespace Rows
def none {H : Type} : Left H := { results := [], args := [] }

/- WHAT THE LISTED PACKAGE-LEVEL VARIABLES READ AS WHEN THE CALL BEGINS. Each datum BY PROGRAM (the guide's laid-datum.mjs) off the statement by which the dump's own 'gosem.cut.vars' lays the variable. In a bare row this is a premise. The card (YtadileniakikeaaGreatDoorCards.lean) ties it to the program's text. -/
def laid_unicode_White_Space {H : Type} : DataW H := .ptr (.agg [.slice [.agg [.lit (.int .u16 9), .lit (.int .u16 13), .lit (.int .u16 1)], .agg [.lit (.int .u16 32), .lit (.int .u16 133), .lit (.int .u16 101)], .agg [.lit (.int .u16 160), .lit (.int .u16 5760), .lit (.int .u16 5600)], .agg [.lit (.int .u16 8192), .lit (.int .u16 8202), .lit (.int .u16 1)], .agg [.lit (.int .u16 8232), .lit (.int .u16 8233), .lit (.int .u16 1)], .agg [.lit (.int .u16 8239), .lit (.int .u16 8287), .lit (.int .u16 48)], .agg [.lit (.int .u16 12288), .lit (.int .u16 12288), .lit (.int .u16 1)]] [], .nil, .lit (.int .i64 2)])
def laid_strings_asciiSpace {H : Type} : DataW H := .agg [.lit (.int .u8 0), .lit (.int .u8 0), .lit (.int .u8 0), .lit (.int .u8 0), .lit (.int .u8 0), .lit (.int .u8 0), .lit (.int .u8 0), .lit (.int .u8 0), .lit (.int .u8 0), .lit (.int .u8 1), .lit (.int .u8 1), .lit (.int .u8 1), .lit (.int .u8 1), .lit (.int .u8 1), .lit (.int .u8 0), .lit (.int .u8 0), .lit (.int .u8 0), .lit (.int .u8 0), .lit (.int .u8 0), .lit (.int .u8 0), .lit (.int .u8 0), .lit (.int .u8 0), .lit (.int .u8 0), .lit (.int .u8 0), .lit (.int .u8 0), .lit (.int .u8 0), .lit (.int .u8 0), .lit (.int .u8 0), .lit (.int .u8 0), .lit (.int .u8 0), .lit (.int .u8 0), .lit (.int .u8 0), .lit (.int .u8 1), .lit (.int .u8 0), .lit (.int .u8 0), .lit (.int .u8 0), .lit (.int .u8 0), .lit (.int .u8 0), .lit (.int .u8 0), .lit (.int .u8 0), .lit (.int .u8 0), .lit (.int .u8 0), .lit (.int .u8 0), .lit (.int .u8 0), .lit (.int .u8 0), .lit (.int .u8 0), .lit (.int .u8 0), .lit (.int .u8 0), .lit (.int .u8 0), .lit (.int .u8 0), .lit (.int .u8 0), .lit (.int .u8 0), .lit (.int .u8 0), .lit (.int .u8 0), .lit (.int .u8 0), .lit (.int .u8 0), .lit (.int .u8 0), .lit (.int .u8 0), .lit (.int .u8 0), .lit (.int .u8 0), .lit (.int .u8 0), .lit (.int .u8 0), .lit (.int .u8 0), .lit (.int .u8 0), .lit (.int .u8 0), .lit (.int .u8 0), .lit (.int .u8 0), .lit (.int .u8 0), .lit (.int .u8 0), .lit (.int .u8 0), .lit (.int .u8 0), .lit (.int .u8 0), .lit (.int .u8 0), .lit (.int .u8 0), .lit (.int .u8 0), .lit (.int .u8 0), .lit (.int .u8 0), .lit (.int .u8 0), .lit (.int .u8 0), .lit (.int .u8 0), .lit (.int .u8 0), .lit (.int .u8 0), .lit (.int .u8 0), .lit (.int .u8 0), .lit (.int .u8 0), .lit (.int .u8 0), .lit (.int .u8 0), .lit (.int .u8 0), .lit (.int .u8 0), .lit (.int .u8 0), .lit (.int .u8 0), .lit (.int .u8 0), .lit (.int .u8 0), .lit (.int .u8 0), .lit (.int .u8 0), .lit (.int .u8 0), .lit (.int .u8 0), .lit (.int .u8 0), .lit (.int .u8 0), .lit (.int .u8 0), .lit (.int .u8 0), .lit (.int .u8 0), .lit (.int .u8 0), .lit (.int .u8 0), .lit (.int .u8 0), .lit (.int .u8 0), .lit (.int .u8 0), .lit (.int .u8 0), .lit (.int .u8 0), .lit (.int .u8 0), .lit (.int .u8 0), .lit (.int .u8 0), .lit (.int .u8 0), .lit (.int .u8 0), .lit (.int .u8 0), .lit (.int .u8 0), .lit (.int .u8 0), .lit (.int .u8 0), .lit (.int .u8 0), .lit (.int .u8 0), .lit (.int .u8 0), .lit (.int .u8 0), .lit (.int .u8 0), .lit (.int .u8 0), .lit (.int .u8 0), .lit (.int .u8 0), .lit (.int .u8 0), .lit (.int .u8 0), .lit (.int .u8 0), .lit (.int .u8 0), .lit (.int .u8 0), .lit (.int .u8 0), .lit (.int .u8 0), .lit (.int .u8 0), .lit (.int .u8 0), .lit (.int .u8 0), .lit (.int .u8 0), .lit (.int .u8 0), .lit (.int .u8 0), .lit (.int .u8 0), .lit (.int .u8 0), .lit (.int .u8 0), .lit (.int .u8 0), .lit (.int .u8 0), .lit (.int .u8 0), .lit (.int .u8 0), .lit (.int .u8 0), .lit (.int .u8 0), .lit (.int .u8 0), .lit (.int .u8 0), .lit (.int .u8 0), .lit (.int .u8 0), .lit (.int .u8 0), .lit (.int .u8 0), .lit (.int .u8 0), .lit (.int .u8 0), .lit (.int .u8 0), .lit (.int .u8 0), .lit (.int .u8 0), .lit (.int .u8 0), .lit (.int .u8 0), .lit (.int .u8 0), .lit (.int .u8 0), .lit (.int .u8 0), .lit (.int .u8 0), .lit (.int .u8 0), .lit (.int .u8 0), .lit (.int .u8 0), .lit (.int .u8 0), .lit (.int .u8 0), .lit (.int .u8 0), .lit (.int .u8 0), .lit (.int .u8 0), .lit (.int .u8 0), .lit (.int .u8 0), .lit (.int .u8 0), .lit (.int .u8 0), .lit (.int .u8 0), .lit (.int .u8 0), .lit (.int .u8 0), .lit (.int .u8 0), .lit (.int .u8 0), .lit (.int .u8 0), .lit (.int .u8 0), .lit (.int .u8 0), .lit (.int .u8 0), .lit (.int .u8 0), .lit (.int .u8 0), .lit (.int .u8 0), .lit (.int .u8 0), .lit (.int .u8 0), .lit (.int .u8 0), .lit (.int .u8 0), .lit (.int .u8 0), .lit (.int .u8 0), .lit (.int .u8 0), .lit (.int .u8 0), .lit (.int .u8 0), .lit (.int .u8 0), .lit (.int .u8 0), .lit (.int .u8 0), .lit (.int .u8 0), .lit (.int .u8 0), .lit (.int .u8 0), .lit (.int .u8 0), .lit (.int .u8 0), .lit (.int .u8 0), .lit (.int .u8 0), .lit (.int .u8 0), .lit (.int .u8 0), .lit (.int .u8 0), .lit (.int .u8 0), .lit (.int .u8 0), .lit (.int .u8 0), .lit (.int .u8 0), .lit (.int .u8 0), .lit (.int .u8 0), .lit (.int .u8 0), .lit (.int .u8 0), .lit (.int .u8 0), .lit (.int .u8 0), .lit (.int .u8 0), .lit (.int .u8 0), .lit (.int .u8 0), .lit (.int .u8 0), .lit (.int .u8 0), .lit (.int .u8 0), .lit (.int .u8 0), .lit (.int .u8 0), .lit (.int .u8 0), .lit (.int .u8 0), .lit (.int .u8 0), .lit (.int .u8 0), .lit (.int .u8 0), .lit (.int .u8 0), .lit (.int .u8 0), .lit (.int .u8 0), .lit (.int .u8 0), .lit (.int .u8 0), .lit (.int .u8 0), .lit (.int .u8 0), .lit (.int .u8 0), .lit (.int .u8 0), .lit (.int .u8 0), .lit (.int .u8 0), .lit (.int .u8 0), .lit (.int .u8 0), .lit (.int .u8 0), .lit (.int .u8 0), .lit (.int .u8 0), .lit (.int .u8 0), .lit (.int .u8 0), .lit (.int .u8 0), .lit (.int .u8 0), .lit (.int .u8 0), .lit (.int .u8 0)]

/-- 'voussoirlaw01.SortsValid': WHATEVER THE INPUT: true; the input reads as it did. -/
def sortsValidSpec : ChangeSpec := { name := "sortsValid", fn := fun _ => fun
  | [d] => { results := [.lit (.bool true)], args := [d] }
  | _ => none }
def sortsValidRow : OpenClaim := { program := "ytadileniakikeaagreatdoor", sum := "798e28bc3cf75f41ee0ad3bf06188f3153fd98d5e5b450c931a654e87b0ee689", func := "voussoir/voussoirlaw01.SortsValid", spec := "sortsValid", inPlace := ["internal/bytealg.IndexByteString"], unfollowed := true, recurses := true, named := ["strings.asciiSpace", "unicode.White_Space"], plainKeys := false, apart := false, laid := [("unicode.White_Space", laid_unicode_White_Space), ("strings.asciiSpace", laid_strings_asciiSpace)] }
def SortsValidSaid : Prop := sortsValidRow.holds Tryz.pinned (OpenSpec.ofChange sortsValidSpec)

/-- ITS FALSE NEIGHBOUR: 'it returns false'. Refute it at one input. -/
def sortsValidWrong : ChangeSpec := { name := "sortsValid", fn := fun _ => fun
  | [d] => { results := [.lit (.bool false)], args := [d] }
  | _ => none }
def SortsValidWrongFalsely : Prop := sortsValidRow.holds Tryz.pinned (OpenSpec.ofChange sortsValidWrong)

/-- 'voussoirlaw01.SortsFinds': WHATEVER THE INPUT: true; the input reads as it did. -/
def sortsFindsSpec : ChangeSpec := { name := "sortsFinds", fn := fun _ => fun
  | [d1, d2] => { results := [.lit (.bool true)], args := [d1, d2] }
  | _ => none }
def sortsFindsRow : OpenClaim := { program := "ytadileniakikeaagreatdoor", sum := "798e28bc3cf75f41ee0ad3bf06188f3153fd98d5e5b450c931a654e87b0ee689", func := "voussoir/voussoirlaw01.SortsFinds", spec := "sortsFinds", inPlace := ["internal/bytealg.IndexByteString"], unfollowed := true, recurses := true, named := ["strings.asciiSpace", "unicode.White_Space"], plainKeys := false, apart := false, laid := [("unicode.White_Space", laid_unicode_White_Space), ("strings.asciiSpace", laid_strings_asciiSpace)] }
def SortsFindsSaid : Prop := sortsFindsRow.holds Tryz.pinned (OpenSpec.ofChange sortsFindsSpec)

/-- ITS FALSE NEIGHBOUR: 'it returns false'. Refute it at one input. -/
def sortsFindsWrong : ChangeSpec := { name := "sortsFinds", fn := fun _ => fun
  | [d1, d2] => { results := [.lit (.bool false)], args := [d1, d2] }
  | _ => none }
def SortsFindsWrongFalsely : Prop := sortsFindsRow.holds Tryz.pinned (OpenSpec.ofChange sortsFindsWrong)

/-- 'voussoirlaw01.SortsOrdered': WHATEVER THE INPUT: true; the input reads as it did. -/
def sortsOrderedSpec : ChangeSpec := { name := "sortsOrdered", fn := fun _ => fun
  | [d] => { results := [.lit (.bool true)], args := [d] }
  | _ => none }
def sortsOrderedRow : OpenClaim := { program := "ytadileniakikeaagreatdoor", sum := "798e28bc3cf75f41ee0ad3bf06188f3153fd98d5e5b450c931a654e87b0ee689", func := "voussoir/voussoirlaw01.SortsOrdered", spec := "sortsOrdered", inPlace := ["internal/bytealg.IndexByteString"], unfollowed := true, recurses := true, named := ["strings.asciiSpace", "unicode.White_Space"], plainKeys := false, apart := false, laid := [("unicode.White_Space", laid_unicode_White_Space), ("strings.asciiSpace", laid_strings_asciiSpace)] }
def SortsOrderedSaid : Prop := sortsOrderedRow.holds Tryz.pinned (OpenSpec.ofChange sortsOrderedSpec)

/-- ITS FALSE NEIGHBOUR: 'it returns false'. Refute it at one input. -/
def sortsOrderedWrong : ChangeSpec := { name := "sortsOrdered", fn := fun _ => fun
  | [d] => { results := [.lit (.bool false)], args := [d] }
  | _ => none }
def SortsOrderedWrongFalsely : Prop := sortsOrderedRow.holds Tryz.pinned (OpenSpec.ofChange sortsOrderedWrong)

/-- 'voussoirlaw01.SortsSets': WHATEVER THE INPUT: true; the input reads as it did. -/
def sortsSetsSpec : ChangeSpec := { name := "sortsSets", fn := fun _ => fun
  | [d1, d2] => { results := [.lit (.bool true)], args := [d1, d2] }
  | _ => none }
def sortsSetsRow : OpenClaim := { program := "ytadileniakikeaagreatdoor", sum := "798e28bc3cf75f41ee0ad3bf06188f3153fd98d5e5b450c931a654e87b0ee689", func := "voussoir/voussoirlaw01.SortsSets", spec := "sortsSets", inPlace := ["internal/bytealg.IndexByteString"], unfollowed := true, recurses := true, named := ["strings.asciiSpace", "unicode.White_Space"], plainKeys := false, apart := false, laid := [("unicode.White_Space", laid_unicode_White_Space), ("strings.asciiSpace", laid_strings_asciiSpace)] }
def SortsSetsSaid : Prop := sortsSetsRow.holds Tryz.pinned (OpenSpec.ofChange sortsSetsSpec)

/-- ITS FALSE NEIGHBOUR: 'it returns false'. Refute it at one input. -/
def sortsSetsWrong : ChangeSpec := { name := "sortsSets", fn := fun _ => fun
  | [d1, d2] => { results := [.lit (.bool false)], args := [d1, d2] }
  | _ => none }
def SortsSetsWrongFalsely : Prop := sortsSetsRow.holds Tryz.pinned (OpenSpec.ofChange sortsSetsWrong)

/-- 'voussoirlaw01.SortsRenamed': WHATEVER THE INPUT: true; the input reads as it did. -/
def sortsRenamedSpec : ChangeSpec := { name := "sortsRenamed", fn := fun _ => fun
  | [d1, d2, d3] => { results := [.lit (.bool true)], args := [d1, d2, d3] }
  | _ => none }
def sortsRenamedRow : OpenClaim := { program := "ytadileniakikeaagreatdoor", sum := "798e28bc3cf75f41ee0ad3bf06188f3153fd98d5e5b450c931a654e87b0ee689", func := "voussoir/voussoirlaw01.SortsRenamed", spec := "sortsRenamed", inPlace := ["internal/bytealg.IndexByteString"], unfollowed := true, recurses := true, named := ["strings.asciiSpace", "unicode.White_Space"], plainKeys := false, apart := false, laid := [("unicode.White_Space", laid_unicode_White_Space), ("strings.asciiSpace", laid_strings_asciiSpace)] }
def SortsRenamedSaid : Prop := sortsRenamedRow.holds Tryz.pinned (OpenSpec.ofChange sortsRenamedSpec)

/-- ITS FALSE NEIGHBOUR: 'it returns false'. Refute it at one input. -/
def sortsRenamedWrong : ChangeSpec := { name := "sortsRenamed", fn := fun _ => fun
  | [d1, d2, d3] => { results := [.lit (.bool false)], args := [d1, d2, d3] }
  | _ => none }
def SortsRenamedWrongFalsely : Prop := sortsRenamedRow.holds Tryz.pinned (OpenSpec.ofChange sortsRenamedWrong)

/-- 'voussoirlaw01.SortsOrders': WHATEVER THE INPUT: true; the input reads as it did. -/
def sortsOrdersSpec : ChangeSpec := { name := "sortsOrders", fn := fun _ => fun
  | [d1, d2, d3] => { results := [.lit (.bool true)], args := [d1, d2, d3] }
  | _ => none }
def sortsOrdersRow : OpenClaim := { program := "ytadileniakikeaagreatdoor", sum := "798e28bc3cf75f41ee0ad3bf06188f3153fd98d5e5b450c931a654e87b0ee689", func := "voussoir/voussoirlaw01.SortsOrders", spec := "sortsOrders", inPlace := ["internal/bytealg.IndexByteString"], unfollowed := true, recurses := true, named := ["strings.asciiSpace", "unicode.White_Space"], plainKeys := false, apart := false, laid := [("unicode.White_Space", laid_unicode_White_Space), ("strings.asciiSpace", laid_strings_asciiSpace)] }
def SortsOrdersSaid : Prop := sortsOrdersRow.holds Tryz.pinned (OpenSpec.ofChange sortsOrdersSpec)

/-- ITS FALSE NEIGHBOUR: 'it returns false'. Refute it at one input. -/
def sortsOrdersWrong : ChangeSpec := { name := "sortsOrders", fn := fun _ => fun
  | [d1, d2, d3] => { results := [.lit (.bool false)], args := [d1, d2, d3] }
  | _ => none }
def SortsOrdersWrongFalsely : Prop := sortsOrdersRow.holds Tryz.pinned (OpenSpec.ofChange sortsOrdersWrong)

/-- 'voussoirlaw01.SortsNames': WHATEVER THE INPUT: true; the input reads as it did. -/
def sortsNamesSpec : ChangeSpec := { name := "sortsNames", fn := fun _ => fun
  | [d1, d2, d3] => { results := [.lit (.bool true)], args := [d1, d2, d3] }
  | _ => none }
def sortsNamesRow : OpenClaim := { program := "ytadileniakikeaagreatdoor", sum := "798e28bc3cf75f41ee0ad3bf06188f3153fd98d5e5b450c931a654e87b0ee689", func := "voussoir/voussoirlaw01.SortsNames", spec := "sortsNames", inPlace := ["internal/bytealg.IndexByteString"], unfollowed := true, recurses := true, named := ["strings.asciiSpace", "unicode.White_Space"], plainKeys := false, apart := false, laid := [("unicode.White_Space", laid_unicode_White_Space), ("strings.asciiSpace", laid_strings_asciiSpace)] }
def SortsNamesSaid : Prop := sortsNamesRow.holds Tryz.pinned (OpenSpec.ofChange sortsNamesSpec)

/-- ITS FALSE NEIGHBOUR: 'it returns false'. Refute it at one input. -/
def sortsNamesWrong : ChangeSpec := { name := "sortsNames", fn := fun _ => fun
  | [d1, d2, d3] => { results := [.lit (.bool false)], args := [d1, d2, d3] }
  | _ => none }
def SortsNamesWrongFalsely : Prop := sortsNamesRow.holds Tryz.pinned (OpenSpec.ofChange sortsNamesWrong)

/- THE SECOND FORM. 'bulk': how many values and letters a reading holds, each counted each time it is reached (what is shared counts as often as it is met; a slice's spare places count too). A statement '..UptoSaid' is the law's where the arguments, and the package variables that the reading takes, are together of bulk at most 1048576: NARROWER than '..Said'. Prove '..Said' where nothing that the law and all that it calls make is longer than what came in: it says more and counts as full. Else prove '..UptoSaid'. A law counts once. -/
mutual
def uptoBulk {H : Type} : DataW H → Nat
  | .lit (.string bytes) => bytes.length + 1
  | .lit _ => 1
  | .nil => 1
  | .ptr d => uptoBulk d + 1
  | .slice elems spare => uptoBulkAll elems + uptoBulkAll spare + 1
  | .agg parts => uptoBulkAll parts + 1
  | .iface _ d => uptoBulk d + 1
  | .map entries => uptoBulkEntries entries + 1
  | .held _ => 1
def uptoBulkAll {H : Type} : List (DataW H) → Nat
  | [] => 0
  | d :: r => uptoBulk d + uptoBulkAll r
def uptoBulkEntries {H : Type} : List (Lit × DataW H) → Nat
  | [] => 0
  | x :: r => uptoBulkEntry x + uptoBulkEntries r
def uptoBulkEntry {H : Type} : Lit × DataW H → Nat
  | (.string bytes, d) => bytes.length + uptoBulk d + 1
  | (_, d) => uptoBulk d + 1
 end
def uptoSmall : (H : Type) → List (DataW H) → Bool := fun _ ds => decide (uptoBulkAll ds ≤ 1048576)
def OpenSpec.upto (s : _root_.Go.ChangeSpec) : _root_.Go.OpenSpec := { _root_.Go.OpenSpec.ofChange s with cond := some uptoSmall }

/-- 'voussoirlaw01.SortsValid', WHERE WHAT IT READS IS OF BULK AT MOST 1048576: true; the input reads as it did. -/
def sortsValidUptoRow : OpenClaim := { program := "ytadileniakikeaagreatdoor", sum := "798e28bc3cf75f41ee0ad3bf06188f3153fd98d5e5b450c931a654e87b0ee689", func := "voussoir/voussoirlaw01.SortsValid", spec := "sortsValid", inPlace := ["internal/bytealg.IndexByteString"], unfollowed := true, recurses := true, named := ["strings.asciiSpace", "unicode.White_Space"], plainKeys := false, apart := false, laid := [("unicode.White_Space", laid_unicode_White_Space), ("strings.asciiSpace", laid_strings_asciiSpace)], narrowed := true }
def SortsValidUptoSaid : Prop := sortsValidUptoRow.holds Tryz.pinned (OpenSpec.upto sortsValidSpec)

/-- 'voussoirlaw01.SortsFinds', WHERE WHAT IT READS IS OF BULK AT MOST 1048576: true; the input reads as it did. -/
def sortsFindsUptoRow : OpenClaim := { program := "ytadileniakikeaagreatdoor", sum := "798e28bc3cf75f41ee0ad3bf06188f3153fd98d5e5b450c931a654e87b0ee689", func := "voussoir/voussoirlaw01.SortsFinds", spec := "sortsFinds", inPlace := ["internal/bytealg.IndexByteString"], unfollowed := true, recurses := true, named := ["strings.asciiSpace", "unicode.White_Space"], plainKeys := false, apart := false, laid := [("unicode.White_Space", laid_unicode_White_Space), ("strings.asciiSpace", laid_strings_asciiSpace)], narrowed := true }
def SortsFindsUptoSaid : Prop := sortsFindsUptoRow.holds Tryz.pinned (OpenSpec.upto sortsFindsSpec)

/-- 'voussoirlaw01.SortsOrdered', WHERE WHAT IT READS IS OF BULK AT MOST 1048576: true; the input reads as it did. -/
def sortsOrderedUptoRow : OpenClaim := { program := "ytadileniakikeaagreatdoor", sum := "798e28bc3cf75f41ee0ad3bf06188f3153fd98d5e5b450c931a654e87b0ee689", func := "voussoir/voussoirlaw01.SortsOrdered", spec := "sortsOrdered", inPlace := ["internal/bytealg.IndexByteString"], unfollowed := true, recurses := true, named := ["strings.asciiSpace", "unicode.White_Space"], plainKeys := false, apart := false, laid := [("unicode.White_Space", laid_unicode_White_Space), ("strings.asciiSpace", laid_strings_asciiSpace)], narrowed := true }
def SortsOrderedUptoSaid : Prop := sortsOrderedUptoRow.holds Tryz.pinned (OpenSpec.upto sortsOrderedSpec)

/-- 'voussoirlaw01.SortsSets', WHERE WHAT IT READS IS OF BULK AT MOST 1048576: true; the input reads as it did. -/
def sortsSetsUptoRow : OpenClaim := { program := "ytadileniakikeaagreatdoor", sum := "798e28bc3cf75f41ee0ad3bf06188f3153fd98d5e5b450c931a654e87b0ee689", func := "voussoir/voussoirlaw01.SortsSets", spec := "sortsSets", inPlace := ["internal/bytealg.IndexByteString"], unfollowed := true, recurses := true, named := ["strings.asciiSpace", "unicode.White_Space"], plainKeys := false, apart := false, laid := [("unicode.White_Space", laid_unicode_White_Space), ("strings.asciiSpace", laid_strings_asciiSpace)], narrowed := true }
def SortsSetsUptoSaid : Prop := sortsSetsUptoRow.holds Tryz.pinned (OpenSpec.upto sortsSetsSpec)

/-- 'voussoirlaw01.SortsRenamed', WHERE WHAT IT READS IS OF BULK AT MOST 1048576: true; the input reads as it did. -/
def sortsRenamedUptoRow : OpenClaim := { program := "ytadileniakikeaagreatdoor", sum := "798e28bc3cf75f41ee0ad3bf06188f3153fd98d5e5b450c931a654e87b0ee689", func := "voussoir/voussoirlaw01.SortsRenamed", spec := "sortsRenamed", inPlace := ["internal/bytealg.IndexByteString"], unfollowed := true, recurses := true, named := ["strings.asciiSpace", "unicode.White_Space"], plainKeys := false, apart := false, laid := [("unicode.White_Space", laid_unicode_White_Space), ("strings.asciiSpace", laid_strings_asciiSpace)], narrowed := true }
def SortsRenamedUptoSaid : Prop := sortsRenamedUptoRow.holds Tryz.pinned (OpenSpec.upto sortsRenamedSpec)

/-- 'voussoirlaw01.SortsOrders', WHERE WHAT IT READS IS OF BULK AT MOST 1048576: true; the input reads as it did. -/
def sortsOrdersUptoRow : OpenClaim := { program := "ytadileniakikeaagreatdoor", sum := "798e28bc3cf75f41ee0ad3bf06188f3153fd98d5e5b450c931a654e87b0ee689", func := "voussoir/voussoirlaw01.SortsOrders", spec := "sortsOrders", inPlace := ["internal/bytealg.IndexByteString"], unfollowed := true, recurses := true, named := ["strings.asciiSpace", "unicode.White_Space"], plainKeys := false, apart := false, laid := [("unicode.White_Space", laid_unicode_White_Space), ("strings.asciiSpace", laid_strings_asciiSpace)], narrowed := true }
def SortsOrdersUptoSaid : Prop := sortsOrdersUptoRow.holds Tryz.pinned (OpenSpec.upto sortsOrdersSpec)

/-- 'voussoirlaw01.SortsNames', WHERE WHAT IT READS IS OF BULK AT MOST 1048576: true; the input reads as it did. -/
def sortsNamesUptoRow : OpenClaim := { program := "ytadileniakikeaagreatdoor", sum := "798e28bc3cf75f41ee0ad3bf06188f3153fd98d5e5b450c931a654e87b0ee689", func := "voussoir/voussoirlaw01.SortsNames", spec := "sortsNames", inPlace := ["internal/bytealg.IndexByteString"], unfollowed := true, recurses := true, named := ["strings.asciiSpace", "unicode.White_Space"], plainKeys := false, apart := false, laid := [("unicode.White_Space", laid_unicode_White_Space), ("strings.asciiSpace", laid_strings_asciiSpace)], narrowed := true }
def SortsNamesUptoSaid : Prop := sortsNamesUptoRow.holds Tryz.pinned (OpenSpec.upto sortsNamesSpec)

end Rows
end Go.Proofs.YtadileniakikeaaGreatDoor

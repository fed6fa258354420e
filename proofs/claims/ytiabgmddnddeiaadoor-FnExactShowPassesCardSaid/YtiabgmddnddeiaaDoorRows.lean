/-
  NARROWER THAN 'FOR EVERY INPUT', by the rows' own cells (each row's printed sentence says how): FnNormer: laid · FnShift: laid · FnExactSentenceCuts: laid · FnExactShowPasses: laid · FnChars: laid · FnStable: laid · FnJoinNormal: laid · FnQuick: laid · FnFolded: laid · FnExactWriteOver: laid · FnExactComesBack: laid.
  DERIVED. THE GIVEN ROWS OF THIS SEAT. 11 by the template 'for every input the law returns true; each argument reads behind the call as it read before'; 0 by the template 'total and deterministic' (their statements: YtiabgmddnddeiaaDoorTotals.lean).
  GIVEN WITH THE SEED: the statements are not yours to turn. If you find one false, say at which input.
  Laid BY PROGRAM, IN A SANDBOX (cutbox-rows.mjs): the forced cells as the released guide's own fill.sh prints them over the translation 3f012d16f9f48d39… (all of the seat's roots in one cut). By AI agents, Wed Nov 11 2026. No macro, syntax, notation, axiom, sorry.
-/
import Derived.Test.YtiabgmddnddeiaaDoorChecked
import GoSem.PinnedTables
import GoSem.Claim
import GoSem.ClaimJoined
import GoSem.ClaimMapViews
import Derived.JoinedTies
import Derived.KernelRfl
namespace Go.Proofs.YtiabgmddnddeiaaDoor
/- THE CELL 'sum', in the pinned program and in every row, IS THE sha256 OF THE DUMP (.gsa) THAT YtiabgmddnddeiaaDoorProg.lean LOADS. Nothing in Lean hashes anything: it is a label: what it is worth is what the hold of that sum in a sandbox is worth. -/
noncomputable def Tryd.pinned : Pinned := { name := "ytiabgmddnddeiaadoor", sum := "3f012d16f9f48d39ffa7c0077be55efa330a7eac711728a607c9ab6dc52a032a", checked := Tryd.checked }
namespace Rows
def none {H : Type} : Left H := { results := [], args := [] }

/- WHAT THE LISTED PACKAGE-LEVEL VARIABLES READ AS WHEN THE CALL BEGINS. Each datum BY PROGRAM (the guide's laid-datum.mjs) off the statement by which the dump's own 'gosem.cut.vars' lays the variable. In a bare row this is a premise. The card (YtiabgmddnddeiaaDoorCards.lean) ties it to the program's text. -/
def laid_unicode_utf8_acceptRanges {H : Type} : DataW H := .agg [.agg [.lit (.int .u8 128), .lit (.int .u8 191)], .agg [.lit (.int .u8 160), .lit (.int .u8 191)], .agg [.lit (.int .u8 128), .lit (.int .u8 159)], .agg [.lit (.int .u8 144), .lit (.int .u8 191)], .agg [.lit (.int .u8 128), .lit (.int .u8 143)], .agg [.lit (.int .u8 0), .lit (.int .u8 0)], .agg [.lit (.int .u8 0), .lit (.int .u8 0)], .agg [.lit (.int .u8 0), .lit (.int .u8 0)], .agg [.lit (.int .u8 0), .lit (.int .u8 0)], .agg [.lit (.int .u8 0), .lit (.int .u8 0)], .agg [.lit (.int .u8 0), .lit (.int .u8 0)], .agg [.lit (.int .u8 0), .lit (.int .u8 0)], .agg [.lit (.int .u8 0), .lit (.int .u8 0)], .agg [.lit (.int .u8 0), .lit (.int .u8 0)], .agg [.lit (.int .u8 0), .lit (.int .u8 0)], .agg [.lit (.int .u8 0), .lit (.int .u8 0)]]
/-- One of Go's own tables, pinned by name: the form's constant. -/
def laid_unicode_utf8_first : DataW Unit := Go.Pinned.utf8First
def laid_loop_example_g00044_impl_normNames {H : Type} : DataW H := .slice [.lit (.string [110, 111, 110, 101]), .lit (.string [68]), .lit (.string [67]), .lit (.string [75, 68]), .lit (.string [75, 67])] []

/-- 'laws.FnNormer': WHATEVER THE INPUT: true; the input reads as it did. -/
def fnNormerSpec : ChangeSpec := { name := "fnNormer", fn := fun _ => fun
  | [d1, d2] => { results := [.lit (.bool true)], args := [d1, d2] }
  | _ => none }
def fnNormerRow : OpenClaim := { program := "ytiabgmddnddeiaadoor", sum := "3f012d16f9f48d39ffa7c0077be55efa330a7eac711728a607c9ab6dc52a032a", func := "loop.example/g00044/laws.FnNormer", spec := "fnNormer", unfollowed := true, recurses := true, named := ["unicode/utf8.first", "unicode/utf8.acceptRanges"], apart := false, laid := [("unicode/utf8.acceptRanges", laid_unicode_utf8_acceptRanges), ("unicode/utf8.first", laid_unicode_utf8_first)] }
def FnNormerSaid : Prop := fnNormerRow.holds Tryd.pinned (OpenSpec.ofChange fnNormerSpec)

/-- ITS FALSE NEIGHBOUR: 'it returns false'. Refute it at one input. -/
def fnNormerWrong : ChangeSpec := { name := "fnNormer", fn := fun _ => fun
  | [d1, d2] => { results := [.lit (.bool false)], args := [d1, d2] }
  | _ => none }
def FnNormerWrongFalsely : Prop := fnNormerRow.holds Tryd.pinned (OpenSpec.ofChange fnNormerWrong)

/-- 'laws.FnShift': WHATEVER THE INPUT: true; the input reads as it did. -/
def fnShiftSpec : ChangeSpec := { name := "fnShift", fn := fun _ => fun
  | [d] => { results := [.lit (.bool true)], args := [d] }
  | _ => none }
def fnShiftRow : OpenClaim := { program := "ytiabgmddnddeiaadoor", sum := "3f012d16f9f48d39ffa7c0077be55efa330a7eac711728a607c9ab6dc52a032a", func := "loop.example/g00044/laws.FnShift", spec := "fnShift", unfollowed := true, recurses := true, named := ["unicode/utf8.first", "unicode/utf8.acceptRanges"], apart := false, laid := [("unicode/utf8.acceptRanges", laid_unicode_utf8_acceptRanges), ("unicode/utf8.first", laid_unicode_utf8_first)] }
def FnShiftSaid : Prop := fnShiftRow.holds Tryd.pinned (OpenSpec.ofChange fnShiftSpec)

/-- ITS FALSE NEIGHBOUR: 'it returns false'. Refute it at one input. -/
def fnShiftWrong : ChangeSpec := { name := "fnShift", fn := fun _ => fun
  | [d] => { results := [.lit (.bool false)], args := [d] }
  | _ => none }
def FnShiftWrongFalsely : Prop := fnShiftRow.holds Tryd.pinned (OpenSpec.ofChange fnShiftWrong)

/-- 'laws.FnExactSentenceCuts': WHATEVER THE INPUT: true; the input reads as it did. -/
def fnExactSentenceCutsSpec : ChangeSpec := { name := "fnExactSentenceCuts", fn := fun _ => fun
  | [d] => { results := [.lit (.bool true)], args := [d] }
  | _ => none }
def fnExactSentenceCutsRow : OpenClaim := { program := "ytiabgmddnddeiaadoor", sum := "3f012d16f9f48d39ffa7c0077be55efa330a7eac711728a607c9ab6dc52a032a", func := "loop.example/g00044/laws.FnExactSentenceCuts", spec := "fnExactSentenceCuts", unfollowed := true, recurses := true, named := ["unicode/utf8.first", "unicode/utf8.acceptRanges"], apart := false, laid := [("unicode/utf8.acceptRanges", laid_unicode_utf8_acceptRanges), ("unicode/utf8.first", laid_unicode_utf8_first)] }
def FnExactSentenceCutsSaid : Prop := fnExactSentenceCutsRow.holds Tryd.pinned (OpenSpec.ofChange fnExactSentenceCutsSpec)

/-- ITS FALSE NEIGHBOUR: 'it returns false'. Refute it at one input. -/
def fnExactSentenceCutsWrong : ChangeSpec := { name := "fnExactSentenceCuts", fn := fun _ => fun
  | [d] => { results := [.lit (.bool false)], args := [d] }
  | _ => none }
def FnExactSentenceCutsWrongFalsely : Prop := fnExactSentenceCutsRow.holds Tryd.pinned (OpenSpec.ofChange fnExactSentenceCutsWrong)

/-- 'laws.FnExactShowPasses': WHATEVER THE INPUT: true; the input reads as it did. -/
def fnExactShowPassesSpec : ChangeSpec := { name := "fnExactShowPasses", vars := ["loop.example/g00044/impl.normNames"], fn := fun _ => fun
  | [d, g1] => { results := [.lit (.bool true)], args := [d], vars := [g1] }
  | _ => none }
def fnExactShowPassesRow : OpenClaim := { program := "ytiabgmddnddeiaadoor", sum := "3f012d16f9f48d39ffa7c0077be55efa330a7eac711728a607c9ab6dc52a032a", func := "loop.example/g00044/laws.FnExactShowPasses", spec := "fnExactShowPasses", inPlace := ["internal/abi.NoEscape", "internal/bytealg.IndexByteString", "internal/bytealg.MakeNoZero"], named := ["loop.example/g00044/impl.normNames", "unicode/utf8.first", "unicode/utf8.acceptRanges"], apart := false, laid := [("unicode/utf8.acceptRanges", laid_unicode_utf8_acceptRanges), ("loop.example/g00044/impl.normNames", laid_loop_example_g00044_impl_normNames), ("unicode/utf8.first", laid_unicode_utf8_first)] }
def FnExactShowPassesSaid : Prop := fnExactShowPassesRow.holds Tryd.pinned (OpenSpec.ofChange fnExactShowPassesSpec)

/-- ITS FALSE NEIGHBOUR: 'it returns false'. Refute it at one input. -/
def fnExactShowPassesWrong : ChangeSpec := { name := "fnExactShowPasses", vars := ["loop.example/g00044/impl.normNames"], fn := fun _ => fun
  | [d, g1] => { results := [.lit (.bool false)], args := [d], vars := [g1] }
  | _ => none }
def FnExactShowPassesWrongFalsely : Prop := fnExactShowPassesRow.holds Tryd.pinned (OpenSpec.ofChange fnExactShowPassesWrong)

/-- 'laws.FnChars': WHATEVER THE INPUT: true; the input reads as it did. -/
def fnCharsSpec : ChangeSpec := { name := "fnChars", fn := fun _ => fun
  | [d] => { results := [.lit (.bool true)], args := [d] }
  | _ => none }
def fnCharsRow : OpenClaim := { program := "ytiabgmddnddeiaadoor", sum := "3f012d16f9f48d39ffa7c0077be55efa330a7eac711728a607c9ab6dc52a032a", func := "loop.example/g00044/laws.FnChars", spec := "fnChars", unfollowed := true, recurses := true, named := ["unicode/utf8.first", "unicode/utf8.acceptRanges"], apart := false, laid := [("unicode/utf8.acceptRanges", laid_unicode_utf8_acceptRanges), ("unicode/utf8.first", laid_unicode_utf8_first)] }
def FnCharsSaid : Prop := fnCharsRow.holds Tryd.pinned (OpenSpec.ofChange fnCharsSpec)

/-- ITS FALSE NEIGHBOUR: 'it returns false'. Refute it at one input. -/
def fnCharsWrong : ChangeSpec := { name := "fnChars", fn := fun _ => fun
  | [d] => { results := [.lit (.bool false)], args := [d] }
  | _ => none }
def FnCharsWrongFalsely : Prop := fnCharsRow.holds Tryd.pinned (OpenSpec.ofChange fnCharsWrong)

/-- 'laws.FnStable': WHATEVER THE INPUT: true; the input reads as it did. -/
def fnStableSpec : ChangeSpec := { name := "fnStable", fn := fun _ => fun
  | [d] => { results := [.lit (.bool true)], args := [d] }
  | _ => none }
def fnStableRow : OpenClaim := { program := "ytiabgmddnddeiaadoor", sum := "3f012d16f9f48d39ffa7c0077be55efa330a7eac711728a607c9ab6dc52a032a", func := "loop.example/g00044/laws.FnStable", spec := "fnStable", unfollowed := true, recurses := true, named := ["unicode/utf8.first", "unicode/utf8.acceptRanges"], apart := false, laid := [("unicode/utf8.acceptRanges", laid_unicode_utf8_acceptRanges), ("unicode/utf8.first", laid_unicode_utf8_first)] }
def FnStableSaid : Prop := fnStableRow.holds Tryd.pinned (OpenSpec.ofChange fnStableSpec)

/-- ITS FALSE NEIGHBOUR: 'it returns false'. Refute it at one input. -/
def fnStableWrong : ChangeSpec := { name := "fnStable", fn := fun _ => fun
  | [d] => { results := [.lit (.bool false)], args := [d] }
  | _ => none }
def FnStableWrongFalsely : Prop := fnStableRow.holds Tryd.pinned (OpenSpec.ofChange fnStableWrong)

/-- 'laws.FnJoinNormal': WHATEVER THE INPUT: true; the input reads as it did. -/
def fnJoinNormalSpec : ChangeSpec := { name := "fnJoinNormal", fn := fun _ => fun
  | [d] => { results := [.lit (.bool true)], args := [d] }
  | _ => none }
def fnJoinNormalRow : OpenClaim := { program := "ytiabgmddnddeiaadoor", sum := "3f012d16f9f48d39ffa7c0077be55efa330a7eac711728a607c9ab6dc52a032a", func := "loop.example/g00044/laws.FnJoinNormal", spec := "fnJoinNormal", unfollowed := true, recurses := true, named := ["unicode/utf8.first", "unicode/utf8.acceptRanges"], apart := false, laid := [("unicode/utf8.acceptRanges", laid_unicode_utf8_acceptRanges), ("unicode/utf8.first", laid_unicode_utf8_first)] }
def FnJoinNormalSaid : Prop := fnJoinNormalRow.holds Tryd.pinned (OpenSpec.ofChange fnJoinNormalSpec)

/-- ITS FALSE NEIGHBOUR: 'it returns false'. Refute it at one input. -/
def fnJoinNormalWrong : ChangeSpec := { name := "fnJoinNormal", fn := fun _ => fun
  | [d] => { results := [.lit (.bool false)], args := [d] }
  | _ => none }
def FnJoinNormalWrongFalsely : Prop := fnJoinNormalRow.holds Tryd.pinned (OpenSpec.ofChange fnJoinNormalWrong)

/-- 'laws.FnQuick': WHATEVER THE INPUT: true; the input reads as it did. -/
def fnQuickSpec : ChangeSpec := { name := "fnQuick", fn := fun _ => fun
  | [d] => { results := [.lit (.bool true)], args := [d] }
  | _ => none }
def fnQuickRow : OpenClaim := { program := "ytiabgmddnddeiaadoor", sum := "3f012d16f9f48d39ffa7c0077be55efa330a7eac711728a607c9ab6dc52a032a", func := "loop.example/g00044/laws.FnQuick", spec := "fnQuick", unfollowed := true, recurses := true, named := ["unicode/utf8.first", "unicode/utf8.acceptRanges"], apart := false, laid := [("unicode/utf8.acceptRanges", laid_unicode_utf8_acceptRanges), ("unicode/utf8.first", laid_unicode_utf8_first)] }
def FnQuickSaid : Prop := fnQuickRow.holds Tryd.pinned (OpenSpec.ofChange fnQuickSpec)

/-- ITS FALSE NEIGHBOUR: 'it returns false'. Refute it at one input. -/
def fnQuickWrong : ChangeSpec := { name := "fnQuick", fn := fun _ => fun
  | [d] => { results := [.lit (.bool false)], args := [d] }
  | _ => none }
def FnQuickWrongFalsely : Prop := fnQuickRow.holds Tryd.pinned (OpenSpec.ofChange fnQuickWrong)

/-- 'laws.FnFolded': WHATEVER THE INPUT: true; the input reads as it did. -/
def fnFoldedSpec : ChangeSpec := { name := "fnFolded", fn := fun _ => fun
  | [d] => { results := [.lit (.bool true)], args := [d] }
  | _ => none }
def fnFoldedRow : OpenClaim := { program := "ytiabgmddnddeiaadoor", sum := "3f012d16f9f48d39ffa7c0077be55efa330a7eac711728a607c9ab6dc52a032a", func := "loop.example/g00044/laws.FnFolded", spec := "fnFolded", unfollowed := true, recurses := true, named := ["unicode/utf8.first", "unicode/utf8.acceptRanges"], apart := false, laid := [("unicode/utf8.acceptRanges", laid_unicode_utf8_acceptRanges), ("unicode/utf8.first", laid_unicode_utf8_first)] }
def FnFoldedSaid : Prop := fnFoldedRow.holds Tryd.pinned (OpenSpec.ofChange fnFoldedSpec)

/-- ITS FALSE NEIGHBOUR: 'it returns false'. Refute it at one input. -/
def fnFoldedWrong : ChangeSpec := { name := "fnFolded", fn := fun _ => fun
  | [d] => { results := [.lit (.bool false)], args := [d] }
  | _ => none }
def FnFoldedWrongFalsely : Prop := fnFoldedRow.holds Tryd.pinned (OpenSpec.ofChange fnFoldedWrong)

/-- 'laws.FnExactWriteOver': WHATEVER THE INPUT: true; the input reads as it did. -/
def fnExactWriteOverSpec : ChangeSpec := { name := "fnExactWriteOver", fn := fun _ => fun
  | [d1, d2] => { results := [.lit (.bool true)], args := [d1, d2] }
  | _ => none }
def fnExactWriteOverRow : OpenClaim := { program := "ytiabgmddnddeiaadoor", sum := "3f012d16f9f48d39ffa7c0077be55efa330a7eac711728a607c9ab6dc52a032a", func := "loop.example/g00044/laws.FnExactWriteOver", spec := "fnExactWriteOver", unfollowed := true, recurses := true, named := ["unicode/utf8.first", "unicode/utf8.acceptRanges"], apart := false, laid := [("unicode/utf8.acceptRanges", laid_unicode_utf8_acceptRanges), ("unicode/utf8.first", laid_unicode_utf8_first)] }
def FnExactWriteOverSaid : Prop := fnExactWriteOverRow.holds Tryd.pinned (OpenSpec.ofChange fnExactWriteOverSpec)

/-- ITS FALSE NEIGHBOUR: 'it returns false'. Refute it at one input. -/
def fnExactWriteOverWrong : ChangeSpec := { name := "fnExactWriteOver", fn := fun _ => fun
  | [d1, d2] => { results := [.lit (.bool false)], args := [d1, d2] }
  | _ => none }
def FnExactWriteOverWrongFalsely : Prop := fnExactWriteOverRow.holds Tryd.pinned (OpenSpec.ofChange fnExactWriteOverWrong)

/-- 'laws.FnExactComesBack': WHATEVER THE INPUT: true; the input reads as it did. -/
def fnExactComesBackSpec : ChangeSpec := { name := "fnExactComesBack", fn := fun _ => fun
  | [d1, d2] => { results := [.lit (.bool true)], args := [d1, d2] }
  | _ => none }
def fnExactComesBackRow : OpenClaim := { program := "ytiabgmddnddeiaadoor", sum := "3f012d16f9f48d39ffa7c0077be55efa330a7eac711728a607c9ab6dc52a032a", func := "loop.example/g00044/laws.FnExactComesBack", spec := "fnExactComesBack", unfollowed := true, recurses := true, named := ["unicode/utf8.first", "unicode/utf8.acceptRanges"], apart := false, laid := [("unicode/utf8.acceptRanges", laid_unicode_utf8_acceptRanges), ("unicode/utf8.first", laid_unicode_utf8_first)] }
def FnExactComesBackSaid : Prop := fnExactComesBackRow.holds Tryd.pinned (OpenSpec.ofChange fnExactComesBackSpec)

/-- ITS FALSE NEIGHBOUR: 'it returns false'. Refute it at one input. -/
def fnExactComesBackWrong : ChangeSpec := { name := "fnExactComesBack", fn := fun _ => fun
  | [d1, d2] => { results := [.lit (.bool false)], args := [d1, d2] }
  | _ => none }
def FnExactComesBackWrongFalsely : Prop := fnExactComesBackRow.holds Tryd.pinned (OpenSpec.ofChange fnExactComesBackWrong)

/- THE SECOND FORM. 'bulk': how many values and letters a reading holds, each counted each time it is reached (what is shared counts as often as it is met; a slice's spare places count too). A statement '..UptoSaid' is the law's where the arguments, and the package variables that the reading takes, are together of bulk at most 1048576: NARROWER than '..Said'. Prove '..Said' where nothing that the law and all that it calls make is longer than what came in: it says more and counts as full. Else prove '..UptoSaid'. A law counts once. -/
mutual
def uptoBulk {H : Type} : DataW H → Nat
  | .lit (.string bytes) => bytes.length + 1
  | .lit _ => 1
  | .nil => 1
  | .ptr d => uptoBulk d + 1
  | .slice elems spare => uptoBulkAll elems + uptoBulkAll spare + 1
  | .agg parts => uptoBulkAll parts + 1
  | .iface _ d => uptoBulk d + 1
  | .map entries => uptoBulkEntries entries + 1
  | .held _ => 1
def uptoBulkAll {H : Type} : List (DataW H) → Nat
  | [] => 0
  | d :: r => uptoBulk d + uptoBulkAll r
def uptoBulkEntries {H : Type} : List (Lit × DataW H) → Nat
  | [] => 0
  | x :: r => uptoBulkEntry x + uptoBulkEntries r
def uptoBulkEntry {H : Type} : Lit × DataW H → Nat
  | (.string bytes, d) => bytes.length + uptoBulk d + 1
  | (_, d) => uptoBulk d + 1
 end
def uptoSmall : (H : Type) → List (DataW H) → Bool := fun _ ds => decide (uptoBulkAll ds ≤ 1048576)
def OpenSpec.upto (s : _root_.Go.ChangeSpec) : _root_.Go.OpenSpec := { _root_.Go.OpenSpec.ofChange s with cond := some uptoSmall }

/-- 'laws.FnNormer', WHERE WHAT IT READS IS OF BULK AT MOST 1048576: true; the input reads as it did. -/
def fnNormerUptoRow : OpenClaim := { program := "ytiabgmddnddeiaadoor", sum := "3f012d16f9f48d39ffa7c0077be55efa330a7eac711728a607c9ab6dc52a032a", func := "loop.example/g00044/laws.FnNormer", spec := "fnNormer", unfollowed := true, recurses := true, named := ["unicode/utf8.first", "unicode/utf8.acceptRanges"], apart := false, laid := [("unicode/utf8.acceptRanges", laid_unicode_utf8_acceptRanges), ("unicode/utf8.first", laid_unicode_utf8_first)], narrowed := true }
def FnNormerUptoSaid : Prop := fnNormerUptoRow.holds Tryd.pinned (OpenSpec.upto fnNormerSpec)

/-- 'laws.FnShift', WHERE WHAT IT READS IS OF BULK AT MOST 1048576: true; the input reads as it did. -/
def fnShiftUptoRow : OpenClaim := { program := "ytiabgmddnddeiaadoor", sum := "3f012d16f9f48d39ffa7c0077be55efa330a7eac711728a607c9ab6dc52a032a", func := "loop.example/g00044/laws.FnShift", spec := "fnShift", unfollowed := true, recurses := true, named := ["unicode/utf8.first", "unicode/utf8.acceptRanges"], apart := false, laid := [("unicode/utf8.acceptRanges", laid_unicode_utf8_acceptRanges), ("unicode/utf8.first", laid_unicode_utf8_first)], narrowed := true }
def FnShiftUptoSaid : Prop := fnShiftUptoRow.holds Tryd.pinned (OpenSpec.upto fnShiftSpec)

/-- 'laws.FnExactSentenceCuts', WHERE WHAT IT READS IS OF BULK AT MOST 1048576: true; the input reads as it did. -/
def fnExactSentenceCutsUptoRow : OpenClaim := { program := "ytiabgmddnddeiaadoor", sum := "3f012d16f9f48d39ffa7c0077be55efa330a7eac711728a607c9ab6dc52a032a", func := "loop.example/g00044/laws.FnExactSentenceCuts", spec := "fnExactSentenceCuts", unfollowed := true, recurses := true, named := ["unicode/utf8.first", "unicode/utf8.acceptRanges"], apart := false, laid := [("unicode/utf8.acceptRanges", laid_unicode_utf8_acceptRanges), ("unicode/utf8.first", laid_unicode_utf8_first)], narrowed := true }
def FnExactSentenceCutsUptoSaid : Prop := fnExactSentenceCutsUptoRow.holds Tryd.pinned (OpenSpec.upto fnExactSentenceCutsSpec)

/-- 'laws.FnExactShowPasses', WHERE WHAT IT READS IS OF BULK AT MOST 1048576: true; the input reads as it did. -/
def fnExactShowPassesUptoRow : OpenClaim := { program := "ytiabgmddnddeiaadoor", sum := "3f012d16f9f48d39ffa7c0077be55efa330a7eac711728a607c9ab6dc52a032a", func := "loop.example/g00044/laws.FnExactShowPasses", spec := "fnExactShowPasses", inPlace := ["internal/abi.NoEscape", "internal/bytealg.IndexByteString", "internal/bytealg.MakeNoZero"], named := ["loop.example/g00044/impl.normNames", "unicode/utf8.first", "unicode/utf8.acceptRanges"], apart := false, laid := [("unicode/utf8.acceptRanges", laid_unicode_utf8_acceptRanges), ("loop.example/g00044/impl.normNames", laid_loop_example_g00044_impl_normNames), ("unicode/utf8.first", laid_unicode_utf8_first)], narrowed := true }
def FnExactShowPassesUptoSaid : Prop := fnExactShowPassesUptoRow.holds Tryd.pinned (OpenSpec.upto fnExactShowPassesSpec)

/-- 'laws.FnChars', WHERE WHAT IT READS IS OF BULK AT MOST 1048576: true; the input reads as it did. -/
def fnCharsUptoRow : OpenClaim := { program := "ytiabgmddnddeiaadoor", sum := "3f012d16f9f48d39ffa7c0077be55efa330a7eac711728a607c9ab6dc52a032a", func := "loop.example/g00044/laws.FnChars", spec := "fnChars", unfollowed := true, recurses := true, named := ["unicode/utf8.first", "unicode/utf8.acceptRanges"], apart := false, laid := [("unicode/utf8.acceptRanges", laid_unicode_utf8_acceptRanges), ("unicode/utf8.first", laid_unicode_utf8_first)], narrowed := true }
def FnCharsUptoSaid : Prop := fnCharsUptoRow.holds Tryd.pinned (OpenSpec.upto fnCharsSpec)

/-- 'laws.FnStable', WHERE WHAT IT READS IS OF BULK AT MOST 1048576: true; the input reads as it did. -/
def fnStableUptoRow : OpenClaim := { program := "ytiabgmddnddeiaadoor", sum := "3f012d16f9f48d39ffa7c0077be55efa330a7eac711728a607c9ab6dc52a032a", func := "loop.example/g00044/laws.FnStable", spec := "fnStable", unfollowed := true, recurses := true, named := ["unicode/utf8.first", "unicode/utf8.acceptRanges"], apart := false, laid := [("unicode/utf8.acceptRanges", laid_unicode_utf8_acceptRanges), ("unicode/utf8.first", laid_unicode_utf8_first)], narrowed := true }
def FnStableUptoSaid : Prop := fnStableUptoRow.holds Tryd.pinned (OpenSpec.upto fnStableSpec)

/-- 'laws.FnJoinNormal', WHERE WHAT IT READS IS OF BULK AT MOST 1048576: true; the input reads as it did. -/
def fnJoinNormalUptoRow : OpenClaim := { program := "ytiabgmddnddeiaadoor", sum := "3f012d16f9f48d39ffa7c0077be55efa330a7eac711728a607c9ab6dc52a032a", func := "loop.example/g00044/laws.FnJoinNormal", spec := "fnJoinNormal", unfollowed := true, recurses := true, named := ["unicode/utf8.first", "unicode/utf8.acceptRanges"], apart := false, laid := [("unicode/utf8.acceptRanges", laid_unicode_utf8_acceptRanges), ("unicode/utf8.first", laid_unicode_utf8_first)], narrowed := true }
def FnJoinNormalUptoSaid : Prop := fnJoinNormalUptoRow.holds Tryd.pinned (OpenSpec.upto fnJoinNormalSpec)

/-- 'laws.FnQuick', WHERE WHAT IT READS IS OF BULK AT MOST 1048576: true; the input reads as it did. -/
def fnQuickUptoRow : OpenClaim := { program := "ytiabgmddnddeiaadoor", sum := "3f012d16f9f48d39ffa7c0077be55efa330a7eac711728a607c9ab6dc52a032a", func := "loop.example/g00044/laws.FnQuick", spec := "fnQuick", unfollowed := true, recurses := true, named := ["unicode/utf8.first", "unicode/utf8.acceptRanges"], apart := false, laid := [("unicode/utf8.acceptRanges", laid_unicode_utf8_acceptRanges), ("unicode/utf8.first", laid_unicode_utf8_first)], narrowed := true }
def FnQuickUptoSaid : Prop := fnQuickUptoRow.holds Tryd.pinned (OpenSpec.upto fnQuickSpec)

/-- 'laws.FnFolded', WHERE WHAT IT READS IS OF BULK AT MOST 1048576: true; the input reads as it did. -/
def fnFoldedUptoRow : OpenClaim := { program := "ytiabgmddnddeiaadoor", sum := "3f012d16f9f48d39ffa7c0077be55efa330a7eac711728a607c9ab6dc52a032a", func := "loop.example/g00044/laws.FnFolded", spec := "fnFolded", unfollowed := true, recurses := true, named := ["unicode/utf8.first", "unicode/utf8.acceptRanges"], apart := false, laid := [("unicode/utf8.acceptRanges", laid_unicode_utf8_acceptRanges), ("unicode/utf8.first", laid_unicode_utf8_first)], narrowed := true }
def FnFoldedUptoSaid : Prop := fnFoldedUptoRow.holds Tryd.pinned (OpenSpec.upto fnFoldedSpec)

/-- 'laws.FnExactWriteOver', WHERE WHAT IT READS IS OF BULK AT MOST 1048576: true; the input reads as it did. -/
def fnExactWriteOverUptoRow : OpenClaim := { program := "ytiabgmddnddeiaadoor", sum := "3f012d16f9f48d39ffa7c0077be55efa330a7eac711728a607c9ab6dc52a032a", func := "loop.example/g00044/laws.FnExactWriteOver", spec := "fnExactWriteOver", unfollowed := true, recurses := true, named := ["unicode/utf8.first", "unicode/utf8.acceptRanges"], apart := false, laid := [("unicode/utf8.acceptRanges", laid_unicode_utf8_acceptRanges), ("unicode/utf8.first", laid_unicode_utf8_first)], narrowed := true }
def FnExactWriteOverUptoSaid : Prop := fnExactWriteOverUptoRow.holds Tryd.pinned (OpenSpec.upto fnExactWriteOverSpec)

/-- 'laws.FnExactComesBack', WHERE WHAT IT READS IS OF BULK AT MOST 1048576: true; the input reads as it did. -/
def fnExactComesBackUptoRow : OpenClaim := { program := "ytiabgmddnddeiaadoor", sum := "3f012d16f9f48d39ffa7c0077be55efa330a7eac711728a607c9ab6dc52a032a", func := "loop.example/g00044/laws.FnExactComesBack", spec := "fnExactComesBack", unfollowed := true, recurses := true, named := ["unicode/utf8.first", "unicode/utf8.acceptRanges"], apart := false, laid := [("unicode/utf8.acceptRanges", laid_unicode_utf8_acceptRanges), ("unicode/utf8.first", laid_unicode_utf8_first)], narrowed := true }
def FnExactComesBackUptoSaid : Prop := fnExactComesBackUptoRow.holds Tryd.pinned (OpenSpec.upto fnExactComesBackSpec)

end Rows
end Go.Proofs.YtiabgmddnddeiaaDoor

/-
  NARROWER THAN 'FOR EVERY INPUT', by the rows' own cells (each row's printed sentence says how): FnShift: laid · FnExactSentenceCuts: laid · FnFewest: laid · FnExactShowPasses: laid · FnChars: laid · FnEquivalent: laid · FnExactUnpackTrie: laid · FnStable: laid · FnExactCaselessSame: laid · FnJoinNormal: laid.
  DERIVED. THE GIVEN ROWS OF THIS SEAT. 10 by the template 'for every input the law returns true; each argument reads behind the call as it read before'; 0 by the template 'total and deterministic' (their statements: YtdkoofdfkhogoaaDoorTotals.lean).
  GIVEN WITH THE SEED: the statements are not yours to turn. If you find one false, say at which input.
  Laid BY PROGRAM, IN A SANDBOX (cutbox-rows.mjs): the forced cells as the released guide's own fill.sh prints them over the translation 5dc977021602c558… (all of the seat's roots in one cut). By AI agents, Wed Nov 11 2026. No macro, syntax, notation, axiom, sorry.
-/
import Derived.Test.YtdkoofdfkhogoaaDoorChecked
import GoSem.PinnedTables
import GoSem.Claim
import GoSem.ClaimJoined
import GoSem.ClaimMapViews
import Derived.JoinedTies
import Derived.KernelRfl
namespace Go.Proofs.YtdkoofdfkhogoaaDoor
/- THE CELL 'sum', in the pinned program and in every row, IS THE sha256 OF THE DUMP (.gsa) THAT YtdkoofdfkhogoaaDoorProg.lean LOADS. Nothing in Lean hashes anything: it is a label: what it is worth is what the hold of that sum in a sandbox is worth. -/
noncomputable def Tryd.pinned : Pinned := { name := "ytdkoofdfkhogoaadoor", sum := "5dc977021602c5581d83119994087279d4d5cef2ba4651ff6dbb188f2479105a", checked := Tryd.checked }
namespace Rows
def none {H : Type} : Left H := { results := [], args := [] }

/- WHAT THE LISTED PACKAGE-LEVEL VARIABLES READ AS WHEN THE CALL BEGINS. Each datum BY PROGRAM (the guide's laid-datum.mjs) off the statement by which the dump's own 'gosem.cut.vars' lays the variable. In a bare row this is a premise. The card (YtdkoofdfkhogoaaDoorCards.lean) ties it to the program's text. -/
def laid_unicode_utf8_acceptRanges {H : Type} : DataW H := .agg [.agg [.lit (.int .u8 128), .lit (.int .u8 191)], .agg [.lit (.int .u8 160), .lit (.int .u8 191)], .agg [.lit (.int .u8 128), .lit (.int .u8 159)], .agg [.lit (.int .u8 144), .lit (.int .u8 191)], .agg [.lit (.int .u8 128), .lit (.int .u8 143)], .agg [.lit (.int .u8 0), .lit (.int .u8 0)], .agg [.lit (.int .u8 0), .lit (.int .u8 0)], .agg [.lit (.int .u8 0), .lit (.int .u8 0)], .agg [.lit (.int .u8 0), .lit (.int .u8 0)], .agg [.lit (.int .u8 0), .lit (.int .u8 0)], .agg [.lit (.int .u8 0), .lit (.int .u8 0)], .agg [.lit (.int .u8 0), .lit (.int .u8 0)], .agg [.lit (.int .u8 0), .lit (.int .u8 0)], .agg [.lit (.int .u8 0), .lit (.int .u8 0)], .agg [.lit (.int .u8 0), .lit (.int .u8 0)], .agg [.lit (.int .u8 0), .lit (.int .u8 0)]]
/-- One of Go's own tables, pinned by name: the form's constant. -/
def laid_unicode_utf8_first : DataW Unit := Go.Pinned.utf8First
def laid_loop_example_g00044_impl_normNames {H : Type} : DataW H := .slice [.lit (.string [110, 111, 110, 101]), .lit (.string [68]), .lit (.string [67]), .lit (.string [75, 68]), .lit (.string [75, 67])] []
def laid_math_bits_deBruijn32tab {H : Type} : DataW H := .agg [.lit (.int .u8 0), .lit (.int .u8 1), .lit (.int .u8 28), .lit (.int .u8 2), .lit (.int .u8 29), .lit (.int .u8 14), .lit (.int .u8 24), .lit (.int .u8 3), .lit (.int .u8 30), .lit (.int .u8 22), .lit (.int .u8 20), .lit (.int .u8 15), .lit (.int .u8 25), .lit (.int .u8 17), .lit (.int .u8 4), .lit (.int .u8 8), .lit (.int .u8 31), .lit (.int .u8 27), .lit (.int .u8 13), .lit (.int .u8 23), .lit (.int .u8 21), .lit (.int .u8 19), .lit (.int .u8 16), .lit (.int .u8 7), .lit (.int .u8 26), .lit (.int .u8 12), .lit (.int .u8 18), .lit (.int .u8 6), .lit (.int .u8 11), .lit (.int .u8 5), .lit (.int .u8 10), .lit (.int .u8 9)]
def laid_math_bits_deBruijn64tab {H : Type} : DataW H := .agg [.lit (.int .u8 0), .lit (.int .u8 1), .lit (.int .u8 56), .lit (.int .u8 2), .lit (.int .u8 57), .lit (.int .u8 49), .lit (.int .u8 28), .lit (.int .u8 3), .lit (.int .u8 61), .lit (.int .u8 58), .lit (.int .u8 42), .lit (.int .u8 50), .lit (.int .u8 38), .lit (.int .u8 29), .lit (.int .u8 17), .lit (.int .u8 4), .lit (.int .u8 62), .lit (.int .u8 47), .lit (.int .u8 59), .lit (.int .u8 36), .lit (.int .u8 45), .lit (.int .u8 43), .lit (.int .u8 51), .lit (.int .u8 22), .lit (.int .u8 53), .lit (.int .u8 39), .lit (.int .u8 33), .lit (.int .u8 30), .lit (.int .u8 24), .lit (.int .u8 18), .lit (.int .u8 12), .lit (.int .u8 5), .lit (.int .u8 63), .lit (.int .u8 55), .lit (.int .u8 48), .lit (.int .u8 27), .lit (.int .u8 60), .lit (.int .u8 41), .lit (.int .u8 37), .lit (.int .u8 16), .lit (.int .u8 46), .lit (.int .u8 35), .lit (.int .u8 44), .lit (.int .u8 21), .lit (.int .u8 52), .lit (.int .u8 32), .lit (.int .u8 23), .lit (.int .u8 11), .lit (.int .u8 54), .lit (.int .u8 26), .lit (.int .u8 40), .lit (.int .u8 15), .lit (.int .u8 34), .lit (.int .u8 20), .lit (.int .u8 31), .lit (.int .u8 10), .lit (.int .u8 25), .lit (.int .u8 14), .lit (.int .u8 19), .lit (.int .u8 9), .lit (.int .u8 13), .lit (.int .u8 8), .lit (.int .u8 7), .lit (.int .u8 6)]
def laid_internal_strconv_uint64pow10 {H : Type} : DataW H := .agg [.lit (.int .u64 1), .lit (.int .u64 10), .lit (.int .u64 100), .lit (.int .u64 1000), .lit (.int .u64 10000), .lit (.int .u64 100000), .lit (.int .u64 1000000), .lit (.int .u64 10000000), .lit (.int .u64 100000000), .lit (.int .u64 1000000000), .lit (.int .u64 10000000000), .lit (.int .u64 100000000000), .lit (.int .u64 1000000000000), .lit (.int .u64 10000000000000), .lit (.int .u64 100000000000000), .lit (.int .u64 1000000000000000), .lit (.int .u64 10000000000000000), .lit (.int .u64 100000000000000000), .lit (.int .u64 1000000000000000000), .lit (.int .u64 10000000000000000000)]
def laid_strconv_ErrRange {H : Type} : DataW H := .iface "*errors.errorString" (.ptr (.agg [.lit (.string [118, 97, 108, 117, 101, 32, 111, 117, 116, 32, 111, 102, 32, 114, 97, 110, 103, 101])]))
def laid_strconv_ErrSyntax {H : Type} : DataW H := .iface "*errors.errorString" (.ptr (.agg [.lit (.string [105, 110, 118, 97, 108, 105, 100, 32, 115, 121, 110, 116, 97, 120])]))

/-- 'laws.FnShift': WHATEVER THE INPUT: true; the input reads as it did. -/
def fnShiftSpec : ChangeSpec := { name := "fnShift", fn := fun _ => fun
  | [d] => { results := [.lit (.bool true)], args := [d] }
  | _ => none }
def fnShiftRow : OpenClaim := { program := "ytdkoofdfkhogoaadoor", sum := "5dc977021602c5581d83119994087279d4d5cef2ba4651ff6dbb188f2479105a", func := "loop.example/g00044/laws.FnShift", spec := "fnShift", unfollowed := true, recurses := true, named := ["unicode/utf8.first", "unicode/utf8.acceptRanges"], plainKeys := false, apart := false, laid := [("unicode/utf8.acceptRanges", laid_unicode_utf8_acceptRanges), ("unicode/utf8.first", laid_unicode_utf8_first)] }
def FnShiftSaid : Prop := fnShiftRow.holds Tryd.pinned (OpenSpec.ofChange fnShiftSpec)

/-- ITS FALSE NEIGHBOUR: 'it returns false'. Refute it at one input. -/
def fnShiftWrong : ChangeSpec := { name := "fnShift", fn := fun _ => fun
  | [d] => { results := [.lit (.bool false)], args := [d] }
  | _ => none }
def FnShiftWrongFalsely : Prop := fnShiftRow.holds Tryd.pinned (OpenSpec.ofChange fnShiftWrong)

/-- 'laws.FnExactSentenceCuts': WHATEVER THE INPUT: true; the input reads as it did. -/
def fnExactSentenceCutsSpec : ChangeSpec := { name := "fnExactSentenceCuts", fn := fun _ => fun
  | [d] => { results := [.lit (.bool true)], args := [d] }
  | _ => none }
def fnExactSentenceCutsRow : OpenClaim := { program := "ytdkoofdfkhogoaadoor", sum := "5dc977021602c5581d83119994087279d4d5cef2ba4651ff6dbb188f2479105a", func := "loop.example/g00044/laws.FnExactSentenceCuts", spec := "fnExactSentenceCuts", unfollowed := true, recurses := true, named := ["unicode/utf8.first", "unicode/utf8.acceptRanges"], plainKeys := false, apart := false, laid := [("unicode/utf8.acceptRanges", laid_unicode_utf8_acceptRanges), ("unicode/utf8.first", laid_unicode_utf8_first)] }
def FnExactSentenceCutsSaid : Prop := fnExactSentenceCutsRow.holds Tryd.pinned (OpenSpec.ofChange fnExactSentenceCutsSpec)

/-- ITS FALSE NEIGHBOUR: 'it returns false'. Refute it at one input. -/
def fnExactSentenceCutsWrong : ChangeSpec := { name := "fnExactSentenceCuts", fn := fun _ => fun
  | [d] => { results := [.lit (.bool false)], args := [d] }
  | _ => none }
def FnExactSentenceCutsWrongFalsely : Prop := fnExactSentenceCutsRow.holds Tryd.pinned (OpenSpec.ofChange fnExactSentenceCutsWrong)

/-- 'laws.FnFewest': WHATEVER THE INPUT: true; the input reads as it did. -/
def fnFewestSpec : ChangeSpec := { name := "fnFewest", fn := fun _ => fun
  | [d] => { results := [.lit (.bool true)], args := [d] }
  | _ => none }
def fnFewestRow : OpenClaim := { program := "ytdkoofdfkhogoaadoor", sum := "5dc977021602c5581d83119994087279d4d5cef2ba4651ff6dbb188f2479105a", func := "loop.example/g00044/laws.FnFewest", spec := "fnFewest", named := ["unicode/utf8.first", "unicode/utf8.acceptRanges"], plainKeys := false, apart := false, laid := [("unicode/utf8.acceptRanges", laid_unicode_utf8_acceptRanges), ("unicode/utf8.first", laid_unicode_utf8_first)] }
def FnFewestSaid : Prop := fnFewestRow.holds Tryd.pinned (OpenSpec.ofChange fnFewestSpec)

/-- ITS FALSE NEIGHBOUR: 'it returns false'. Refute it at one input. -/
def fnFewestWrong : ChangeSpec := { name := "fnFewest", fn := fun _ => fun
  | [d] => { results := [.lit (.bool false)], args := [d] }
  | _ => none }
def FnFewestWrongFalsely : Prop := fnFewestRow.holds Tryd.pinned (OpenSpec.ofChange fnFewestWrong)

/-- 'laws.FnExactShowPasses': WHATEVER THE INPUT: true; the input reads as it did. -/
def fnExactShowPassesSpec : ChangeSpec := { name := "fnExactShowPasses", vars := ["loop.example/g00044/impl.normNames"], fn := fun _ => fun
  | [d, g1] => { results := [.lit (.bool true)], args := [d], vars := [g1] }
  | _ => none }
def fnExactShowPassesRow : OpenClaim := { program := "ytdkoofdfkhogoaadoor", sum := "5dc977021602c5581d83119994087279d4d5cef2ba4651ff6dbb188f2479105a", func := "loop.example/g00044/laws.FnExactShowPasses", spec := "fnExactShowPasses", inPlace := ["internal/abi.NoEscape", "internal/bytealg.IndexByteString", "internal/bytealg.MakeNoZero"], named := ["loop.example/g00044/impl.normNames", "unicode/utf8.first", "unicode/utf8.acceptRanges"], plainKeys := false, apart := false, laid := [("unicode/utf8.acceptRanges", laid_unicode_utf8_acceptRanges), ("loop.example/g00044/impl.normNames", laid_loop_example_g00044_impl_normNames), ("unicode/utf8.first", laid_unicode_utf8_first)] }
def FnExactShowPassesSaid : Prop := fnExactShowPassesRow.holds Tryd.pinned (OpenSpec.ofChange fnExactShowPassesSpec)

/-- ITS FALSE NEIGHBOUR: 'it returns false'. Refute it at one input. -/
def fnExactShowPassesWrong : ChangeSpec := { name := "fnExactShowPasses", vars := ["loop.example/g00044/impl.normNames"], fn := fun _ => fun
  | [d, g1] => { results := [.lit (.bool false)], args := [d], vars := [g1] }
  | _ => none }
def FnExactShowPassesWrongFalsely : Prop := fnExactShowPassesRow.holds Tryd.pinned (OpenSpec.ofChange fnExactShowPassesWrong)

/-- 'laws.FnChars': WHATEVER THE INPUT: true; the input reads as it did. -/
def fnCharsSpec : ChangeSpec := { name := "fnChars", fn := fun _ => fun
  | [d] => { results := [.lit (.bool true)], args := [d] }
  | _ => none }
def fnCharsRow : OpenClaim := { program := "ytdkoofdfkhogoaadoor", sum := "5dc977021602c5581d83119994087279d4d5cef2ba4651ff6dbb188f2479105a", func := "loop.example/g00044/laws.FnChars", spec := "fnChars", unfollowed := true, recurses := true, named := ["unicode/utf8.first", "unicode/utf8.acceptRanges"], plainKeys := false, apart := false, laid := [("unicode/utf8.acceptRanges", laid_unicode_utf8_acceptRanges), ("unicode/utf8.first", laid_unicode_utf8_first)] }
def FnCharsSaid : Prop := fnCharsRow.holds Tryd.pinned (OpenSpec.ofChange fnCharsSpec)

/-- ITS FALSE NEIGHBOUR: 'it returns false'. Refute it at one input. -/
def fnCharsWrong : ChangeSpec := { name := "fnChars", fn := fun _ => fun
  | [d] => { results := [.lit (.bool false)], args := [d] }
  | _ => none }
def FnCharsWrongFalsely : Prop := fnCharsRow.holds Tryd.pinned (OpenSpec.ofChange fnCharsWrong)

/-- 'laws.FnEquivalent': WHATEVER THE INPUT: true; the input reads as it did. -/
def fnEquivalentSpec : ChangeSpec := { name := "fnEquivalent", fn := fun _ => fun
  | [d] => { results := [.lit (.bool true)], args := [d] }
  | _ => none }
def fnEquivalentRow : OpenClaim := { program := "ytdkoofdfkhogoaadoor", sum := "5dc977021602c5581d83119994087279d4d5cef2ba4651ff6dbb188f2479105a", func := "loop.example/g00044/laws.FnEquivalent", spec := "fnEquivalent", unfollowed := true, recurses := true, named := ["unicode/utf8.first", "unicode/utf8.acceptRanges"], plainKeys := false, apart := false, laid := [("unicode/utf8.acceptRanges", laid_unicode_utf8_acceptRanges), ("unicode/utf8.first", laid_unicode_utf8_first)] }
def FnEquivalentSaid : Prop := fnEquivalentRow.holds Tryd.pinned (OpenSpec.ofChange fnEquivalentSpec)

/-- ITS FALSE NEIGHBOUR: 'it returns false'. Refute it at one input. -/
def fnEquivalentWrong : ChangeSpec := { name := "fnEquivalent", fn := fun _ => fun
  | [d] => { results := [.lit (.bool false)], args := [d] }
  | _ => none }
def FnEquivalentWrongFalsely : Prop := fnEquivalentRow.holds Tryd.pinned (OpenSpec.ofChange fnEquivalentWrong)

/-- 'laws.FnExactUnpackTrie': WHATEVER THE INPUT: true; the input reads as it did. -/
def fnExactUnpackTrieSpec : ChangeSpec := { name := "fnExactUnpackTrie", fn := fun _ => fun
  | [d] => { results := [.lit (.bool true)], args := [d] }
  | _ => none }
def fnExactUnpackTrieRow : OpenClaim := { program := "ytdkoofdfkhogoaadoor", sum := "5dc977021602c5581d83119994087279d4d5cef2ba4651ff6dbb188f2479105a", func := "loop.example/g00044/laws.FnExactUnpackTrie", spec := "fnExactUnpackTrie", named := ["strconv.ErrSyntax", "strconv.ErrRange", "internal/strconv.uint64pow10", "math/bits.deBruijn32tab", "math/bits.deBruijn64tab"], plainKeys := false, apart := false, laid := [("math/bits.deBruijn32tab", laid_math_bits_deBruijn32tab), ("math/bits.deBruijn64tab", laid_math_bits_deBruijn64tab), ("internal/strconv.uint64pow10", laid_internal_strconv_uint64pow10), ("strconv.ErrRange", laid_strconv_ErrRange), ("strconv.ErrSyntax", laid_strconv_ErrSyntax)] }
def FnExactUnpackTrieSaid : Prop := fnExactUnpackTrieRow.holds Tryd.pinned (OpenSpec.ofChange fnExactUnpackTrieSpec)

/-- ITS FALSE NEIGHBOUR: 'it returns false'. Refute it at one input. -/
def fnExactUnpackTrieWrong : ChangeSpec := { name := "fnExactUnpackTrie", fn := fun _ => fun
  | [d] => { results := [.lit (.bool false)], args := [d] }
  | _ => none }
def FnExactUnpackTrieWrongFalsely : Prop := fnExactUnpackTrieRow.holds Tryd.pinned (OpenSpec.ofChange fnExactUnpackTrieWrong)

/-- 'laws.FnStable': WHATEVER THE INPUT: true; the input reads as it did. -/
def fnStableSpec : ChangeSpec := { name := "fnStable", fn := fun _ => fun
  | [d] => { results := [.lit (.bool true)], args := [d] }
  | _ => none }
def fnStableRow : OpenClaim := { program := "ytdkoofdfkhogoaadoor", sum := "5dc977021602c5581d83119994087279d4d5cef2ba4651ff6dbb188f2479105a", func := "loop.example/g00044/laws.FnStable", spec := "fnStable", unfollowed := true, recurses := true, named := ["unicode/utf8.first", "unicode/utf8.acceptRanges"], plainKeys := false, apart := false, laid := [("unicode/utf8.acceptRanges", laid_unicode_utf8_acceptRanges), ("unicode/utf8.first", laid_unicode_utf8_first)] }
def FnStableSaid : Prop := fnStableRow.holds Tryd.pinned (OpenSpec.ofChange fnStableSpec)

/-- ITS FALSE NEIGHBOUR: 'it returns false'. Refute it at one input. -/
def fnStableWrong : ChangeSpec := { name := "fnStable", fn := fun _ => fun
  | [d] => { results := [.lit (.bool false)], args := [d] }
  | _ => none }
def FnStableWrongFalsely : Prop := fnStableRow.holds Tryd.pinned (OpenSpec.ofChange fnStableWrong)

/-- 'laws.FnExactCaselessSame': WHATEVER THE INPUT: true; the input reads as it did. -/
def fnExactCaselessSameSpec : ChangeSpec := { name := "fnExactCaselessSame", fn := fun _ => fun
  | [d1, d2] => { results := [.lit (.bool true)], args := [d1, d2] }
  | _ => none }
def fnExactCaselessSameRow : OpenClaim := { program := "ytdkoofdfkhogoaadoor", sum := "5dc977021602c5581d83119994087279d4d5cef2ba4651ff6dbb188f2479105a", func := "loop.example/g00044/laws.FnExactCaselessSame", spec := "fnExactCaselessSame", unfollowed := true, recurses := true, named := ["unicode/utf8.first", "unicode/utf8.acceptRanges"], plainKeys := false, apart := false, laid := [("unicode/utf8.acceptRanges", laid_unicode_utf8_acceptRanges), ("unicode/utf8.first", laid_unicode_utf8_first)] }
def FnExactCaselessSameSaid : Prop := fnExactCaselessSameRow.holds Tryd.pinned (OpenSpec.ofChange fnExactCaselessSameSpec)

/-- ITS FALSE NEIGHBOUR: 'it returns false'. Refute it at one input. -/
def fnExactCaselessSameWrong : ChangeSpec := { name := "fnExactCaselessSame", fn := fun _ => fun
  | [d1, d2] => { results := [.lit (.bool false)], args := [d1, d2] }
  | _ => none }
def FnExactCaselessSameWrongFalsely : Prop := fnExactCaselessSameRow.holds Tryd.pinned (OpenSpec.ofChange fnExactCaselessSameWrong)

/-- 'laws.FnJoinNormal': WHATEVER THE INPUT: true; the input reads as it did. -/
def fnJoinNormalSpec : ChangeSpec := { name := "fnJoinNormal", fn := fun _ => fun
  | [d] => { results := [.lit (.bool true)], args := [d] }
  | _ => none }
def fnJoinNormalRow : OpenClaim := { program := "ytdkoofdfkhogoaadoor", sum := "5dc977021602c5581d83119994087279d4d5cef2ba4651ff6dbb188f2479105a", func := "loop.example/g00044/laws.FnJoinNormal", spec := "fnJoinNormal", unfollowed := true, recurses := true, named := ["unicode/utf8.first", "unicode/utf8.acceptRanges"], plainKeys := false, apart := false, laid := [("unicode/utf8.acceptRanges", laid_unicode_utf8_acceptRanges), ("unicode/utf8.first", laid_unicode_utf8_first)] }
def FnJoinNormalSaid : Prop := fnJoinNormalRow.holds Tryd.pinned (OpenSpec.ofChange fnJoinNormalSpec)

/-- ITS FALSE NEIGHBOUR: 'it returns false'. Refute it at one input. -/
def fnJoinNormalWrong : ChangeSpec := { name := "fnJoinNormal", fn := fun _ => fun
  | [d] => { results := [.lit (.bool false)], args := [d] }
  | _ => none }
def FnJoinNormalWrongFalsely : Prop := fnJoinNormalRow.holds Tryd.pinned (OpenSpec.ofChange fnJoinNormalWrong)

/- THE SECOND FORM. 'bulk': how many values and letters a reading holds, each counted each time it is reached (what is shared counts as often as it is met; a slice's spare places count too). A statement '..UptoSaid' is the law's where the arguments, and the package variables that the reading takes, are together of bulk at most 1048576: NARROWER than '..Said'. Prove '..Said' where nothing that the law and all that it calls make is longer than what came in: it says more and counts as full. Else prove '..UptoSaid'. A law counts once. -/
mutual
def uptoBulk {H : Type} : DataW H → Nat
  | .lit (.string bytes) => bytes.length + 1
  | .lit _ => 1
  | .nil => 1
  | .ptr d => uptoBulk d + 1
  | .slice elems spare => uptoBulkAll elems + uptoBulkAll spare + 1
  | .agg parts => uptoBulkAll parts + 1
  | .iface _ d => uptoBulk d + 1
  | .map entries => uptoBulkEntries entries + 1
  | .held _ => 1
def uptoBulkAll {H : Type} : List (DataW H) → Nat
  | [] => 0
  | d :: r => uptoBulk d + uptoBulkAll r
def uptoBulkEntries {H : Type} : List (Lit × DataW H) → Nat
  | [] => 0
  | x :: r => uptoBulkEntry x + uptoBulkEntries r
def uptoBulkEntry {H : Type} : Lit × DataW H → Nat
  | (.string bytes, d) => bytes.length + uptoBulk d + 1
  | (_, d) => uptoBulk d + 1
 end
def uptoSmall : (H : Type) → List (DataW H) → Bool := fun _ ds => decide (uptoBulkAll ds ≤ 1048576)
def OpenSpec.upto (s : _root_.Go.ChangeSpec) : _root_.Go.OpenSpec := { _root_.Go.OpenSpec.ofChange s with cond := some uptoSmall }

/-- 'laws.FnShift', WHERE WHAT IT READS IS OF BULK AT MOST 1048576: true; the input reads as it did. -/
def fnShiftUptoRow : OpenClaim := { program := "ytdkoofdfkhogoaadoor", sum := "5dc977021602c5581d83119994087279d4d5cef2ba4651ff6dbb188f2479105a", func := "loop.example/g00044/laws.FnShift", spec := "fnShift", unfollowed := true, recurses := true, named := ["unicode/utf8.first", "unicode/utf8.acceptRanges"], plainKeys := false, apart := false, laid := [("unicode/utf8.acceptRanges", laid_unicode_utf8_acceptRanges), ("unicode/utf8.first", laid_unicode_utf8_first)], narrowed := true }
def FnShiftUptoSaid : Prop := fnShiftUptoRow.holds Tryd.pinned (OpenSpec.upto fnShiftSpec)

/-- 'laws.FnExactSentenceCuts', WHERE WHAT IT READS IS OF BULK AT MOST 1048576: true; the input reads as it did. -/
def fnExactSentenceCutsUptoRow : OpenClaim := { program := "ytdkoofdfkhogoaadoor", sum := "5dc977021602c5581d83119994087279d4d5cef2ba4651ff6dbb188f2479105a", func := "loop.example/g00044/laws.FnExactSentenceCuts", spec := "fnExactSentenceCuts", unfollowed := true, recurses := true, named := ["unicode/utf8.first", "unicode/utf8.acceptRanges"], plainKeys := false, apart := false, laid := [("unicode/utf8.acceptRanges", laid_unicode_utf8_acceptRanges), ("unicode/utf8.first", laid_unicode_utf8_first)], narrowed := true }
def FnExactSentenceCutsUptoSaid : Prop := fnExactSentenceCutsUptoRow.holds Tryd.pinned (OpenSpec.upto fnExactSentenceCutsSpec)

/-- 'laws.FnFewest', WHERE WHAT IT READS IS OF BULK AT MOST 1048576: true; the input reads as it did. -/
def fnFewestUptoRow : OpenClaim := { program := "ytdkoofdfkhogoaadoor", sum := "5dc977021602c5581d83119994087279d4d5cef2ba4651ff6dbb188f2479105a", func := "loop.example/g00044/laws.FnFewest", spec := "fnFewest", named := ["unicode/utf8.first", "unicode/utf8.acceptRanges"], plainKeys := false, apart := false, laid := [("unicode/utf8.acceptRanges", laid_unicode_utf8_acceptRanges), ("unicode/utf8.first", laid_unicode_utf8_first)], narrowed := true }
def FnFewestUptoSaid : Prop := fnFewestUptoRow.holds Tryd.pinned (OpenSpec.upto fnFewestSpec)

/-- 'laws.FnExactShowPasses', WHERE WHAT IT READS IS OF BULK AT MOST 1048576: true; the input reads as it did. -/
def fnExactShowPassesUptoRow : OpenClaim := { program := "ytdkoofdfkhogoaadoor", sum := "5dc977021602c5581d83119994087279d4d5cef2ba4651ff6dbb188f2479105a", func := "loop.example/g00044/laws.FnExactShowPasses", spec := "fnExactShowPasses", inPlace := ["internal/abi.NoEscape", "internal/bytealg.IndexByteString", "internal/bytealg.MakeNoZero"], named := ["loop.example/g00044/impl.normNames", "unicode/utf8.first", "unicode/utf8.acceptRanges"], plainKeys := false, apart := false, laid := [("unicode/utf8.acceptRanges", laid_unicode_utf8_acceptRanges), ("loop.example/g00044/impl.normNames", laid_loop_example_g00044_impl_normNames), ("unicode/utf8.first", laid_unicode_utf8_first)], narrowed := true }
def FnExactShowPassesUptoSaid : Prop := fnExactShowPassesUptoRow.holds Tryd.pinned (OpenSpec.upto fnExactShowPassesSpec)

/-- 'laws.FnChars', WHERE WHAT IT READS IS OF BULK AT MOST 1048576: true; the input reads as it did. -/
def fnCharsUptoRow : OpenClaim := { program := "ytdkoofdfkhogoaadoor", sum := "5dc977021602c5581d83119994087279d4d5cef2ba4651ff6dbb188f2479105a", func := "loop.example/g00044/laws.FnChars", spec := "fnChars", unfollowed := true, recurses := true, named := ["unicode/utf8.first", "unicode/utf8.acceptRanges"], plainKeys := false, apart := false, laid := [("unicode/utf8.acceptRanges", laid_unicode_utf8_acceptRanges), ("unicode/utf8.first", laid_unicode_utf8_first)], narrowed := true }
def FnCharsUptoSaid : Prop := fnCharsUptoRow.holds Tryd.pinned (OpenSpec.upto fnCharsSpec)

/-- 'laws.FnEquivalent', WHERE WHAT IT READS IS OF BULK AT MOST 1048576: true; the input reads as it did. -/
def fnEquivalentUptoRow : OpenClaim := { program := "ytdkoofdfkhogoaadoor", sum := "5dc977021602c5581d83119994087279d4d5cef2ba4651ff6dbb188f2479105a", func := "loop.example/g00044/laws.FnEquivalent", spec := "fnEquivalent", unfollowed := true, recurses := true, named := ["unicode/utf8.first", "unicode/utf8.acceptRanges"], plainKeys := false, apart := false, laid := [("unicode/utf8.acceptRanges", laid_unicode_utf8_acceptRanges), ("unicode/utf8.first", laid_unicode_utf8_first)], narrowed := true }
def FnEquivalentUptoSaid : Prop := fnEquivalentUptoRow.holds Tryd.pinned (OpenSpec.upto fnEquivalentSpec)

/-- 'laws.FnExactUnpackTrie', WHERE WHAT IT READS IS OF BULK AT MOST 1048576: true; the input reads as it did. -/
def fnExactUnpackTrieUptoRow : OpenClaim := { program := "ytdkoofdfkhogoaadoor", sum := "5dc977021602c5581d83119994087279d4d5cef2ba4651ff6dbb188f2479105a", func := "loop.example/g00044/laws.FnExactUnpackTrie", spec := "fnExactUnpackTrie", named := ["strconv.ErrSyntax", "strconv.ErrRange", "internal/strconv.uint64pow10", "math/bits.deBruijn32tab", "math/bits.deBruijn64tab"], plainKeys := false, apart := false, laid := [("math/bits.deBruijn32tab", laid_math_bits_deBruijn32tab), ("math/bits.deBruijn64tab", laid_math_bits_deBruijn64tab), ("internal/strconv.uint64pow10", laid_internal_strconv_uint64pow10), ("strconv.ErrRange", laid_strconv_ErrRange), ("strconv.ErrSyntax", laid_strconv_ErrSyntax)], narrowed := true }
def FnExactUnpackTrieUptoSaid : Prop := fnExactUnpackTrieUptoRow.holds Tryd.pinned (OpenSpec.upto fnExactUnpackTrieSpec)

/-- 'laws.FnStable', WHERE WHAT IT READS IS OF BULK AT MOST 1048576: true; the input reads as it did. -/
def fnStableUptoRow : OpenClaim := { program := "ytdkoofdfkhogoaadoor", sum := "5dc977021602c5581d83119994087279d4d5cef2ba4651ff6dbb188f2479105a", func := "loop.example/g00044/laws.FnStable", spec := "fnStable", unfollowed := true, recurses := true, named := ["unicode/utf8.first", "unicode/utf8.acceptRanges"], plainKeys := false, apart := false, laid := [("unicode/utf8.acceptRanges", laid_unicode_utf8_acceptRanges), ("unicode/utf8.first", laid_unicode_utf8_first)], narrowed := true }
def FnStableUptoSaid : Prop := fnStableUptoRow.holds Tryd.pinned (OpenSpec.upto fnStableSpec)

/-- 'laws.FnExactCaselessSame', WHERE WHAT IT READS IS OF BULK AT MOST 1048576: true; the input reads as it did. -/
def fnExactCaselessSameUptoRow : OpenClaim := { program := "ytdkoofdfkhogoaadoor", sum := "5dc977021602c5581d83119994087279d4d5cef2ba4651ff6dbb188f2479105a", func := "loop.example/g00044/laws.FnExactCaselessSame", spec := "fnExactCaselessSame", unfollowed := true, recurses := true, named := ["unicode/utf8.first", "unicode/utf8.acceptRanges"], plainKeys := false, apart := false, laid := [("unicode/utf8.acceptRanges", laid_unicode_utf8_acceptRanges), ("unicode/utf8.first", laid_unicode_utf8_first)], narrowed := true }
def FnExactCaselessSameUptoSaid : Prop := fnExactCaselessSameUptoRow.holds Tryd.pinned (OpenSpec.upto fnExactCaselessSameSpec)

/-- 'laws.FnJoinNormal', WHERE WHAT IT READS IS OF BULK AT MOST 1048576: true; the input reads as it did. -/
def fnJoinNormalUptoRow : OpenClaim := { program := "ytdkoofdfkhogoaadoor", sum := "5dc977021602c5581d83119994087279d4d5cef2ba4651ff6dbb188f2479105a", func := "loop.example/g00044/laws.FnJoinNormal", spec := "fnJoinNormal", unfollowed := true, recurses := true, named := ["unicode/utf8.first", "unicode/utf8.acceptRanges"], plainKeys := false, apart := false, laid := [("unicode/utf8.acceptRanges", laid_unicode_utf8_acceptRanges), ("unicode/utf8.first", laid_unicode_utf8_first)], narrowed := true }
def FnJoinNormalUptoSaid : Prop := fnJoinNormalUptoRow.holds Tryd.pinned (OpenSpec.upto fnJoinNormalSpec)

end Rows
end Go.Proofs.YtdkoofdfkhogoaaDoor

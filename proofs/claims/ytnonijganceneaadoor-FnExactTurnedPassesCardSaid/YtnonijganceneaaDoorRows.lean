/-
  NARROWER THAN 'FOR EVERY INPUT', by the rows' own cells (each row's printed sentence says how): FnKinds: maps, laid · FnNormer: laid · FnJoined: laid · FnExactDecode: laid · FnExactBaseOf: laid · FnExactTurnedPasses: laid · FnCodes: laid · FnExactTitle: laid · FnExactEndDecoder: laid · FnExactFeedDecoder: laid.
  DERIVED. THE GIVEN ROWS OF THIS SEAT. 10 by the template 'for every input the law returns true; each argument reads behind the call as it read before'; 0 by the template 'total and deterministic' (their statements: YtnonijganceneaaDoorTotals.lean).
  GIVEN WITH THE SEED: the statements are not yours to turn. If you find one false, say at which input.
  Laid BY PROGRAM, IN A SANDBOX (cutbox-rows.mjs): the forced cells as the released guide's own fill.sh prints them over the translation 2de4184b2a988864… (all of the seat's roots in one cut). By AI agents, Wed Nov 11 2026. No macro, syntax, notation, axiom, sorry.
-/
import Derived.Test.YtnonijganceneaaDoorChecked
import GoSem.PinnedTables
import GoSem.Claim
import GoSem.ClaimJoined
import GoSem.ClaimMapViews
import Derived.JoinedTies
import Derived.KernelRfl
namespace Go.Proofs.YtnonijganceneaaDoor
/- THE CELL 'sum', in the pinned program and in every row, IS THE sha256 OF THE DUMP (.gsa) THAT YtnonijganceneaaDoorProg.lean LOADS. Nothing in Lean hashes anything: it is a label: what it is worth is what the hold of that sum in a sandbox is worth. -/
noncomputable def Tryd.pinned : Pinned := { name := "ytnonijganceneaadoor", sum := "2de4184b2a9888646a7d9aac6cc5b14b8b369a972771284dfa092ffa83099645", checked := Tryd.checked }
namespace Rows
def none {H : Type} : Left H := { results := [], args := [] }

/- WHAT THE LISTED PACKAGE-LEVEL VARIABLES READ AS WHEN THE CALL BEGINS. Each datum BY PROGRAM (the guide's laid-datum.mjs) off the statement by which the dump's own 'gosem.cut.vars' lays the variable. In a bare row this is a premise. The card (YtnonijganceneaaDoorCards.lean) ties it to the program's text. -/
def laid_loop_example_g00044_impl_digitRows {H : Type} : DataW H := .slice [.lit (.int .i64 48), .lit (.int .i64 592), .lit (.int .i64 848), .lit (.int .i64 1104), .lit (.int .i64 1360), .lit (.int .i64 1616), .lit (.int .i64 10016)] []
def laid_loop_example_g00044_impl_mirrors {H : Type} : DataW H := .map [(.int .i64 40, .lit (.int .i64 41)), (.int .i64 41, .lit (.int .i64 40)), (.int .i64 60, .lit (.int .i64 62)), (.int .i64 62, .lit (.int .i64 60)), (.int .i64 91, .lit (.int .i64 93)), (.int .i64 93, .lit (.int .i64 91)), (.int .i64 123, .lit (.int .i64 125)), (.int .i64 125, .lit (.int .i64 123))]
def laid_unicode_utf8_acceptRanges {H : Type} : DataW H := .agg [.agg [.lit (.int .u8 128), .lit (.int .u8 191)], .agg [.lit (.int .u8 160), .lit (.int .u8 191)], .agg [.lit (.int .u8 128), .lit (.int .u8 159)], .agg [.lit (.int .u8 144), .lit (.int .u8 191)], .agg [.lit (.int .u8 128), .lit (.int .u8 143)], .agg [.lit (.int .u8 0), .lit (.int .u8 0)], .agg [.lit (.int .u8 0), .lit (.int .u8 0)], .agg [.lit (.int .u8 0), .lit (.int .u8 0)], .agg [.lit (.int .u8 0), .lit (.int .u8 0)], .agg [.lit (.int .u8 0), .lit (.int .u8 0)], .agg [.lit (.int .u8 0), .lit (.int .u8 0)], .agg [.lit (.int .u8 0), .lit (.int .u8 0)], .agg [.lit (.int .u8 0), .lit (.int .u8 0)], .agg [.lit (.int .u8 0), .lit (.int .u8 0)], .agg [.lit (.int .u8 0), .lit (.int .u8 0)], .agg [.lit (.int .u8 0), .lit (.int .u8 0)]]
/-- One of Go's own tables, pinned by name: the form's constant. -/
def laid_unicode_utf8_first : DataW Unit := Go.Pinned.utf8First

/-- 'laws.FnKinds': WHATEVER THE INPUT: true; the input reads as it did. -/
def fnKindsSpec : ChangeSpec := { name := "fnKinds", vars := ["loop.example/g00044/impl.digitRows", "loop.example/g00044/impl.mirrors"], fn := fun _ => fun
  | [d, g1, g2] => { results := [.lit (.bool true)], args := [d], vars := [g1, g2] }
  | _ => none }
def fnKindsRow : OpenClaim := { program := "ytnonijganceneaadoor", sum := "2de4184b2a9888646a7d9aac6cc5b14b8b369a972771284dfa092ffa83099645", func := "loop.example/g00044/laws.FnKinds", spec := "fnKinds", unfollowed := true, recurses := true, named := ["loop.example/g00044/impl.digitRows", "loop.example/g00044/impl.mirrors"], maps := true, apart := false, laid := [("loop.example/g00044/impl.digitRows", laid_loop_example_g00044_impl_digitRows), ("loop.example/g00044/impl.mirrors", laid_loop_example_g00044_impl_mirrors)] }
def FnKindsSaid : Prop := fnKindsRow.holds Tryd.pinned (OpenSpec.ofChange fnKindsSpec)

/-- ITS FALSE NEIGHBOUR: 'it returns false'. Refute it at one input. -/
def fnKindsWrong : ChangeSpec := { name := "fnKinds", vars := ["loop.example/g00044/impl.digitRows", "loop.example/g00044/impl.mirrors"], fn := fun _ => fun
  | [d, g1, g2] => { results := [.lit (.bool false)], args := [d], vars := [g1, g2] }
  | _ => none }
def FnKindsWrongFalsely : Prop := fnKindsRow.holds Tryd.pinned (OpenSpec.ofChange fnKindsWrong)

/-- 'laws.FnNormer': WHATEVER THE INPUT: true; the input reads as it did. -/
def fnNormerSpec : ChangeSpec := { name := "fnNormer", fn := fun _ => fun
  | [d1, d2] => { results := [.lit (.bool true)], args := [d1, d2] }
  | _ => none }
def fnNormerRow : OpenClaim := { program := "ytnonijganceneaadoor", sum := "2de4184b2a9888646a7d9aac6cc5b14b8b369a972771284dfa092ffa83099645", func := "loop.example/g00044/laws.FnNormer", spec := "fnNormer", unfollowed := true, recurses := true, named := ["unicode/utf8.first", "unicode/utf8.acceptRanges"], apart := false, laid := [("unicode/utf8.acceptRanges", laid_unicode_utf8_acceptRanges), ("unicode/utf8.first", laid_unicode_utf8_first)] }
def FnNormerSaid : Prop := fnNormerRow.holds Tryd.pinned (OpenSpec.ofChange fnNormerSpec)

/-- ITS FALSE NEIGHBOUR: 'it returns false'. Refute it at one input. -/
def fnNormerWrong : ChangeSpec := { name := "fnNormer", fn := fun _ => fun
  | [d1, d2] => { results := [.lit (.bool false)], args := [d1, d2] }
  | _ => none }
def FnNormerWrongFalsely : Prop := fnNormerRow.holds Tryd.pinned (OpenSpec.ofChange fnNormerWrong)

/-- 'laws.FnJoined': WHATEVER THE INPUT: true; the input reads as it did. -/
def fnJoinedSpec : ChangeSpec := { name := "fnJoined", fn := fun _ => fun
  | [d] => { results := [.lit (.bool true)], args := [d] }
  | _ => none }
def fnJoinedRow : OpenClaim := { program := "ytnonijganceneaadoor", sum := "2de4184b2a9888646a7d9aac6cc5b14b8b369a972771284dfa092ffa83099645", func := "loop.example/g00044/laws.FnJoined", spec := "fnJoined", unfollowed := true, recurses := true, named := ["unicode/utf8.first", "unicode/utf8.acceptRanges"], apart := false, laid := [("unicode/utf8.acceptRanges", laid_unicode_utf8_acceptRanges), ("unicode/utf8.first", laid_unicode_utf8_first)] }
def FnJoinedSaid : Prop := fnJoinedRow.holds Tryd.pinned (OpenSpec.ofChange fnJoinedSpec)

/-- ITS FALSE NEIGHBOUR: 'it returns false'. Refute it at one input. -/
def fnJoinedWrong : ChangeSpec := { name := "fnJoined", fn := fun _ => fun
  | [d] => { results := [.lit (.bool false)], args := [d] }
  | _ => none }
def FnJoinedWrongFalsely : Prop := fnJoinedRow.holds Tryd.pinned (OpenSpec.ofChange fnJoinedWrong)

/-- 'laws.FnExactDecode': WHATEVER THE INPUT: true; the input reads as it did. -/
def fnExactDecodeSpec : ChangeSpec := { name := "fnExactDecode", fn := fun _ => fun
  | [d1, d2] => { results := [.lit (.bool true)], args := [d1, d2] }
  | _ => none }
def fnExactDecodeRow : OpenClaim := { program := "ytnonijganceneaadoor", sum := "2de4184b2a9888646a7d9aac6cc5b14b8b369a972771284dfa092ffa83099645", func := "loop.example/g00044/laws.FnExactDecode", spec := "fnExactDecode", named := ["unicode/utf8.first", "unicode/utf8.acceptRanges", "encoding/binary.BigEndian", "encoding/binary.LittleEndian"], apart := false, laid := [("unicode/utf8.acceptRanges", laid_unicode_utf8_acceptRanges), ("unicode/utf8.first", laid_unicode_utf8_first)] }
def FnExactDecodeSaid : Prop := fnExactDecodeRow.holds Tryd.pinned (OpenSpec.ofChange fnExactDecodeSpec)

/-- ITS FALSE NEIGHBOUR: 'it returns false'. Refute it at one input. -/
def fnExactDecodeWrong : ChangeSpec := { name := "fnExactDecode", fn := fun _ => fun
  | [d1, d2] => { results := [.lit (.bool false)], args := [d1, d2] }
  | _ => none }
def FnExactDecodeWrongFalsely : Prop := fnExactDecodeRow.holds Tryd.pinned (OpenSpec.ofChange fnExactDecodeWrong)

/-- 'laws.FnExactBaseOf': WHATEVER THE INPUT: true; the input reads as it did. -/
def fnExactBaseOfSpec : ChangeSpec := { name := "fnExactBaseOf", fn := fun _ => fun
  | [d] => { results := [.lit (.bool true)], args := [d] }
  | _ => none }
def fnExactBaseOfRow : OpenClaim := { program := "ytnonijganceneaadoor", sum := "2de4184b2a9888646a7d9aac6cc5b14b8b369a972771284dfa092ffa83099645", func := "loop.example/g00044/laws.FnExactBaseOf", spec := "fnExactBaseOf", named := ["unicode/utf8.first", "unicode/utf8.acceptRanges"], apart := false, laid := [("unicode/utf8.acceptRanges", laid_unicode_utf8_acceptRanges), ("unicode/utf8.first", laid_unicode_utf8_first)] }
def FnExactBaseOfSaid : Prop := fnExactBaseOfRow.holds Tryd.pinned (OpenSpec.ofChange fnExactBaseOfSpec)

/-- ITS FALSE NEIGHBOUR: 'it returns false'. Refute it at one input. -/
def fnExactBaseOfWrong : ChangeSpec := { name := "fnExactBaseOf", fn := fun _ => fun
  | [d] => { results := [.lit (.bool false)], args := [d] }
  | _ => none }
def FnExactBaseOfWrongFalsely : Prop := fnExactBaseOfRow.holds Tryd.pinned (OpenSpec.ofChange fnExactBaseOfWrong)

/-- 'laws.FnExactTurnedPasses': WHATEVER THE INPUT: true; the input reads as it did. -/
def fnExactTurnedPassesSpec : ChangeSpec := { name := "fnExactTurnedPasses", fn := fun _ => fun
  | [d] => { results := [.lit (.bool true)], args := [d] }
  | _ => none }
def fnExactTurnedPassesRow : OpenClaim := { program := "ytnonijganceneaadoor", sum := "2de4184b2a9888646a7d9aac6cc5b14b8b369a972771284dfa092ffa83099645", func := "loop.example/g00044/laws.FnExactTurnedPasses", spec := "fnExactTurnedPasses", named := ["unicode/utf8.first", "unicode/utf8.acceptRanges"], apart := false, laid := [("unicode/utf8.acceptRanges", laid_unicode_utf8_acceptRanges), ("unicode/utf8.first", laid_unicode_utf8_first)] }
def FnExactTurnedPassesSaid : Prop := fnExactTurnedPassesRow.holds Tryd.pinned (OpenSpec.ofChange fnExactTurnedPassesSpec)

/-- ITS FALSE NEIGHBOUR: 'it returns false'. Refute it at one input. -/
def fnExactTurnedPassesWrong : ChangeSpec := { name := "fnExactTurnedPasses", fn := fun _ => fun
  | [d] => { results := [.lit (.bool false)], args := [d] }
  | _ => none }
def FnExactTurnedPassesWrongFalsely : Prop := fnExactTurnedPassesRow.holds Tryd.pinned (OpenSpec.ofChange fnExactTurnedPassesWrong)

/-- 'laws.FnCodes': WHATEVER THE INPUT: true; the input reads as it did. -/
def fnCodesSpec : ChangeSpec := { name := "fnCodes", fn := fun _ => fun
  | [d] => { results := [.lit (.bool true)], args := [d] }
  | _ => none }
def fnCodesRow : OpenClaim := { program := "ytnonijganceneaadoor", sum := "2de4184b2a9888646a7d9aac6cc5b14b8b369a972771284dfa092ffa83099645", func := "loop.example/g00044/laws.FnCodes", spec := "fnCodes", unfollowed := true, recurses := true, named := ["unicode/utf8.first", "unicode/utf8.acceptRanges", "encoding/binary.BigEndian", "encoding/binary.LittleEndian"], apart := false, laid := [("unicode/utf8.acceptRanges", laid_unicode_utf8_acceptRanges), ("unicode/utf8.first", laid_unicode_utf8_first)] }
def FnCodesSaid : Prop := fnCodesRow.holds Tryd.pinned (OpenSpec.ofChange fnCodesSpec)

/-- ITS FALSE NEIGHBOUR: 'it returns false'. Refute it at one input. -/
def fnCodesWrong : ChangeSpec := { name := "fnCodes", fn := fun _ => fun
  | [d] => { results := [.lit (.bool false)], args := [d] }
  | _ => none }
def FnCodesWrongFalsely : Prop := fnCodesRow.holds Tryd.pinned (OpenSpec.ofChange fnCodesWrong)

/-- 'laws.FnExactTitle': WHATEVER THE INPUT: true; the input reads as it did. -/
def fnExactTitleSpec : ChangeSpec := { name := "fnExactTitle", fn := fun _ => fun
  | [d] => { results := [.lit (.bool true)], args := [d] }
  | _ => none }
def fnExactTitleRow : OpenClaim := { program := "ytnonijganceneaadoor", sum := "2de4184b2a9888646a7d9aac6cc5b14b8b369a972771284dfa092ffa83099645", func := "loop.example/g00044/laws.FnExactTitle", spec := "fnExactTitle", unfollowed := true, recurses := true, named := ["unicode/utf8.first", "unicode/utf8.acceptRanges"], apart := false, laid := [("unicode/utf8.acceptRanges", laid_unicode_utf8_acceptRanges), ("unicode/utf8.first", laid_unicode_utf8_first)] }
def FnExactTitleSaid : Prop := fnExactTitleRow.holds Tryd.pinned (OpenSpec.ofChange fnExactTitleSpec)

/-- ITS FALSE NEIGHBOUR: 'it returns false'. Refute it at one input. -/
def fnExactTitleWrong : ChangeSpec := { name := "fnExactTitle", fn := fun _ => fun
  | [d] => { results := [.lit (.bool false)], args := [d] }
  | _ => none }
def FnExactTitleWrongFalsely : Prop := fnExactTitleRow.holds Tryd.pinned (OpenSpec.ofChange fnExactTitleWrong)

/-- 'laws.FnExactEndDecoder': WHATEVER THE INPUT: true; the input reads as it did. -/
def fnExactEndDecoderSpec : ChangeSpec := { name := "fnExactEndDecoder", fn := fun _ => fun
  | [d] => { results := [.lit (.bool true)], args := [d] }
  | _ => none }
def fnExactEndDecoderRow : OpenClaim := { program := "ytnonijganceneaadoor", sum := "2de4184b2a9888646a7d9aac6cc5b14b8b369a972771284dfa092ffa83099645", func := "loop.example/g00044/laws.FnExactEndDecoder", spec := "fnExactEndDecoder", named := ["unicode/utf8.first", "unicode/utf8.acceptRanges", "encoding/binary.BigEndian", "encoding/binary.LittleEndian"], apart := false, laid := [("unicode/utf8.acceptRanges", laid_unicode_utf8_acceptRanges), ("unicode/utf8.first", laid_unicode_utf8_first)] }
def FnExactEndDecoderSaid : Prop := fnExactEndDecoderRow.holds Tryd.pinned (OpenSpec.ofChange fnExactEndDecoderSpec)

/-- ITS FALSE NEIGHBOUR: 'it returns false'. Refute it at one input. -/
def fnExactEndDecoderWrong : ChangeSpec := { name := "fnExactEndDecoder", fn := fun _ => fun
  | [d] => { results := [.lit (.bool false)], args := [d] }
  | _ => none }
def FnExactEndDecoderWrongFalsely : Prop := fnExactEndDecoderRow.holds Tryd.pinned (OpenSpec.ofChange fnExactEndDecoderWrong)

/-- 'laws.FnExactFeedDecoder': WHATEVER THE INPUT: true; the input reads as it did. -/
def fnExactFeedDecoderSpec : ChangeSpec := { name := "fnExactFeedDecoder", fn := fun _ => fun
  | [d1, d2] => { results := [.lit (.bool true)], args := [d1, d2] }
  | _ => none }
def fnExactFeedDecoderRow : OpenClaim := { program := "ytnonijganceneaadoor", sum := "2de4184b2a9888646a7d9aac6cc5b14b8b369a972771284dfa092ffa83099645", func := "loop.example/g00044/laws.FnExactFeedDecoder", spec := "fnExactFeedDecoder", named := ["unicode/utf8.first", "unicode/utf8.acceptRanges", "encoding/binary.BigEndian", "encoding/binary.LittleEndian"], apart := false, laid := [("unicode/utf8.acceptRanges", laid_unicode_utf8_acceptRanges), ("unicode/utf8.first", laid_unicode_utf8_first)] }
def FnExactFeedDecoderSaid : Prop := fnExactFeedDecoderRow.holds Tryd.pinned (OpenSpec.ofChange fnExactFeedDecoderSpec)

/-- ITS FALSE NEIGHBOUR: 'it returns false'. Refute it at one input. -/
def fnExactFeedDecoderWrong : ChangeSpec := { name := "fnExactFeedDecoder", fn := fun _ => fun
  | [d1, d2] => { results := [.lit (.bool false)], args := [d1, d2] }
  | _ => none }
def FnExactFeedDecoderWrongFalsely : Prop := fnExactFeedDecoderRow.holds Tryd.pinned (OpenSpec.ofChange fnExactFeedDecoderWrong)

/- THE SECOND FORM. 'bulk': how many values and letters a reading holds, each counted each time it is reached (what is shared counts as often as it is met; a slice's spare places count too). A statement '..UptoSaid' is the law's where the arguments, and the package variables that the reading takes, are together of bulk at most 1048576: NARROWER than '..Said'. Prove '..Said' where nothing that the law and all that it calls make is longer than what came in: it says more and counts as full. Else prove '..UptoSaid'. A law counts once. -/
mutual
def uptoBulk {H : Type} : DataW H → Nat
  | .lit (.string bytes) => bytes.length + 1
  | .lit _ => 1
  | .nil => 1
  | .ptr d => uptoBulk d + 1
  | .slice elems spare => uptoBulkAll elems + uptoBulkAll spare + 1
  | .agg parts => uptoBulkAll parts + 1
  | .iface _ d => uptoBulk d + 1
  | .map entries => uptoBulkEntries entries + 1
  | .held _ => 1
def uptoBulkAll {H : Type} : List (DataW H) → Nat
  | [] => 0
  | d :: r => uptoBulk d + uptoBulkAll r
def uptoBulkEntries {H : Type} : List (Lit × DataW H) → Nat
  | [] => 0
  | x :: r => uptoBulkEntry x + uptoBulkEntries r
def uptoBulkEntry {H : Type} : Lit × DataW H → Nat
  | (.string bytes, d) => bytes.length + uptoBulk d + 1
  | (_, d) => uptoBulk d + 1
 end
def uptoSmall : (H : Type) → List (DataW H) → Bool := fun _ ds => decide (uptoBulkAll ds ≤ 1048576)
def OpenSpec.upto (s : _root_.Go.ChangeSpec) : _root_.Go.OpenSpec := { _root_.Go.OpenSpec.ofChange s with cond := some uptoSmall }

/-- 'laws.FnKinds', WHERE WHAT IT READS IS OF BULK AT MOST 1048576: true; the input reads as it did. -/
def fnKindsUptoRow : OpenClaim := { program := "ytnonijganceneaadoor", sum := "2de4184b2a9888646a7d9aac6cc5b14b8b369a972771284dfa092ffa83099645", func := "loop.example/g00044/laws.FnKinds", spec := "fnKinds", unfollowed := true, recurses := true, named := ["loop.example/g00044/impl.digitRows", "loop.example/g00044/impl.mirrors"], maps := true, apart := false, laid := [("loop.example/g00044/impl.digitRows", laid_loop_example_g00044_impl_digitRows), ("loop.example/g00044/impl.mirrors", laid_loop_example_g00044_impl_mirrors)], narrowed := true }
def FnKindsUptoSaid : Prop := fnKindsUptoRow.holds Tryd.pinned (OpenSpec.upto fnKindsSpec)

/-- 'laws.FnNormer', WHERE WHAT IT READS IS OF BULK AT MOST 1048576: true; the input reads as it did. -/
def fnNormerUptoRow : OpenClaim := { program := "ytnonijganceneaadoor", sum := "2de4184b2a9888646a7d9aac6cc5b14b8b369a972771284dfa092ffa83099645", func := "loop.example/g00044/laws.FnNormer", spec := "fnNormer", unfollowed := true, recurses := true, named := ["unicode/utf8.first", "unicode/utf8.acceptRanges"], apart := false, laid := [("unicode/utf8.acceptRanges", laid_unicode_utf8_acceptRanges), ("unicode/utf8.first", laid_unicode_utf8_first)], narrowed := true }
def FnNormerUptoSaid : Prop := fnNormerUptoRow.holds Tryd.pinned (OpenSpec.upto fnNormerSpec)

/-- 'laws.FnJoined', WHERE WHAT IT READS IS OF BULK AT MOST 1048576: true; the input reads as it did. -/
def fnJoinedUptoRow : OpenClaim := { program := "ytnonijganceneaadoor", sum := "2de4184b2a9888646a7d9aac6cc5b14b8b369a972771284dfa092ffa83099645", func := "loop.example/g00044/laws.FnJoined", spec := "fnJoined", unfollowed := true, recurses := true, named := ["unicode/utf8.first", "unicode/utf8.acceptRanges"], apart := false, laid := [("unicode/utf8.acceptRanges", laid_unicode_utf8_acceptRanges), ("unicode/utf8.first", laid_unicode_utf8_first)], narrowed := true }
def FnJoinedUptoSaid : Prop := fnJoinedUptoRow.holds Tryd.pinned (OpenSpec.upto fnJoinedSpec)

/-- 'laws.FnExactDecode', WHERE WHAT IT READS IS OF BULK AT MOST 1048576: true; the input reads as it did. -/
def fnExactDecodeUptoRow : OpenClaim := { program := "ytnonijganceneaadoor", sum := "2de4184b2a9888646a7d9aac6cc5b14b8b369a972771284dfa092ffa83099645", func := "loop.example/g00044/laws.FnExactDecode", spec := "fnExactDecode", named := ["unicode/utf8.first", "unicode/utf8.acceptRanges", "encoding/binary.BigEndian", "encoding/binary.LittleEndian"], apart := false, laid := [("unicode/utf8.acceptRanges", laid_unicode_utf8_acceptRanges), ("unicode/utf8.first", laid_unicode_utf8_first)], narrowed := true }
def FnExactDecodeUptoSaid : Prop := fnExactDecodeUptoRow.holds Tryd.pinned (OpenSpec.upto fnExactDecodeSpec)

/-- 'laws.FnExactBaseOf', WHERE WHAT IT READS IS OF BULK AT MOST 1048576: true; the input reads as it did. -/
def fnExactBaseOfUptoRow : OpenClaim := { program := "ytnonijganceneaadoor", sum := "2de4184b2a9888646a7d9aac6cc5b14b8b369a972771284dfa092ffa83099645", func := "loop.example/g00044/laws.FnExactBaseOf", spec := "fnExactBaseOf", named := ["unicode/utf8.first", "unicode/utf8.acceptRanges"], apart := false, laid := [("unicode/utf8.acceptRanges", laid_unicode_utf8_acceptRanges), ("unicode/utf8.first", laid_unicode_utf8_first)], narrowed := true }
def FnExactBaseOfUptoSaid : Prop := fnExactBaseOfUptoRow.holds Tryd.pinned (OpenSpec.upto fnExactBaseOfSpec)

/-- 'laws.FnExactTurnedPasses', WHERE WHAT IT READS IS OF BULK AT MOST 1048576: true; the input reads as it did. -/
def fnExactTurnedPassesUptoRow : OpenClaim := { program := "ytnonijganceneaadoor", sum := "2de4184b2a9888646a7d9aac6cc5b14b8b369a972771284dfa092ffa83099645", func := "loop.example/g00044/laws.FnExactTurnedPasses", spec := "fnExactTurnedPasses", named := ["unicode/utf8.first", "unicode/utf8.acceptRanges"], apart := false, laid := [("unicode/utf8.acceptRanges", laid_unicode_utf8_acceptRanges), ("unicode/utf8.first", laid_unicode_utf8_first)], narrowed := true }
def FnExactTurnedPassesUptoSaid : Prop := fnExactTurnedPassesUptoRow.holds Tryd.pinned (OpenSpec.upto fnExactTurnedPassesSpec)

/-- 'laws.FnCodes', WHERE WHAT IT READS IS OF BULK AT MOST 1048576: true; the input reads as it did. -/
def fnCodesUptoRow : OpenClaim := { program := "ytnonijganceneaadoor", sum := "2de4184b2a9888646a7d9aac6cc5b14b8b369a972771284dfa092ffa83099645", func := "loop.example/g00044/laws.FnCodes", spec := "fnCodes", unfollowed := true, recurses := true, named := ["unicode/utf8.first", "unicode/utf8.acceptRanges", "encoding/binary.BigEndian", "encoding/binary.LittleEndian"], apart := false, laid := [("unicode/utf8.acceptRanges", laid_unicode_utf8_acceptRanges), ("unicode/utf8.first", laid_unicode_utf8_first)], narrowed := true }
def FnCodesUptoSaid : Prop := fnCodesUptoRow.holds Tryd.pinned (OpenSpec.upto fnCodesSpec)

/-- 'laws.FnExactTitle', WHERE WHAT IT READS IS OF BULK AT MOST 1048576: true; the input reads as it did. -/
def fnExactTitleUptoRow : OpenClaim := { program := "ytnonijganceneaadoor", sum := "2de4184b2a9888646a7d9aac6cc5b14b8b369a972771284dfa092ffa83099645", func := "loop.example/g00044/laws.FnExactTitle", spec := "fnExactTitle", unfollowed := true, recurses := true, named := ["unicode/utf8.first", "unicode/utf8.acceptRanges"], apart := false, laid := [("unicode/utf8.acceptRanges", laid_unicode_utf8_acceptRanges), ("unicode/utf8.first", laid_unicode_utf8_first)], narrowed := true }
def FnExactTitleUptoSaid : Prop := fnExactTitleUptoRow.holds Tryd.pinned (OpenSpec.upto fnExactTitleSpec)

/-- 'laws.FnExactEndDecoder', WHERE WHAT IT READS IS OF BULK AT MOST 1048576: true; the input reads as it did. -/
def fnExactEndDecoderUptoRow : OpenClaim := { program := "ytnonijganceneaadoor", sum := "2de4184b2a9888646a7d9aac6cc5b14b8b369a972771284dfa092ffa83099645", func := "loop.example/g00044/laws.FnExactEndDecoder", spec := "fnExactEndDecoder", named := ["unicode/utf8.first", "unicode/utf8.acceptRanges", "encoding/binary.BigEndian", "encoding/binary.LittleEndian"], apart := false, laid := [("unicode/utf8.acceptRanges", laid_unicode_utf8_acceptRanges), ("unicode/utf8.first", laid_unicode_utf8_first)], narrowed := true }
def FnExactEndDecoderUptoSaid : Prop := fnExactEndDecoderUptoRow.holds Tryd.pinned (OpenSpec.upto fnExactEndDecoderSpec)

/-- 'laws.FnExactFeedDecoder', WHERE WHAT IT READS IS OF BULK AT MOST 1048576: true; the input reads as it did. -/
def fnExactFeedDecoderUptoRow : OpenClaim := { program := "ytnonijganceneaadoor", sum := "2de4184b2a9888646a7d9aac6cc5b14b8b369a972771284dfa092ffa83099645", func := "loop.example/g00044/laws.FnExactFeedDecoder", spec := "fnExactFeedDecoder", named := ["unicode/utf8.first", "unicode/utf8.acceptRanges", "encoding/binary.BigEndian", "encoding/binary.LittleEndian"], apart := false, laid := [("unicode/utf8.acceptRanges", laid_unicode_utf8_acceptRanges), ("unicode/utf8.first", laid_unicode_utf8_first)], narrowed := true }
def FnExactFeedDecoderUptoSaid : Prop := fnExactFeedDecoderUptoRow.holds Tryd.pinned (OpenSpec.upto fnExactFeedDecoderSpec)

end Rows
end Go.Proofs.YtnonijganceneaaDoor

/-
  NARROWER THAN 'FOR EVERY INPUT', by the rows' own cells (each row's printed sentence says how): FnDetected: laid · FnExactDetect: laid · FnPoints: laid · FnExactPassesFault: laid · FnExactUpper: laid · FnExactDecoderFault: laid · FnExactFold: laid · FnExactLower: laid.
  DERIVED. THE GIVEN ROWS OF THIS SEAT. 8 by the template 'for every input the law returns true; each argument reads behind the call as it read before'; 0 by the template 'total and deterministic' (their statements: YtphjfenhnhfakaaDoorTotals.lean).
  GIVEN WITH THE SEED: the statements are not yours to turn. If you find one false, say at which input.
  Laid BY PROGRAM, IN A SANDBOX (cutbox-rows.mjs): the forced cells as the released guide's own fill.sh prints them over the translation d54e887c8d03632a… (all of the seat's roots in one cut). By AI agents, Wed Nov 11 2026. No macro, syntax, notation, axiom, sorry.
-/
import Derived.Test.YtphjfenhnhfakaaDoorChecked
import GoSem.PinnedTables
import GoSem.Claim
import GoSem.ClaimJoined
import GoSem.ClaimMapViews
import Derived.JoinedTies
import Derived.KernelRfl
namespace Go.Proofs.YtphjfenhnhfakaaDoor
/- THE CELL 'sum', in the pinned program and in every row, IS THE sha256 OF THE DUMP (.gsa) THAT YtphjfenhnhfakaaDoorProg.lean LOADS. Nothing in Lean hashes anything: it is a label: what it is worth is what the hold of that sum in a sandbox is worth. -/
noncomputable def Tryd.pinned : Pinned := { name := "ytphjfenhnhfakaadoor", sum := "d54e887c8d03632a0724d581d21450bb4f39703c93dee2a3b7472d0278a44045", checked := Tryd.checked }
namespace Rows
def none {H : Type} : Left H := { results := [], args := [] }

/- WHAT THE LISTED PACKAGE-LEVEL VARIABLES READ AS WHEN THE CALL BEGINS. Each datum BY PROGRAM (the guide's laid-datum.mjs) off the statement by which the dump's own 'gosem.cut.vars' lays the variable. In a bare row this is a premise. The card (YtphjfenhnhfakaaDoorCards.lean) ties it to the program's text. -/
def laid_unicode_utf8_acceptRanges {H : Type} : DataW H := .agg [.agg [.lit (.int .u8 128), .lit (.int .u8 191)], .agg [.lit (.int .u8 160), .lit (.int .u8 191)], .agg [.lit (.int .u8 128), .lit (.int .u8 159)], .agg [.lit (.int .u8 144), .lit (.int .u8 191)], .agg [.lit (.int .u8 128), .lit (.int .u8 143)], .agg [.lit (.int .u8 0), .lit (.int .u8 0)], .agg [.lit (.int .u8 0), .lit (.int .u8 0)], .agg [.lit (.int .u8 0), .lit (.int .u8 0)], .agg [.lit (.int .u8 0), .lit (.int .u8 0)], .agg [.lit (.int .u8 0), .lit (.int .u8 0)], .agg [.lit (.int .u8 0), .lit (.int .u8 0)], .agg [.lit (.int .u8 0), .lit (.int .u8 0)], .agg [.lit (.int .u8 0), .lit (.int .u8 0)], .agg [.lit (.int .u8 0), .lit (.int .u8 0)], .agg [.lit (.int .u8 0), .lit (.int .u8 0)], .agg [.lit (.int .u8 0), .lit (.int .u8 0)]]
/-- One of Go's own tables, pinned by name: the form's constant. -/
def laid_unicode_utf8_first : DataW Unit := Go.Pinned.utf8First

/-- 'laws.FnDetected': WHATEVER THE INPUT: true; the input reads as it did. -/
def fnDetectedSpec : ChangeSpec := { name := "fnDetected", fn := fun _ => fun
  | [d] => { results := [.lit (.bool true)], args := [d] }
  | _ => none }
def fnDetectedRow : OpenClaim := { program := "ytphjfenhnhfakaadoor", sum := "d54e887c8d03632a0724d581d21450bb4f39703c93dee2a3b7472d0278a44045", func := "loop.example/g00044/laws.FnDetected", spec := "fnDetected", inPlace := ["internal/bytealg.IndexByteString"], named := ["unicode/utf8.first", "unicode/utf8.acceptRanges"], apart := false, laid := [("unicode/utf8.acceptRanges", laid_unicode_utf8_acceptRanges), ("unicode/utf8.first", laid_unicode_utf8_first)] }
def FnDetectedSaid : Prop := fnDetectedRow.holds Tryd.pinned (OpenSpec.ofChange fnDetectedSpec)

/-- ITS FALSE NEIGHBOUR: 'it returns false'. Refute it at one input. -/
def fnDetectedWrong : ChangeSpec := { name := "fnDetected", fn := fun _ => fun
  | [d] => { results := [.lit (.bool false)], args := [d] }
  | _ => none }
def FnDetectedWrongFalsely : Prop := fnDetectedRow.holds Tryd.pinned (OpenSpec.ofChange fnDetectedWrong)

/-- 'laws.FnExactDetect': WHATEVER THE INPUT: true; the input reads as it did. -/
def fnExactDetectSpec : ChangeSpec := { name := "fnExactDetect", fn := fun _ => fun
  | [d] => { results := [.lit (.bool true)], args := [d] }
  | _ => none }
def fnExactDetectRow : OpenClaim := { program := "ytphjfenhnhfakaadoor", sum := "d54e887c8d03632a0724d581d21450bb4f39703c93dee2a3b7472d0278a44045", func := "loop.example/g00044/laws.FnExactDetect", spec := "fnExactDetect", inPlace := ["internal/bytealg.IndexByteString"], named := ["unicode/utf8.first", "unicode/utf8.acceptRanges"], apart := false, laid := [("unicode/utf8.acceptRanges", laid_unicode_utf8_acceptRanges), ("unicode/utf8.first", laid_unicode_utf8_first)] }
def FnExactDetectSaid : Prop := fnExactDetectRow.holds Tryd.pinned (OpenSpec.ofChange fnExactDetectSpec)

/-- ITS FALSE NEIGHBOUR: 'it returns false'. Refute it at one input. -/
def fnExactDetectWrong : ChangeSpec := { name := "fnExactDetect", fn := fun _ => fun
  | [d] => { results := [.lit (.bool false)], args := [d] }
  | _ => none }
def FnExactDetectWrongFalsely : Prop := fnExactDetectRow.holds Tryd.pinned (OpenSpec.ofChange fnExactDetectWrong)

/-- 'laws.FnPoints': WHATEVER THE INPUT: true; the input reads as it did. -/
def fnPointsSpec : ChangeSpec := { name := "fnPoints", fn := fun _ => fun
  | [d] => { results := [.lit (.bool true)], args := [d] }
  | _ => none }
def fnPointsRow : OpenClaim := { program := "ytphjfenhnhfakaadoor", sum := "d54e887c8d03632a0724d581d21450bb4f39703c93dee2a3b7472d0278a44045", func := "loop.example/g00044/laws.FnPoints", spec := "fnPoints", named := ["unicode/utf8.first", "unicode/utf8.acceptRanges"], apart := false, laid := [("unicode/utf8.acceptRanges", laid_unicode_utf8_acceptRanges), ("unicode/utf8.first", laid_unicode_utf8_first)] }
def FnPointsSaid : Prop := fnPointsRow.holds Tryd.pinned (OpenSpec.ofChange fnPointsSpec)

/-- ITS FALSE NEIGHBOUR: 'it returns false'. Refute it at one input. -/
def fnPointsWrong : ChangeSpec := { name := "fnPoints", fn := fun _ => fun
  | [d] => { results := [.lit (.bool false)], args := [d] }
  | _ => none }
def FnPointsWrongFalsely : Prop := fnPointsRow.holds Tryd.pinned (OpenSpec.ofChange fnPointsWrong)

/-- 'laws.FnExactPassesFault': WHATEVER THE INPUT: true; the input reads as it did. -/
def fnExactPassesFaultSpec : ChangeSpec := { name := "fnExactPassesFault", fn := fun _ => fun
  | [d] => { results := [.lit (.bool true)], args := [d] }
  | _ => none }
def fnExactPassesFaultRow : OpenClaim := { program := "ytphjfenhnhfakaadoor", sum := "d54e887c8d03632a0724d581d21450bb4f39703c93dee2a3b7472d0278a44045", func := "loop.example/g00044/laws.FnExactPassesFault", spec := "fnExactPassesFault", named := ["unicode/utf8.first", "unicode/utf8.acceptRanges"], apart := false, laid := [("unicode/utf8.acceptRanges", laid_unicode_utf8_acceptRanges), ("unicode/utf8.first", laid_unicode_utf8_first)] }
def FnExactPassesFaultSaid : Prop := fnExactPassesFaultRow.holds Tryd.pinned (OpenSpec.ofChange fnExactPassesFaultSpec)

/-- ITS FALSE NEIGHBOUR: 'it returns false'. Refute it at one input. -/
def fnExactPassesFaultWrong : ChangeSpec := { name := "fnExactPassesFault", fn := fun _ => fun
  | [d] => { results := [.lit (.bool false)], args := [d] }
  | _ => none }
def FnExactPassesFaultWrongFalsely : Prop := fnExactPassesFaultRow.holds Tryd.pinned (OpenSpec.ofChange fnExactPassesFaultWrong)

/-- 'laws.FnExactUpper': WHATEVER THE INPUT: true; the input reads as it did. -/
def fnExactUpperSpec : ChangeSpec := { name := "fnExactUpper", fn := fun _ => fun
  | [d] => { results := [.lit (.bool true)], args := [d] }
  | _ => none }
def fnExactUpperRow : OpenClaim := { program := "ytphjfenhnhfakaadoor", sum := "d54e887c8d03632a0724d581d21450bb4f39703c93dee2a3b7472d0278a44045", func := "loop.example/g00044/laws.FnExactUpper", spec := "fnExactUpper", unfollowed := true, recurses := true, named := ["unicode/utf8.first", "unicode/utf8.acceptRanges"], apart := false, laid := [("unicode/utf8.acceptRanges", laid_unicode_utf8_acceptRanges), ("unicode/utf8.first", laid_unicode_utf8_first)] }
def FnExactUpperSaid : Prop := fnExactUpperRow.holds Tryd.pinned (OpenSpec.ofChange fnExactUpperSpec)

/-- ITS FALSE NEIGHBOUR: 'it returns false'. Refute it at one input. -/
def fnExactUpperWrong : ChangeSpec := { name := "fnExactUpper", fn := fun _ => fun
  | [d] => { results := [.lit (.bool false)], args := [d] }
  | _ => none }
def FnExactUpperWrongFalsely : Prop := fnExactUpperRow.holds Tryd.pinned (OpenSpec.ofChange fnExactUpperWrong)

/-- 'laws.FnExactDecoderFault': WHATEVER THE INPUT: true; the input reads as it did. -/
def fnExactDecoderFaultSpec : ChangeSpec := { name := "fnExactDecoderFault", fn := fun _ => fun
  | [d] => { results := [.lit (.bool true)], args := [d] }
  | _ => none }
def fnExactDecoderFaultRow : OpenClaim := { program := "ytphjfenhnhfakaadoor", sum := "d54e887c8d03632a0724d581d21450bb4f39703c93dee2a3b7472d0278a44045", func := "loop.example/g00044/laws.FnExactDecoderFault", spec := "fnExactDecoderFault", named := ["unicode/utf8.first", "unicode/utf8.acceptRanges", "encoding/binary.BigEndian", "encoding/binary.LittleEndian"], apart := false, laid := [("unicode/utf8.acceptRanges", laid_unicode_utf8_acceptRanges), ("unicode/utf8.first", laid_unicode_utf8_first)] }
def FnExactDecoderFaultSaid : Prop := fnExactDecoderFaultRow.holds Tryd.pinned (OpenSpec.ofChange fnExactDecoderFaultSpec)

/-- ITS FALSE NEIGHBOUR: 'it returns false'. Refute it at one input. -/
def fnExactDecoderFaultWrong : ChangeSpec := { name := "fnExactDecoderFault", fn := fun _ => fun
  | [d] => { results := [.lit (.bool false)], args := [d] }
  | _ => none }
def FnExactDecoderFaultWrongFalsely : Prop := fnExactDecoderFaultRow.holds Tryd.pinned (OpenSpec.ofChange fnExactDecoderFaultWrong)

/-- 'laws.FnExactFold': WHATEVER THE INPUT: true; the input reads as it did. -/
def fnExactFoldSpec : ChangeSpec := { name := "fnExactFold", fn := fun _ => fun
  | [d] => { results := [.lit (.bool true)], args := [d] }
  | _ => none }
def fnExactFoldRow : OpenClaim := { program := "ytphjfenhnhfakaadoor", sum := "d54e887c8d03632a0724d581d21450bb4f39703c93dee2a3b7472d0278a44045", func := "loop.example/g00044/laws.FnExactFold", spec := "fnExactFold", unfollowed := true, recurses := true, named := ["unicode/utf8.first", "unicode/utf8.acceptRanges"], apart := false, laid := [("unicode/utf8.acceptRanges", laid_unicode_utf8_acceptRanges), ("unicode/utf8.first", laid_unicode_utf8_first)] }
def FnExactFoldSaid : Prop := fnExactFoldRow.holds Tryd.pinned (OpenSpec.ofChange fnExactFoldSpec)

/-- ITS FALSE NEIGHBOUR: 'it returns false'. Refute it at one input. -/
def fnExactFoldWrong : ChangeSpec := { name := "fnExactFold", fn := fun _ => fun
  | [d] => { results := [.lit (.bool false)], args := [d] }
  | _ => none }
def FnExactFoldWrongFalsely : Prop := fnExactFoldRow.holds Tryd.pinned (OpenSpec.ofChange fnExactFoldWrong)

/-- 'laws.FnExactLower': WHATEVER THE INPUT: true; the input reads as it did. -/
def fnExactLowerSpec : ChangeSpec := { name := "fnExactLower", fn := fun _ => fun
  | [d] => { results := [.lit (.bool true)], args := [d] }
  | _ => none }
def fnExactLowerRow : OpenClaim := { program := "ytphjfenhnhfakaadoor", sum := "d54e887c8d03632a0724d581d21450bb4f39703c93dee2a3b7472d0278a44045", func := "loop.example/g00044/laws.FnExactLower", spec := "fnExactLower", unfollowed := true, recurses := true, named := ["unicode/utf8.first", "unicode/utf8.acceptRanges"], apart := false, laid := [("unicode/utf8.acceptRanges", laid_unicode_utf8_acceptRanges), ("unicode/utf8.first", laid_unicode_utf8_first)] }
def FnExactLowerSaid : Prop := fnExactLowerRow.holds Tryd.pinned (OpenSpec.ofChange fnExactLowerSpec)

/-- ITS FALSE NEIGHBOUR: 'it returns false'. Refute it at one input. -/
def fnExactLowerWrong : ChangeSpec := { name := "fnExactLower", fn := fun _ => fun
  | [d] => { results := [.lit (.bool false)], args := [d] }
  | _ => none }
def FnExactLowerWrongFalsely : Prop := fnExactLowerRow.holds Tryd.pinned (OpenSpec.ofChange fnExactLowerWrong)

/- THE SECOND FORM. 'bulk': how many values and letters a reading holds, each counted each time it is reached (what is shared counts as often as it is met; a slice's spare places count too). A statement '..UptoSaid' is the law's where the arguments, and the package variables that the reading takes, are together of bulk at most 1048576: NARROWER than '..Said'. Prove '..Said' where nothing that the law and all that it calls make is longer than what came in: it says more and counts as full. Else prove '..UptoSaid'. A law counts once. -/
mutual
def uptoBulk {H : Type} : DataW H → Nat
  | .lit (.string bytes) => bytes.length + 1
  | .lit _ => 1
  | .nil => 1
  | .ptr d => uptoBulk d + 1
  | .slice elems spare => uptoBulkAll elems + uptoBulkAll spare + 1
  | .agg parts => uptoBulkAll parts + 1
  | .iface _ d => uptoBulk d + 1
  | .map entries => uptoBulkEntries entries + 1
  | .held _ => 1
def uptoBulkAll {H : Type} : List (DataW H) → Nat
  | [] => 0
  | d :: r => uptoBulk d + uptoBulkAll r
def uptoBulkEntries {H : Type} : List (Lit × DataW H) → Nat
  | [] => 0
  | x :: r => uptoBulkEntry x + uptoBulkEntries r
def uptoBulkEntry {H : Type} : Lit × DataW H → Nat
  | (.string bytes, d) => bytes.length + uptoBulk d + 1
  | (_, d) => uptoBulk d + 1
 end
def uptoSmall : (H : Type) → List (DataW H) → Bool := fun _ ds => decide (uptoBulkAll ds ≤ 1048576)
def OpenSpec.upto (s : _root_.Go.ChangeSpec) : _root_.Go.OpenSpec := { _root_.Go.OpenSpec.ofChange s with cond := some uptoSmall }

/-- 'laws.FnDetected', WHERE WHAT IT READS IS OF BULK AT MOST 1048576: true; the input reads as it did. -/
def fnDetectedUptoRow : OpenClaim := { program := "ytphjfenhnhfakaadoor", sum := "d54e887c8d03632a0724d581d21450bb4f39703c93dee2a3b7472d0278a44045", func := "loop.example/g00044/laws.FnDetected", spec := "fnDetected", inPlace := ["internal/bytealg.IndexByteString"], named := ["unicode/utf8.first", "unicode/utf8.acceptRanges"], apart := false, laid := [("unicode/utf8.acceptRanges", laid_unicode_utf8_acceptRanges), ("unicode/utf8.first", laid_unicode_utf8_first)], narrowed := true }
def FnDetectedUptoSaid : Prop := fnDetectedUptoRow.holds Tryd.pinned (OpenSpec.upto fnDetectedSpec)

/-- 'laws.FnExactDetect', WHERE WHAT IT READS IS OF BULK AT MOST 1048576: true; the input reads as it did. -/
def fnExactDetectUptoRow : OpenClaim := { program := "ytphjfenhnhfakaadoor", sum := "d54e887c8d03632a0724d581d21450bb4f39703c93dee2a3b7472d0278a44045", func := "loop.example/g00044/laws.FnExactDetect", spec := "fnExactDetect", inPlace := ["internal/bytealg.IndexByteString"], named := ["unicode/utf8.first", "unicode/utf8.acceptRanges"], apart := false, laid := [("unicode/utf8.acceptRanges", laid_unicode_utf8_acceptRanges), ("unicode/utf8.first", laid_unicode_utf8_first)], narrowed := true }
def FnExactDetectUptoSaid : Prop := fnExactDetectUptoRow.holds Tryd.pinned (OpenSpec.upto fnExactDetectSpec)

/-- 'laws.FnPoints', WHERE WHAT IT READS IS OF BULK AT MOST 1048576: true; the input reads as it did. -/
def fnPointsUptoRow : OpenClaim := { program := "ytphjfenhnhfakaadoor", sum := "d54e887c8d03632a0724d581d21450bb4f39703c93dee2a3b7472d0278a44045", func := "loop.example/g00044/laws.FnPoints", spec := "fnPoints", named := ["unicode/utf8.first", "unicode/utf8.acceptRanges"], apart := false, laid := [("unicode/utf8.acceptRanges", laid_unicode_utf8_acceptRanges), ("unicode/utf8.first", laid_unicode_utf8_first)], narrowed := true }
def FnPointsUptoSaid : Prop := fnPointsUptoRow.holds Tryd.pinned (OpenSpec.upto fnPointsSpec)

/-- 'laws.FnExactPassesFault', WHERE WHAT IT READS IS OF BULK AT MOST 1048576: true; the input reads as it did. -/
def fnExactPassesFaultUptoRow : OpenClaim := { program := "ytphjfenhnhfakaadoor", sum := "d54e887c8d03632a0724d581d21450bb4f39703c93dee2a3b7472d0278a44045", func := "loop.example/g00044/laws.FnExactPassesFault", spec := "fnExactPassesFault", named := ["unicode/utf8.first", "unicode/utf8.acceptRanges"], apart := false, laid := [("unicode/utf8.acceptRanges", laid_unicode_utf8_acceptRanges), ("unicode/utf8.first", laid_unicode_utf8_first)], narrowed := true }
def FnExactPassesFaultUptoSaid : Prop := fnExactPassesFaultUptoRow.holds Tryd.pinned (OpenSpec.upto fnExactPassesFaultSpec)

/-- 'laws.FnExactUpper', WHERE WHAT IT READS IS OF BULK AT MOST 1048576: true; the input reads as it did. -/
def fnExactUpperUptoRow : OpenClaim := { program := "ytphjfenhnhfakaadoor", sum := "d54e887c8d03632a0724d581d21450bb4f39703c93dee2a3b7472d0278a44045", func := "loop.example/g00044/laws.FnExactUpper", spec := "fnExactUpper", unfollowed := true, recurses := true, named := ["unicode/utf8.first", "unicode/utf8.acceptRanges"], apart := false, laid := [("unicode/utf8.acceptRanges", laid_unicode_utf8_acceptRanges), ("unicode/utf8.first", laid_unicode_utf8_first)], narrowed := true }
def FnExactUpperUptoSaid : Prop := fnExactUpperUptoRow.holds Tryd.pinned (OpenSpec.upto fnExactUpperSpec)

/-- 'laws.FnExactDecoderFault', WHERE WHAT IT READS IS OF BULK AT MOST 1048576: true; the input reads as it did. -/
def fnExactDecoderFaultUptoRow : OpenClaim := { program := "ytphjfenhnhfakaadoor", sum := "d54e887c8d03632a0724d581d21450bb4f39703c93dee2a3b7472d0278a44045", func := "loop.example/g00044/laws.FnExactDecoderFault", spec := "fnExactDecoderFault", named := ["unicode/utf8.first", "unicode/utf8.acceptRanges", "encoding/binary.BigEndian", "encoding/binary.LittleEndian"], apart := false, laid := [("unicode/utf8.acceptRanges", laid_unicode_utf8_acceptRanges), ("unicode/utf8.first", laid_unicode_utf8_first)], narrowed := true }
def FnExactDecoderFaultUptoSaid : Prop := fnExactDecoderFaultUptoRow.holds Tryd.pinned (OpenSpec.upto fnExactDecoderFaultSpec)

/-- 'laws.FnExactFold', WHERE WHAT IT READS IS OF BULK AT MOST 1048576: true; the input reads as it did. -/
def fnExactFoldUptoRow : OpenClaim := { program := "ytphjfenhnhfakaadoor", sum := "d54e887c8d03632a0724d581d21450bb4f39703c93dee2a3b7472d0278a44045", func := "loop.example/g00044/laws.FnExactFold", spec := "fnExactFold", unfollowed := true, recurses := true, named := ["unicode/utf8.first", "unicode/utf8.acceptRanges"], apart := false, laid := [("unicode/utf8.acceptRanges", laid_unicode_utf8_acceptRanges), ("unicode/utf8.first", laid_unicode_utf8_first)], narrowed := true }
def FnExactFoldUptoSaid : Prop := fnExactFoldUptoRow.holds Tryd.pinned (OpenSpec.upto fnExactFoldSpec)

/-- 'laws.FnExactLower', WHERE WHAT IT READS IS OF BULK AT MOST 1048576: true; the input reads as it did. -/
def fnExactLowerUptoRow : OpenClaim := { program := "ytphjfenhnhfakaadoor", sum := "d54e887c8d03632a0724d581d21450bb4f39703c93dee2a3b7472d0278a44045", func := "loop.example/g00044/laws.FnExactLower", spec := "fnExactLower", unfollowed := true, recurses := true, named := ["unicode/utf8.first", "unicode/utf8.acceptRanges"], apart := false, laid := [("unicode/utf8.acceptRanges", laid_unicode_utf8_acceptRanges), ("unicode/utf8.first", laid_unicode_utf8_first)], narrowed := true }
def FnExactLowerUptoSaid : Prop := fnExactLowerUptoRow.holds Tryd.pinned (OpenSpec.upto fnExactLowerSpec)

end Rows
end Go.Proofs.YtphjfenhnhfakaaDoor

/-
  No cell of these rows narrows 'for every input' (looked for: loops, veiled, ifaces, maps, wideKeys, modest, calm, conditions, laid).
  DERIVED. THE GIVEN ROWS OF THIS SEAT. 4 by the template 'for every input the law returns true; each argument reads behind the call as it read before'; 0 by the template 'total and deterministic' (their statements: YtphjfenhnhfakaaTotals.lean).
  GIVEN WITH THE SEED: the statements are not yours to turn. If you find one false, say at which input.
  Laid BY PROGRAM, IN A SANDBOX (cutbox-rows.mjs): the forced cells as the released guide's own fill.sh prints them over the translation 7aec4ae6b041ee3a… (all of the seat's roots in one cut). By AI agents, Wed Nov 11 2026. No macro, syntax, notation, axiom, sorry.
-/
import Derived.Test.YtphjfenhnhfakaaChecked
import GoSem.Claim
import GoSem.ClaimJoined
import GoSem.ClaimMapViews
import Derived.JoinedTies
import Derived.KernelRfl
namespace Go.Proofs.Ytphjfenhnhfakaa
/- THE CELL 'sum', in the pinned program and in every row, IS THE sha256 OF THE DUMP (.gsa) THAT YtphjfenhnhfakaaProg.lean LOADS. Nothing in Lean hashes anything: it is a label: what it is worth is what the hold of that sum in a sandbox is worth. -/
noncomputable def Try.pinned : Pinned := { name := "ytphjfenhnhfakaa", sum := "7aec4ae6b041ee3a4f2975ea0ec1e585b02f7a07726bf96d7389a72af633a8ef", checked := Try.checked }
namespace Rows
def none {H : Type} : Left H := { results := [], args := [] }

/-- 'laws.FnExactSimpleLower': WHATEVER THE INPUT: true; the input reads as it did. -/
def fnExactSimpleLowerSpec : ChangeSpec := { name := "fnExactSimpleLower", fn := fun _ => fun
  | [d] => { results := [.lit (.bool true)], args := [d] }
  | _ => none }
def fnExactSimpleLowerRow : OpenClaim := { program := "ytphjfenhnhfakaa", sum := "7aec4ae6b041ee3a4f2975ea0ec1e585b02f7a07726bf96d7389a72af633a8ef", func := "loop.example/g00044/laws.FnExactSimpleLower", spec := "fnExactSimpleLower", apart := false }
def FnExactSimpleLowerSaid : Prop := fnExactSimpleLowerRow.holds Try.pinned (OpenSpec.ofChange fnExactSimpleLowerSpec)

/-- ITS FALSE NEIGHBOUR: 'it returns false'. Refute it at one input. -/
def fnExactSimpleLowerWrong : ChangeSpec := { name := "fnExactSimpleLower", fn := fun _ => fun
  | [d] => { results := [.lit (.bool false)], args := [d] }
  | _ => none }
def FnExactSimpleLowerWrongFalsely : Prop := fnExactSimpleLowerRow.holds Try.pinned (OpenSpec.ofChange fnExactSimpleLowerWrong)

/-- 'laws.FnExactSimpleTitle': WHATEVER THE INPUT: true; the input reads as it did. -/
def fnExactSimpleTitleSpec : ChangeSpec := { name := "fnExactSimpleTitle", fn := fun _ => fun
  | [d] => { results := [.lit (.bool true)], args := [d] }
  | _ => none }
def fnExactSimpleTitleRow : OpenClaim := { program := "ytphjfenhnhfakaa", sum := "7aec4ae6b041ee3a4f2975ea0ec1e585b02f7a07726bf96d7389a72af633a8ef", func := "loop.example/g00044/laws.FnExactSimpleTitle", spec := "fnExactSimpleTitle", apart := false }
def FnExactSimpleTitleSaid : Prop := fnExactSimpleTitleRow.holds Try.pinned (OpenSpec.ofChange fnExactSimpleTitleSpec)

/-- ITS FALSE NEIGHBOUR: 'it returns false'. Refute it at one input. -/
def fnExactSimpleTitleWrong : ChangeSpec := { name := "fnExactSimpleTitle", fn := fun _ => fun
  | [d] => { results := [.lit (.bool false)], args := [d] }
  | _ => none }
def FnExactSimpleTitleWrongFalsely : Prop := fnExactSimpleTitleRow.holds Try.pinned (OpenSpec.ofChange fnExactSimpleTitleWrong)

/-- 'laws.FnExactSimpleUpper': WHATEVER THE INPUT: true; the input reads as it did. -/
def fnExactSimpleUpperSpec : ChangeSpec := { name := "fnExactSimpleUpper", fn := fun _ => fun
  | [d] => { results := [.lit (.bool true)], args := [d] }
  | _ => none }
def fnExactSimpleUpperRow : OpenClaim := { program := "ytphjfenhnhfakaa", sum := "7aec4ae6b041ee3a4f2975ea0ec1e585b02f7a07726bf96d7389a72af633a8ef", func := "loop.example/g00044/laws.FnExactSimpleUpper", spec := "fnExactSimpleUpper", apart := false }
def FnExactSimpleUpperSaid : Prop := fnExactSimpleUpperRow.holds Try.pinned (OpenSpec.ofChange fnExactSimpleUpperSpec)

/-- ITS FALSE NEIGHBOUR: 'it returns false'. Refute it at one input. -/
def fnExactSimpleUpperWrong : ChangeSpec := { name := "fnExactSimpleUpper", fn := fun _ => fun
  | [d] => { results := [.lit (.bool false)], args := [d] }
  | _ => none }
def FnExactSimpleUpperWrongFalsely : Prop := fnExactSimpleUpperRow.holds Try.pinned (OpenSpec.ofChange fnExactSimpleUpperWrong)

/-- 'laws.FnCarets': WHATEVER THE INPUT: true; the input reads as it did. -/
def fnCaretsSpec : ChangeSpec := { name := "fnCarets", fn := fun _ => fun
  | [d1, d2] => { results := [.lit (.bool true)], args := [d1, d2] }
  | _ => none }
def fnCaretsRow : OpenClaim := { program := "ytphjfenhnhfakaa", sum := "7aec4ae6b041ee3a4f2975ea0ec1e585b02f7a07726bf96d7389a72af633a8ef", func := "loop.example/g00044/laws.FnCarets", spec := "fnCarets", apart := false }
def FnCaretsSaid : Prop := fnCaretsRow.holds Try.pinned (OpenSpec.ofChange fnCaretsSpec)

/-- ITS FALSE NEIGHBOUR: 'it returns false'. Refute it at one input. -/
def fnCaretsWrong : ChangeSpec := { name := "fnCarets", fn := fun _ => fun
  | [d1, d2] => { results := [.lit (.bool false)], args := [d1, d2] }
  | _ => none }
def FnCaretsWrongFalsely : Prop := fnCaretsRow.holds Try.pinned (OpenSpec.ofChange fnCaretsWrong)

/- THE SECOND FORM. 'bulk': how many values and letters a reading holds, each counted each time it is reached (what is shared counts as often as it is met; a slice's spare places count too). A statement '..UptoSaid' is the law's where the arguments, and the package variables that the reading takes, are together of bulk at most 1048576: NARROWER than '..Said'. Prove '..Said' where nothing that the law and all that it calls make is longer than what came in: it says more and counts as full. Else prove '..UptoSaid'. A law counts once. -/
mutual
def uptoBulk {H : Type} : DataW H → Nat
  | .lit (.string bytes) => bytes.length + 1
  | .lit _ => 1
  | .nil => 1
  | .ptr d => uptoBulk d + 1
  | .slice elems spare => uptoBulkAll elems + uptoBulkAll spare + 1
  | .agg parts => uptoBulkAll parts + 1
  | .iface _ d => uptoBulk d + 1
  | .map entries => uptoBulkEntries entries + 1
  | .held _ => 1
def uptoBulkAll {H : Type} : List (DataW H) → Nat
  | [] => 0
  | d :: r => uptoBulk d + uptoBulkAll r
def uptoBulkEntries {H : Type} : List (Lit × DataW H) → Nat
  | [] => 0
  | x :: r => uptoBulkEntry x + uptoBulkEntries r
def uptoBulkEntry {H : Type} : Lit × DataW H → Nat
  | (.string bytes, d) => bytes.length + uptoBulk d + 1
  | (_, d) => uptoBulk d + 1
 end
def uptoSmall : (H : Type) → List (DataW H) → Bool := fun _ ds => decide (uptoBulkAll ds ≤ 1048576)
def OpenSpec.upto (s : _root_.Go.ChangeSpec) : _root_.Go.OpenSpec := { _root_.Go.OpenSpec.ofChange s with cond := some uptoSmall }

/-- 'laws.FnExactSimpleLower', WHERE WHAT IT READS IS OF BULK AT MOST 1048576: true; the input reads as it did. -/
def fnExactSimpleLowerUptoRow : OpenClaim := { program := "ytphjfenhnhfakaa", sum := "7aec4ae6b041ee3a4f2975ea0ec1e585b02f7a07726bf96d7389a72af633a8ef", func := "loop.example/g00044/laws.FnExactSimpleLower", spec := "fnExactSimpleLower", apart := false, narrowed := true }
def FnExactSimpleLowerUptoSaid : Prop := fnExactSimpleLowerUptoRow.holds Try.pinned (OpenSpec.upto fnExactSimpleLowerSpec)

/-- 'laws.FnExactSimpleTitle', WHERE WHAT IT READS IS OF BULK AT MOST 1048576: true; the input reads as it did. -/
def fnExactSimpleTitleUptoRow : OpenClaim := { program := "ytphjfenhnhfakaa", sum := "7aec4ae6b041ee3a4f2975ea0ec1e585b02f7a07726bf96d7389a72af633a8ef", func := "loop.example/g00044/laws.FnExactSimpleTitle", spec := "fnExactSimpleTitle", apart := false, narrowed := true }
def FnExactSimpleTitleUptoSaid : Prop := fnExactSimpleTitleUptoRow.holds Try.pinned (OpenSpec.upto fnExactSimpleTitleSpec)

/-- 'laws.FnExactSimpleUpper', WHERE WHAT IT READS IS OF BULK AT MOST 1048576: true; the input reads as it did. -/
def fnExactSimpleUpperUptoRow : OpenClaim := { program := "ytphjfenhnhfakaa", sum := "7aec4ae6b041ee3a4f2975ea0ec1e585b02f7a07726bf96d7389a72af633a8ef", func := "loop.example/g00044/laws.FnExactSimpleUpper", spec := "fnExactSimpleUpper", apart := false, narrowed := true }
def FnExactSimpleUpperUptoSaid : Prop := fnExactSimpleUpperUptoRow.holds Try.pinned (OpenSpec.upto fnExactSimpleUpperSpec)

/-- 'laws.FnCarets', WHERE WHAT IT READS IS OF BULK AT MOST 1048576: true; the input reads as it did. -/
def fnCaretsUptoRow : OpenClaim := { program := "ytphjfenhnhfakaa", sum := "7aec4ae6b041ee3a4f2975ea0ec1e585b02f7a07726bf96d7389a72af633a8ef", func := "loop.example/g00044/laws.FnCarets", spec := "fnCarets", apart := false, narrowed := true }
def FnCaretsUptoSaid : Prop := fnCaretsUptoRow.holds Try.pinned (OpenSpec.upto fnCaretsSpec)

end Rows
end Go.Proofs.Ytphjfenhnhfakaa

/-
  DERIVED. GIVEN WITH THE SEED: THE CARDS: each row of YtiabgmddnddeiaaDoorRows.lean that lists a variable, with what it lists TIED to the program's text (the seventh form; the later family's looks); each row that meets fmt, with fmt's text TOLD by the authors' own Lean function (tested against real Go, not proved from fmt's source: count such statements apart). THE CARD IS WHAT COUNTS. Prove the row's statement (the work); the ties are given (YtiabgmddnddeiaaDoorTie.lean); close each card by the builder's one call (the guide's Derived/Test/ToyasCard.lean, 'card_holds'). Laid BY PROGRAM, IN A SANDBOX (cutbox-door.mjs). By AI agents, Wed Nov 11 2026. No macro, syntax, notation, axiom, sorry.
-/
import Derived.Test.YtiabgmddnddeiaaDoorRows
import GoSem.ClaimSeven
namespace Go.Proofs.YtiabgmddnddeiaaDoor
namespace Rows

/-- THE TIED CARD OF 'laws.FnNormer'. -/
def fnNormerCard : Claim7 := { stood := { row := fnNormerRow, standIns := [], harness := (true, "1b2575646944e52fa290789c489585c1848aef1c152e23816bcb225275c9cfbd"), looks := false }, kinds := [], alts := [], laidByText := true, laidKinds := [.data, .pinned], laidTests := true, laidLooks := .later }
def FnNormerCardSaid : Prop := Claim7.holds Tryd.pinned (.plain (OpenSpec.ofChange fnNormerSpec)) fnNormerCard

/-- THE TIED CARD OF 'laws.FnShift'. -/
def fnShiftCard : Claim7 := { stood := { row := fnShiftRow, standIns := [], harness := (true, "1b2575646944e52fa290789c489585c1848aef1c152e23816bcb225275c9cfbd"), looks := false }, kinds := [], alts := [], laidByText := true, laidKinds := [.data, .pinned], laidTests := true, laidLooks := .later }
def FnShiftCardSaid : Prop := Claim7.holds Tryd.pinned (.plain (OpenSpec.ofChange fnShiftSpec)) fnShiftCard

/-- THE TIED CARD OF 'laws.FnExactSentenceCuts'. -/
def fnExactSentenceCutsCard : Claim7 := { stood := { row := fnExactSentenceCutsRow, standIns := [], harness := (true, "1b2575646944e52fa290789c489585c1848aef1c152e23816bcb225275c9cfbd"), looks := false }, kinds := [], alts := [], laidByText := true, laidKinds := [.data, .pinned], laidTests := true, laidLooks := .later }
def FnExactSentenceCutsCardSaid : Prop := Claim7.holds Tryd.pinned (.plain (OpenSpec.ofChange fnExactSentenceCutsSpec)) fnExactSentenceCutsCard

/-- THE TIED CARD OF 'laws.FnExactShowPasses'. -/
def fnExactShowPassesCard : Claim7 := { stood := { row := fnExactShowPassesRow, standIns := [], harness := (true, "1b2575646944e52fa290789c489585c1848aef1c152e23816bcb225275c9cfbd"), looks := false }, kinds := [], alts := [], laidByText := true, laidKinds := [.data, .data, .pinned], laidTests := true, laidLooks := .later }
def FnExactShowPassesCardSaid : Prop := Claim7.holds Tryd.pinned (.plain (OpenSpec.ofChange fnExactShowPassesSpec)) fnExactShowPassesCard

/-- THE TIED CARD OF 'laws.FnChars'. -/
def fnCharsCard : Claim7 := { stood := { row := fnCharsRow, standIns := [], harness := (true, "1b2575646944e52fa290789c489585c1848aef1c152e23816bcb225275c9cfbd"), looks := false }, kinds := [], alts := [], laidByText := true, laidKinds := [.data, .pinned], laidTests := true, laidLooks := .later }
def FnCharsCardSaid : Prop := Claim7.holds Tryd.pinned (.plain (OpenSpec.ofChange fnCharsSpec)) fnCharsCard

/-- THE TIED CARD OF 'laws.FnStable'. -/
def fnStableCard : Claim7 := { stood := { row := fnStableRow, standIns := [], harness := (true, "1b2575646944e52fa290789c489585c1848aef1c152e23816bcb225275c9cfbd"), looks := false }, kinds := [], alts := [], laidByText := true, laidKinds := [.data, .pinned], laidTests := true, laidLooks := .later }
def FnStableCardSaid : Prop := Claim7.holds Tryd.pinned (.plain (OpenSpec.ofChange fnStableSpec)) fnStableCard

/-- THE TIED CARD OF 'laws.FnJoinNormal'. -/
def fnJoinNormalCard : Claim7 := { stood := { row := fnJoinNormalRow, standIns := [], harness := (true, "1b2575646944e52fa290789c489585c1848aef1c152e23816bcb225275c9cfbd"), looks := false }, kinds := [], alts := [], laidByText := true, laidKinds := [.data, .pinned], laidTests := true, laidLooks := .later }
def FnJoinNormalCardSaid : Prop := Claim7.holds Tryd.pinned (.plain (OpenSpec.ofChange fnJoinNormalSpec)) fnJoinNormalCard

/-- THE TIED CARD OF 'laws.FnQuick'. -/
def fnQuickCard : Claim7 := { stood := { row := fnQuickRow, standIns := [], harness := (true, "1b2575646944e52fa290789c489585c1848aef1c152e23816bcb225275c9cfbd"), looks := false }, kinds := [], alts := [], laidByText := true, laidKinds := [.data, .pinned], laidTests := true, laidLooks := .later }
def FnQuickCardSaid : Prop := Claim7.holds Tryd.pinned (.plain (OpenSpec.ofChange fnQuickSpec)) fnQuickCard

/-- THE TIED CARD OF 'laws.FnFolded'. -/
def fnFoldedCard : Claim7 := { stood := { row := fnFoldedRow, standIns := [], harness := (true, "1b2575646944e52fa290789c489585c1848aef1c152e23816bcb225275c9cfbd"), looks := false }, kinds := [], alts := [], laidByText := true, laidKinds := [.data, .pinned], laidTests := true, laidLooks := .later }
def FnFoldedCardSaid : Prop := Claim7.holds Tryd.pinned (.plain (OpenSpec.ofChange fnFoldedSpec)) fnFoldedCard

/-- THE TIED CARD OF 'laws.FnExactWriteOver'. -/
def fnExactWriteOverCard : Claim7 := { stood := { row := fnExactWriteOverRow, standIns := [], harness := (true, "1b2575646944e52fa290789c489585c1848aef1c152e23816bcb225275c9cfbd"), looks := false }, kinds := [], alts := [], laidByText := true, laidKinds := [.data, .pinned], laidTests := true, laidLooks := .later }
def FnExactWriteOverCardSaid : Prop := Claim7.holds Tryd.pinned (.plain (OpenSpec.ofChange fnExactWriteOverSpec)) fnExactWriteOverCard

/-- THE TIED CARD OF 'laws.FnExactComesBack'. -/
def fnExactComesBackCard : Claim7 := { stood := { row := fnExactComesBackRow, standIns := [], harness := (true, "1b2575646944e52fa290789c489585c1848aef1c152e23816bcb225275c9cfbd"), looks := false }, kinds := [], alts := [], laidByText := true, laidKinds := [.data, .pinned], laidTests := true, laidLooks := .later }
def FnExactComesBackCardSaid : Prop := Claim7.holds Tryd.pinned (.plain (OpenSpec.ofChange fnExactComesBackSpec)) fnExactComesBackCard

/-- THE SECOND FORM's CARD OF 'laws.FnNormer'. -/
def fnNormerUptoCard : Claim7 := { stood := { row := fnNormerUptoRow, standIns := [], harness := (true, "1b2575646944e52fa290789c489585c1848aef1c152e23816bcb225275c9cfbd"), looks := false }, kinds := [], alts := [], laidByText := true, laidKinds := [.data, .pinned], laidTests := true, laidLooks := .later }
def FnNormerUptoCardSaid : Prop := Claim7.holds Tryd.pinned (.plain (OpenSpec.upto fnNormerSpec)) fnNormerUptoCard

/-- THE SECOND FORM's CARD OF 'laws.FnShift'. -/
def fnShiftUptoCard : Claim7 := { stood := { row := fnShiftUptoRow, standIns := [], harness := (true, "1b2575646944e52fa290789c489585c1848aef1c152e23816bcb225275c9cfbd"), looks := false }, kinds := [], alts := [], laidByText := true, laidKinds := [.data, .pinned], laidTests := true, laidLooks := .later }
def FnShiftUptoCardSaid : Prop := Claim7.holds Tryd.pinned (.plain (OpenSpec.upto fnShiftSpec)) fnShiftUptoCard

/-- THE SECOND FORM's CARD OF 'laws.FnExactSentenceCuts'. -/
def fnExactSentenceCutsUptoCard : Claim7 := { stood := { row := fnExactSentenceCutsUptoRow, standIns := [], harness := (true, "1b2575646944e52fa290789c489585c1848aef1c152e23816bcb225275c9cfbd"), looks := false }, kinds := [], alts := [], laidByText := true, laidKinds := [.data, .pinned], laidTests := true, laidLooks := .later }
def FnExactSentenceCutsUptoCardSaid : Prop := Claim7.holds Tryd.pinned (.plain (OpenSpec.upto fnExactSentenceCutsSpec)) fnExactSentenceCutsUptoCard

/-- THE SECOND FORM's CARD OF 'laws.FnExactShowPasses'. -/
def fnExactShowPassesUptoCard : Claim7 := { stood := { row := fnExactShowPassesUptoRow, standIns := [], harness := (true, "1b2575646944e52fa290789c489585c1848aef1c152e23816bcb225275c9cfbd"), looks := false }, kinds := [], alts := [], laidByText := true, laidKinds := [.data, .data, .pinned], laidTests := true, laidLooks := .later }
def FnExactShowPassesUptoCardSaid : Prop := Claim7.holds Tryd.pinned (.plain (OpenSpec.upto fnExactShowPassesSpec)) fnExactShowPassesUptoCard

/-- THE SECOND FORM's CARD OF 'laws.FnChars'. -/
def fnCharsUptoCard : Claim7 := { stood := { row := fnCharsUptoRow, standIns := [], harness := (true, "1b2575646944e52fa290789c489585c1848aef1c152e23816bcb225275c9cfbd"), looks := false }, kinds := [], alts := [], laidByText := true, laidKinds := [.data, .pinned], laidTests := true, laidLooks := .later }
def FnCharsUptoCardSaid : Prop := Claim7.holds Tryd.pinned (.plain (OpenSpec.upto fnCharsSpec)) fnCharsUptoCard

/-- THE SECOND FORM's CARD OF 'laws.FnStable'. -/
def fnStableUptoCard : Claim7 := { stood := { row := fnStableUptoRow, standIns := [], harness := (true, "1b2575646944e52fa290789c489585c1848aef1c152e23816bcb225275c9cfbd"), looks := false }, kinds := [], alts := [], laidByText := true, laidKinds := [.data, .pinned], laidTests := true, laidLooks := .later }
def FnStableUptoCardSaid : Prop := Claim7.holds Tryd.pinned (.plain (OpenSpec.upto fnStableSpec)) fnStableUptoCard

/-- THE SECOND FORM's CARD OF 'laws.FnJoinNormal'. -/
def fnJoinNormalUptoCard : Claim7 := { stood := { row := fnJoinNormalUptoRow, standIns := [], harness := (true, "1b2575646944e52fa290789c489585c1848aef1c152e23816bcb225275c9cfbd"), looks := false }, kinds := [], alts := [], laidByText := true, laidKinds := [.data, .pinned], laidTests := true, laidLooks := .later }
def FnJoinNormalUptoCardSaid : Prop := Claim7.holds Tryd.pinned (.plain (OpenSpec.upto fnJoinNormalSpec)) fnJoinNormalUptoCard

/-- THE SECOND FORM's CARD OF 'laws.FnQuick'. -/
def fnQuickUptoCard : Claim7 := { stood := { row := fnQuickUptoRow, standIns := [], harness := (true, "1b2575646944e52fa290789c489585c1848aef1c152e23816bcb225275c9cfbd"), looks := false }, kinds := [], alts := [], laidByText := true, laidKinds := [.data, .pinned], laidTests := true, laidLooks := .later }
def FnQuickUptoCardSaid : Prop := Claim7.holds Tryd.pinned (.plain (OpenSpec.upto fnQuickSpec)) fnQuickUptoCard

/-- THE SECOND FORM's CARD OF 'laws.FnFolded'. -/
def fnFoldedUptoCard : Claim7 := { stood := { row := fnFoldedUptoRow, standIns := [], harness := (true, "1b2575646944e52fa290789c489585c1848aef1c152e23816bcb225275c9cfbd"), looks := false }, kinds := [], alts := [], laidByText := true, laidKinds := [.data, .pinned], laidTests := true, laidLooks := .later }
def FnFoldedUptoCardSaid : Prop := Claim7.holds Tryd.pinned (.plain (OpenSpec.upto fnFoldedSpec)) fnFoldedUptoCard

/-- THE SECOND FORM's CARD OF 'laws.FnExactWriteOver'. -/
def fnExactWriteOverUptoCard : Claim7 := { stood := { row := fnExactWriteOverUptoRow, standIns := [], harness := (true, "1b2575646944e52fa290789c489585c1848aef1c152e23816bcb225275c9cfbd"), looks := false }, kinds := [], alts := [], laidByText := true, laidKinds := [.data, .pinned], laidTests := true, laidLooks := .later }
def FnExactWriteOverUptoCardSaid : Prop := Claim7.holds Tryd.pinned (.plain (OpenSpec.upto fnExactWriteOverSpec)) fnExactWriteOverUptoCard

/-- THE SECOND FORM's CARD OF 'laws.FnExactComesBack'. -/
def fnExactComesBackUptoCard : Claim7 := { stood := { row := fnExactComesBackUptoRow, standIns := [], harness := (true, "1b2575646944e52fa290789c489585c1848aef1c152e23816bcb225275c9cfbd"), looks := false }, kinds := [], alts := [], laidByText := true, laidKinds := [.data, .pinned], laidTests := true, laidLooks := .later }
def FnExactComesBackUptoCardSaid : Prop := Claim7.holds Tryd.pinned (.plain (OpenSpec.upto fnExactComesBackSpec)) fnExactComesBackUptoCard
end Rows
end Go.Proofs.YtiabgmddnddeiaaDoor

/-
  DERIVED. GIVEN WITH THE SEED: THE CARDS: each row of YtdkoofdfkhogoaaDoorRows.lean that lists a variable, with what it lists TIED to the program's text (the seventh form; the later family's looks); each row that meets fmt, with fmt's text TOLD by the authors' own Lean function (tested against real Go, not proved from fmt's source: count such statements apart). THE CARD IS WHAT COUNTS. Prove the row's statement (the work); the ties are given (YtdkoofdfkhogoaaDoorTie.lean); close each card by the builder's one call (the guide's Derived/Test/ToyasCard.lean, 'card_holds'). Laid BY PROGRAM, IN A SANDBOX (cutbox-door.mjs). By AI agents, Wed Nov 11 2026. No macro, syntax, notation, axiom, sorry.
-/
import Derived.Test.YtdkoofdfkhogoaaDoorRows
import GoSem.ClaimSeven
namespace Go.Proofs.YtdkoofdfkhogoaaDoor
namespace Rows

/-- THE TIED CARD OF 'laws.FnShift'. -/
def fnShiftCard : Claim7 := { stood := { row := fnShiftRow, standIns := [], harness := (true, "5d45b73c17f65cbba23d2dce9960bd2fef509cb5ad066ef446d6e17e22ab9f14"), looks := true }, kinds := [], alts := [], laidByText := true, laidKinds := [.data, .pinned], laidTests := true, laidLooks := .later }
def FnShiftCardSaid : Prop := Claim7.holds Tryd.pinned (.plain (OpenSpec.ofChange fnShiftSpec)) fnShiftCard

/-- THE TIED CARD OF 'laws.FnExactSentenceCuts'. -/
def fnExactSentenceCutsCard : Claim7 := { stood := { row := fnExactSentenceCutsRow, standIns := [], harness := (true, "5d45b73c17f65cbba23d2dce9960bd2fef509cb5ad066ef446d6e17e22ab9f14"), looks := true }, kinds := [], alts := [], laidByText := true, laidKinds := [.data, .pinned], laidTests := true, laidLooks := .later }
def FnExactSentenceCutsCardSaid : Prop := Claim7.holds Tryd.pinned (.plain (OpenSpec.ofChange fnExactSentenceCutsSpec)) fnExactSentenceCutsCard

/-- THE TIED CARD OF 'laws.FnFewest'. -/
def fnFewestCard : Claim7 := { stood := { row := fnFewestRow, standIns := [], harness := (true, "5d45b73c17f65cbba23d2dce9960bd2fef509cb5ad066ef446d6e17e22ab9f14"), looks := true }, kinds := [], alts := [], laidByText := true, laidKinds := [.data, .pinned], laidTests := true, laidLooks := .later }
def FnFewestCardSaid : Prop := Claim7.holds Tryd.pinned (.plain (OpenSpec.ofChange fnFewestSpec)) fnFewestCard

/-- THE TIED CARD OF 'laws.FnExactShowPasses'. -/
def fnExactShowPassesCard : Claim7 := { stood := { row := fnExactShowPassesRow, standIns := [], harness := (true, "5d45b73c17f65cbba23d2dce9960bd2fef509cb5ad066ef446d6e17e22ab9f14"), looks := true }, kinds := [], alts := [], laidByText := true, laidKinds := [.data, .data, .pinned], laidTests := true, laidLooks := .later }
def FnExactShowPassesCardSaid : Prop := Claim7.holds Tryd.pinned (.plain (OpenSpec.ofChange fnExactShowPassesSpec)) fnExactShowPassesCard

/-- THE TIED CARD OF 'laws.FnChars'. -/
def fnCharsCard : Claim7 := { stood := { row := fnCharsRow, standIns := [], harness := (true, "5d45b73c17f65cbba23d2dce9960bd2fef509cb5ad066ef446d6e17e22ab9f14"), looks := true }, kinds := [], alts := [], laidByText := true, laidKinds := [.data, .pinned], laidTests := true, laidLooks := .later }
def FnCharsCardSaid : Prop := Claim7.holds Tryd.pinned (.plain (OpenSpec.ofChange fnCharsSpec)) fnCharsCard

/-- THE TIED CARD OF 'laws.FnEquivalent'. -/
def fnEquivalentCard : Claim7 := { stood := { row := fnEquivalentRow, standIns := [], harness := (true, "5d45b73c17f65cbba23d2dce9960bd2fef509cb5ad066ef446d6e17e22ab9f14"), looks := true }, kinds := [], alts := [], laidByText := true, laidKinds := [.data, .pinned], laidTests := true, laidLooks := .later }
def FnEquivalentCardSaid : Prop := Claim7.holds Tryd.pinned (.plain (OpenSpec.ofChange fnEquivalentSpec)) fnEquivalentCard

/-- THE TIED CARD OF 'laws.FnExactUnpackTrie'. -/
def fnExactUnpackTrieCard : Claim7 := { stood := { row := fnExactUnpackTrieRow, standIns := [], harness := (true, "5d45b73c17f65cbba23d2dce9960bd2fef509cb5ad066ef446d6e17e22ab9f14"), looks := true }, kinds := [], alts := [], laidByText := true, laidKinds := [.data, .data, .data, .sentinel, .sentinel], laidTests := true, laidLooks := .later }
def FnExactUnpackTrieCardSaid : Prop := Claim7.holds Tryd.pinned (.plain (OpenSpec.ofChange fnExactUnpackTrieSpec)) fnExactUnpackTrieCard

/-- THE TIED CARD OF 'laws.FnStable'. -/
def fnStableCard : Claim7 := { stood := { row := fnStableRow, standIns := [], harness := (true, "5d45b73c17f65cbba23d2dce9960bd2fef509cb5ad066ef446d6e17e22ab9f14"), looks := true }, kinds := [], alts := [], laidByText := true, laidKinds := [.data, .pinned], laidTests := true, laidLooks := .later }
def FnStableCardSaid : Prop := Claim7.holds Tryd.pinned (.plain (OpenSpec.ofChange fnStableSpec)) fnStableCard

/-- THE TIED CARD OF 'laws.FnExactCaselessSame'. -/
def fnExactCaselessSameCard : Claim7 := { stood := { row := fnExactCaselessSameRow, standIns := [], harness := (true, "5d45b73c17f65cbba23d2dce9960bd2fef509cb5ad066ef446d6e17e22ab9f14"), looks := true }, kinds := [], alts := [], laidByText := true, laidKinds := [.data, .pinned], laidTests := true, laidLooks := .later }
def FnExactCaselessSameCardSaid : Prop := Claim7.holds Tryd.pinned (.plain (OpenSpec.ofChange fnExactCaselessSameSpec)) fnExactCaselessSameCard

/-- THE TIED CARD OF 'laws.FnJoinNormal'. -/
def fnJoinNormalCard : Claim7 := { stood := { row := fnJoinNormalRow, standIns := [], harness := (true, "5d45b73c17f65cbba23d2dce9960bd2fef509cb5ad066ef446d6e17e22ab9f14"), looks := true }, kinds := [], alts := [], laidByText := true, laidKinds := [.data, .pinned], laidTests := true, laidLooks := .later }
def FnJoinNormalCardSaid : Prop := Claim7.holds Tryd.pinned (.plain (OpenSpec.ofChange fnJoinNormalSpec)) fnJoinNormalCard

/-- THE SECOND FORM's CARD OF 'laws.FnShift'. -/
def fnShiftUptoCard : Claim7 := { stood := { row := fnShiftUptoRow, standIns := [], harness := (true, "5d45b73c17f65cbba23d2dce9960bd2fef509cb5ad066ef446d6e17e22ab9f14"), looks := true }, kinds := [], alts := [], laidByText := true, laidKinds := [.data, .pinned], laidTests := true, laidLooks := .later }
def FnShiftUptoCardSaid : Prop := Claim7.holds Tryd.pinned (.plain (OpenSpec.upto fnShiftSpec)) fnShiftUptoCard

/-- THE SECOND FORM's CARD OF 'laws.FnExactSentenceCuts'. -/
def fnExactSentenceCutsUptoCard : Claim7 := { stood := { row := fnExactSentenceCutsUptoRow, standIns := [], harness := (true, "5d45b73c17f65cbba23d2dce9960bd2fef509cb5ad066ef446d6e17e22ab9f14"), looks := true }, kinds := [], alts := [], laidByText := true, laidKinds := [.data, .pinned], laidTests := true, laidLooks := .later }
def FnExactSentenceCutsUptoCardSaid : Prop := Claim7.holds Tryd.pinned (.plain (OpenSpec.upto fnExactSentenceCutsSpec)) fnExactSentenceCutsUptoCard

/-- THE SECOND FORM's CARD OF 'laws.FnFewest'. -/
def fnFewestUptoCard : Claim7 := { stood := { row := fnFewestUptoRow, standIns := [], harness := (true, "5d45b73c17f65cbba23d2dce9960bd2fef509cb5ad066ef446d6e17e22ab9f14"), looks := true }, kinds := [], alts := [], laidByText := true, laidKinds := [.data, .pinned], laidTests := true, laidLooks := .later }
def FnFewestUptoCardSaid : Prop := Claim7.holds Tryd.pinned (.plain (OpenSpec.upto fnFewestSpec)) fnFewestUptoCard

/-- THE SECOND FORM's CARD OF 'laws.FnExactShowPasses'. -/
def fnExactShowPassesUptoCard : Claim7 := { stood := { row := fnExactShowPassesUptoRow, standIns := [], harness := (true, "5d45b73c17f65cbba23d2dce9960bd2fef509cb5ad066ef446d6e17e22ab9f14"), looks := true }, kinds := [], alts := [], laidByText := true, laidKinds := [.data, .data, .pinned], laidTests := true, laidLooks := .later }
def FnExactShowPassesUptoCardSaid : Prop := Claim7.holds Tryd.pinned (.plain (OpenSpec.upto fnExactShowPassesSpec)) fnExactShowPassesUptoCard

/-- THE SECOND FORM's CARD OF 'laws.FnChars'. -/
def fnCharsUptoCard : Claim7 := { stood := { row := fnCharsUptoRow, standIns := [], harness := (true, "5d45b73c17f65cbba23d2dce9960bd2fef509cb5ad066ef446d6e17e22ab9f14"), looks := true }, kinds := [], alts := [], laidByText := true, laidKinds := [.data, .pinned], laidTests := true, laidLooks := .later }
def FnCharsUptoCardSaid : Prop := Claim7.holds Tryd.pinned (.plain (OpenSpec.upto fnCharsSpec)) fnCharsUptoCard

/-- THE SECOND FORM's CARD OF 'laws.FnEquivalent'. -/
def fnEquivalentUptoCard : Claim7 := { stood := { row := fnEquivalentUptoRow, standIns := [], harness := (true, "5d45b73c17f65cbba23d2dce9960bd2fef509cb5ad066ef446d6e17e22ab9f14"), looks := true }, kinds := [], alts := [], laidByText := true, laidKinds := [.data, .pinned], laidTests := true, laidLooks := .later }
def FnEquivalentUptoCardSaid : Prop := Claim7.holds Tryd.pinned (.plain (OpenSpec.upto fnEquivalentSpec)) fnEquivalentUptoCard

/-- THE SECOND FORM's CARD OF 'laws.FnExactUnpackTrie'. -/
def fnExactUnpackTrieUptoCard : Claim7 := { stood := { row := fnExactUnpackTrieUptoRow, standIns := [], harness := (true, "5d45b73c17f65cbba23d2dce9960bd2fef509cb5ad066ef446d6e17e22ab9f14"), looks := true }, kinds := [], alts := [], laidByText := true, laidKinds := [.data, .data, .data, .sentinel, .sentinel], laidTests := true, laidLooks := .later }
def FnExactUnpackTrieUptoCardSaid : Prop := Claim7.holds Tryd.pinned (.plain (OpenSpec.upto fnExactUnpackTrieSpec)) fnExactUnpackTrieUptoCard

/-- THE SECOND FORM's CARD OF 'laws.FnStable'. -/
def fnStableUptoCard : Claim7 := { stood := { row := fnStableUptoRow, standIns := [], harness := (true, "5d45b73c17f65cbba23d2dce9960bd2fef509cb5ad066ef446d6e17e22ab9f14"), looks := true }, kinds := [], alts := [], laidByText := true, laidKinds := [.data, .pinned], laidTests := true, laidLooks := .later }
def FnStableUptoCardSaid : Prop := Claim7.holds Tryd.pinned (.plain (OpenSpec.upto fnStableSpec)) fnStableUptoCard

/-- THE SECOND FORM's CARD OF 'laws.FnExactCaselessSame'. -/
def fnExactCaselessSameUptoCard : Claim7 := { stood := { row := fnExactCaselessSameUptoRow, standIns := [], harness := (true, "5d45b73c17f65cbba23d2dce9960bd2fef509cb5ad066ef446d6e17e22ab9f14"), looks := true }, kinds := [], alts := [], laidByText := true, laidKinds := [.data, .pinned], laidTests := true, laidLooks := .later }
def FnExactCaselessSameUptoCardSaid : Prop := Claim7.holds Tryd.pinned (.plain (OpenSpec.upto fnExactCaselessSameSpec)) fnExactCaselessSameUptoCard

/-- THE SECOND FORM's CARD OF 'laws.FnJoinNormal'. -/
def fnJoinNormalUptoCard : Claim7 := { stood := { row := fnJoinNormalUptoRow, standIns := [], harness := (true, "5d45b73c17f65cbba23d2dce9960bd2fef509cb5ad066ef446d6e17e22ab9f14"), looks := true }, kinds := [], alts := [], laidByText := true, laidKinds := [.data, .pinned], laidTests := true, laidLooks := .later }
def FnJoinNormalUptoCardSaid : Prop := Claim7.holds Tryd.pinned (.plain (OpenSpec.upto fnJoinNormalSpec)) fnJoinNormalUptoCard
end Rows
end Go.Proofs.YtdkoofdfkhogoaaDoor

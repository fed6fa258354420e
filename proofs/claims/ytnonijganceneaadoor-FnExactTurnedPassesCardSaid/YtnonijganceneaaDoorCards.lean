/-
  DERIVED. GIVEN WITH THE SEED: THE CARDS: each row of YtnonijganceneaaDoorRows.lean that lists a variable, with what it lists TIED to the program's text (the seventh form; the later family's looks); each row that meets fmt, with fmt's text TOLD by the authors' own Lean function (tested against real Go, not proved from fmt's source: count such statements apart). THE CARD IS WHAT COUNTS. Prove the row's statement (the work); the ties are given (YtnonijganceneaaDoorTie.lean); close each card by the builder's one call (the guide's Derived/Test/ToyasCard.lean, 'card_holds'). Laid BY PROGRAM, IN A SANDBOX (cutbox-door.mjs). By AI agents, Wed Nov 11 2026. No macro, syntax, notation, axiom, sorry.
-/
import Derived.Test.YtnonijganceneaaDoorRows
import GoSem.ClaimSeven
namespace Go.Proofs.YtnonijganceneaaDoor
namespace Rows

/-- THE TIED CARD OF 'laws.FnKinds'. -/
def fnKindsCard : Claim7 := { stood := { row := fnKindsRow, standIns := [], harness := (true, "25887f1a0cd299e231a0a7159ac4545bc96c8a321aee80b8e5a6c38b89e28b16"), looks := false }, kinds := [], alts := [], laidByText := true, laidKinds := [.data, .mapped], laidTests := true, laidLooks := .later }
def FnKindsCardSaid : Prop := Claim7.holds Tryd.pinned (.plain (OpenSpec.ofChange fnKindsSpec)) fnKindsCard

/-- THE TIED CARD OF 'laws.FnNormer'. -/
def fnNormerCard : Claim7 := { stood := { row := fnNormerRow, standIns := [], harness := (true, "25887f1a0cd299e231a0a7159ac4545bc96c8a321aee80b8e5a6c38b89e28b16"), looks := false }, kinds := [], alts := [], laidByText := true, laidKinds := [.data, .pinned], laidTests := true, laidLooks := .later }
def FnNormerCardSaid : Prop := Claim7.holds Tryd.pinned (.plain (OpenSpec.ofChange fnNormerSpec)) fnNormerCard

/-- THE TIED CARD OF 'laws.FnJoined'. -/
def fnJoinedCard : Claim7 := { stood := { row := fnJoinedRow, standIns := [], harness := (true, "25887f1a0cd299e231a0a7159ac4545bc96c8a321aee80b8e5a6c38b89e28b16"), looks := false }, kinds := [], alts := [], laidByText := true, laidKinds := [.data, .pinned], laidTests := true, laidLooks := .later }
def FnJoinedCardSaid : Prop := Claim7.holds Tryd.pinned (.plain (OpenSpec.ofChange fnJoinedSpec)) fnJoinedCard

/-- THE TIED CARD OF 'laws.FnExactDecode'. -/
def fnExactDecodeCard : Claim7 := { stood := { row := fnExactDecodeRow, standIns := [], harness := (true, "25887f1a0cd299e231a0a7159ac4545bc96c8a321aee80b8e5a6c38b89e28b16"), looks := false }, kinds := [], alts := [], laidByText := true, laidKinds := [.data, .pinned], laidTests := true, laidLooks := .later }
def FnExactDecodeCardSaid : Prop := Claim7.holds Tryd.pinned (.plain (OpenSpec.ofChange fnExactDecodeSpec)) fnExactDecodeCard

/-- THE TIED CARD OF 'laws.FnExactBaseOf'. -/
def fnExactBaseOfCard : Claim7 := { stood := { row := fnExactBaseOfRow, standIns := [], harness := (true, "25887f1a0cd299e231a0a7159ac4545bc96c8a321aee80b8e5a6c38b89e28b16"), looks := false }, kinds := [], alts := [], laidByText := true, laidKinds := [.data, .pinned], laidTests := true, laidLooks := .later }
def FnExactBaseOfCardSaid : Prop := Claim7.holds Tryd.pinned (.plain (OpenSpec.ofChange fnExactBaseOfSpec)) fnExactBaseOfCard

/-- THE TIED CARD OF 'laws.FnExactTurnedPasses'. -/
def fnExactTurnedPassesCard : Claim7 := { stood := { row := fnExactTurnedPassesRow, standIns := [], harness := (true, "25887f1a0cd299e231a0a7159ac4545bc96c8a321aee80b8e5a6c38b89e28b16"), looks := false }, kinds := [], alts := [], laidByText := true, laidKinds := [.data, .pinned], laidTests := true, laidLooks := .later }
def FnExactTurnedPassesCardSaid : Prop := Claim7.holds Tryd.pinned (.plain (OpenSpec.ofChange fnExactTurnedPassesSpec)) fnExactTurnedPassesCard

/-- THE TIED CARD OF 'laws.FnCodes'. -/
def fnCodesCard : Claim7 := { stood := { row := fnCodesRow, standIns := [], harness := (true, "25887f1a0cd299e231a0a7159ac4545bc96c8a321aee80b8e5a6c38b89e28b16"), looks := false }, kinds := [], alts := [], laidByText := true, laidKinds := [.data, .pinned], laidTests := true, laidLooks := .later }
def FnCodesCardSaid : Prop := Claim7.holds Tryd.pinned (.plain (OpenSpec.ofChange fnCodesSpec)) fnCodesCard

/-- THE TIED CARD OF 'laws.FnExactTitle'. -/
def fnExactTitleCard : Claim7 := { stood := { row := fnExactTitleRow, standIns := [], harness := (true, "25887f1a0cd299e231a0a7159ac4545bc96c8a321aee80b8e5a6c38b89e28b16"), looks := false }, kinds := [], alts := [], laidByText := true, laidKinds := [.data, .pinned], laidTests := true, laidLooks := .later }
def FnExactTitleCardSaid : Prop := Claim7.holds Tryd.pinned (.plain (OpenSpec.ofChange fnExactTitleSpec)) fnExactTitleCard

/-- THE TIED CARD OF 'laws.FnExactEndDecoder'. -/
def fnExactEndDecoderCard : Claim7 := { stood := { row := fnExactEndDecoderRow, standIns := [], harness := (true, "25887f1a0cd299e231a0a7159ac4545bc96c8a321aee80b8e5a6c38b89e28b16"), looks := false }, kinds := [], alts := [], laidByText := true, laidKinds := [.data, .pinned], laidTests := true, laidLooks := .later }
def FnExactEndDecoderCardSaid : Prop := Claim7.holds Tryd.pinned (.plain (OpenSpec.ofChange fnExactEndDecoderSpec)) fnExactEndDecoderCard

/-- THE TIED CARD OF 'laws.FnExactFeedDecoder'. -/
def fnExactFeedDecoderCard : Claim7 := { stood := { row := fnExactFeedDecoderRow, standIns := [], harness := (true, "25887f1a0cd299e231a0a7159ac4545bc96c8a321aee80b8e5a6c38b89e28b16"), looks := false }, kinds := [], alts := [], laidByText := true, laidKinds := [.data, .pinned], laidTests := true, laidLooks := .later }
def FnExactFeedDecoderCardSaid : Prop := Claim7.holds Tryd.pinned (.plain (OpenSpec.ofChange fnExactFeedDecoderSpec)) fnExactFeedDecoderCard

/-- THE SECOND FORM's CARD OF 'laws.FnKinds'. -/
def fnKindsUptoCard : Claim7 := { stood := { row := fnKindsUptoRow, standIns := [], harness := (true, "25887f1a0cd299e231a0a7159ac4545bc96c8a321aee80b8e5a6c38b89e28b16"), looks := false }, kinds := [], alts := [], laidByText := true, laidKinds := [.data, .mapped], laidTests := true, laidLooks := .later }
def FnKindsUptoCardSaid : Prop := Claim7.holds Tryd.pinned (.plain (OpenSpec.upto fnKindsSpec)) fnKindsUptoCard

/-- THE SECOND FORM's CARD OF 'laws.FnNormer'. -/
def fnNormerUptoCard : Claim7 := { stood := { row := fnNormerUptoRow, standIns := [], harness := (true, "25887f1a0cd299e231a0a7159ac4545bc96c8a321aee80b8e5a6c38b89e28b16"), looks := false }, kinds := [], alts := [], laidByText := true, laidKinds := [.data, .pinned], laidTests := true, laidLooks := .later }
def FnNormerUptoCardSaid : Prop := Claim7.holds Tryd.pinned (.plain (OpenSpec.upto fnNormerSpec)) fnNormerUptoCard

/-- THE SECOND FORM's CARD OF 'laws.FnJoined'. -/
def fnJoinedUptoCard : Claim7 := { stood := { row := fnJoinedUptoRow, standIns := [], harness := (true, "25887f1a0cd299e231a0a7159ac4545bc96c8a321aee80b8e5a6c38b89e28b16"), looks := false }, kinds := [], alts := [], laidByText := true, laidKinds := [.data, .pinned], laidTests := true, laidLooks := .later }
def FnJoinedUptoCardSaid : Prop := Claim7.holds Tryd.pinned (.plain (OpenSpec.upto fnJoinedSpec)) fnJoinedUptoCard

/-- THE SECOND FORM's CARD OF 'laws.FnExactDecode'. -/
def fnExactDecodeUptoCard : Claim7 := { stood := { row := fnExactDecodeUptoRow, standIns := [], harness := (true, "25887f1a0cd299e231a0a7159ac4545bc96c8a321aee80b8e5a6c38b89e28b16"), looks := false }, kinds := [], alts := [], laidByText := true, laidKinds := [.data, .pinned], laidTests := true, laidLooks := .later }
def FnExactDecodeUptoCardSaid : Prop := Claim7.holds Tryd.pinned (.plain (OpenSpec.upto fnExactDecodeSpec)) fnExactDecodeUptoCard

/-- THE SECOND FORM's CARD OF 'laws.FnExactBaseOf'. -/
def fnExactBaseOfUptoCard : Claim7 := { stood := { row := fnExactBaseOfUptoRow, standIns := [], harness := (true, "25887f1a0cd299e231a0a7159ac4545bc96c8a321aee80b8e5a6c38b89e28b16"), looks := false }, kinds := [], alts := [], laidByText := true, laidKinds := [.data, .pinned], laidTests := true, laidLooks := .later }
def FnExactBaseOfUptoCardSaid : Prop := Claim7.holds Tryd.pinned (.plain (OpenSpec.upto fnExactBaseOfSpec)) fnExactBaseOfUptoCard

/-- THE SECOND FORM's CARD OF 'laws.FnExactTurnedPasses'. -/
def fnExactTurnedPassesUptoCard : Claim7 := { stood := { row := fnExactTurnedPassesUptoRow, standIns := [], harness := (true, "25887f1a0cd299e231a0a7159ac4545bc96c8a321aee80b8e5a6c38b89e28b16"), looks := false }, kinds := [], alts := [], laidByText := true, laidKinds := [.data, .pinned], laidTests := true, laidLooks := .later }
def FnExactTurnedPassesUptoCardSaid : Prop := Claim7.holds Tryd.pinned (.plain (OpenSpec.upto fnExactTurnedPassesSpec)) fnExactTurnedPassesUptoCard

/-- THE SECOND FORM's CARD OF 'laws.FnCodes'. -/
def fnCodesUptoCard : Claim7 := { stood := { row := fnCodesUptoRow, standIns := [], harness := (true, "25887f1a0cd299e231a0a7159ac4545bc96c8a321aee80b8e5a6c38b89e28b16"), looks := false }, kinds := [], alts := [], laidByText := true, laidKinds := [.data, .pinned], laidTests := true, laidLooks := .later }
def FnCodesUptoCardSaid : Prop := Claim7.holds Tryd.pinned (.plain (OpenSpec.upto fnCodesSpec)) fnCodesUptoCard

/-- THE SECOND FORM's CARD OF 'laws.FnExactTitle'. -/
def fnExactTitleUptoCard : Claim7 := { stood := { row := fnExactTitleUptoRow, standIns := [], harness := (true, "25887f1a0cd299e231a0a7159ac4545bc96c8a321aee80b8e5a6c38b89e28b16"), looks := false }, kinds := [], alts := [], laidByText := true, laidKinds := [.data, .pinned], laidTests := true, laidLooks := .later }
def FnExactTitleUptoCardSaid : Prop := Claim7.holds Tryd.pinned (.plain (OpenSpec.upto fnExactTitleSpec)) fnExactTitleUptoCard

/-- THE SECOND FORM's CARD OF 'laws.FnExactEndDecoder'. -/
def fnExactEndDecoderUptoCard : Claim7 := { stood := { row := fnExactEndDecoderUptoRow, standIns := [], harness := (true, "25887f1a0cd299e231a0a7159ac4545bc96c8a321aee80b8e5a6c38b89e28b16"), looks := false }, kinds := [], alts := [], laidByText := true, laidKinds := [.data, .pinned], laidTests := true, laidLooks := .later }
def FnExactEndDecoderUptoCardSaid : Prop := Claim7.holds Tryd.pinned (.plain (OpenSpec.upto fnExactEndDecoderSpec)) fnExactEndDecoderUptoCard

/-- THE SECOND FORM's CARD OF 'laws.FnExactFeedDecoder'. -/
def fnExactFeedDecoderUptoCard : Claim7 := { stood := { row := fnExactFeedDecoderUptoRow, standIns := [], harness := (true, "25887f1a0cd299e231a0a7159ac4545bc96c8a321aee80b8e5a6c38b89e28b16"), looks := false }, kinds := [], alts := [], laidByText := true, laidKinds := [.data, .pinned], laidTests := true, laidLooks := .later }
def FnExactFeedDecoderUptoCardSaid : Prop := Claim7.holds Tryd.pinned (.plain (OpenSpec.upto fnExactFeedDecoderSpec)) fnExactFeedDecoderUptoCard
end Rows
end Go.Proofs.YtnonijganceneaaDoor

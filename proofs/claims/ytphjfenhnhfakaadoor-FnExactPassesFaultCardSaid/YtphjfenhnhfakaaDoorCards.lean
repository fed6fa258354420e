/-
  DERIVED. GIVEN WITH THE SEED: THE CARDS: each row of YtphjfenhnhfakaaDoorRows.lean that lists a variable, with what it lists TIED to the program's text (the seventh form; the later family's looks); each row that meets fmt, with fmt's text TOLD by the authors' own Lean function (tested against real Go, not proved from fmt's source: count such statements apart). THE CARD IS WHAT COUNTS. Prove the row's statement (the work); the ties are given (YtphjfenhnhfakaaDoorTie.lean); close each card by the builder's one call (the guide's Derived/Test/ToyasCard.lean, 'card_holds'). Laid BY PROGRAM, IN A SANDBOX (cutbox-door.mjs). By AI agents, Wed Nov 11 2026. No macro, syntax, notation, axiom, sorry.
-/
import Derived.Test.YtphjfenhnhfakaaDoorRows
import GoSem.ClaimSeven
namespace Go.Proofs.YtphjfenhnhfakaaDoor
namespace Rows

/-- THE TIED CARD OF 'laws.FnDetected'. -/
def fnDetectedCard : Claim7 := { stood := { row := fnDetectedRow, standIns := [], harness := (true, "9bc1fa23f09b4f352b0a2218aca6a15b4a5e6ffac780c53f72299bad0b01f19d"), looks := false }, kinds := [], alts := [], laidByText := true, laidKinds := [.data, .pinned], laidTests := true, laidLooks := .later }
def FnDetectedCardSaid : Prop := Claim7.holds Tryd.pinned (.plain (OpenSpec.ofChange fnDetectedSpec)) fnDetectedCard

/-- THE TIED CARD OF 'laws.FnExactDetect'. -/
def fnExactDetectCard : Claim7 := { stood := { row := fnExactDetectRow, standIns := [], harness := (true, "9bc1fa23f09b4f352b0a2218aca6a15b4a5e6ffac780c53f72299bad0b01f19d"), looks := false }, kinds := [], alts := [], laidByText := true, laidKinds := [.data, .pinned], laidTests := true, laidLooks := .later }
def FnExactDetectCardSaid : Prop := Claim7.holds Tryd.pinned (.plain (OpenSpec.ofChange fnExactDetectSpec)) fnExactDetectCard

/-- THE TIED CARD OF 'laws.FnPoints'. -/
def fnPointsCard : Claim7 := { stood := { row := fnPointsRow, standIns := [], harness := (true, "9bc1fa23f09b4f352b0a2218aca6a15b4a5e6ffac780c53f72299bad0b01f19d"), looks := false }, kinds := [], alts := [], laidByText := true, laidKinds := [.data, .pinned], laidTests := true, laidLooks := .later }
def FnPointsCardSaid : Prop := Claim7.holds Tryd.pinned (.plain (OpenSpec.ofChange fnPointsSpec)) fnPointsCard

/-- THE TIED CARD OF 'laws.FnExactPassesFault'. -/
def fnExactPassesFaultCard : Claim7 := { stood := { row := fnExactPassesFaultRow, standIns := [], harness := (true, "9bc1fa23f09b4f352b0a2218aca6a15b4a5e6ffac780c53f72299bad0b01f19d"), looks := false }, kinds := [], alts := [], laidByText := true, laidKinds := [.data, .pinned], laidTests := true, laidLooks := .later }
def FnExactPassesFaultCardSaid : Prop := Claim7.holds Tryd.pinned (.plain (OpenSpec.ofChange fnExactPassesFaultSpec)) fnExactPassesFaultCard

/-- THE TIED CARD OF 'laws.FnExactUpper'. -/
def fnExactUpperCard : Claim7 := { stood := { row := fnExactUpperRow, standIns := [], harness := (true, "9bc1fa23f09b4f352b0a2218aca6a15b4a5e6ffac780c53f72299bad0b01f19d"), looks := false }, kinds := [], alts := [], laidByText := true, laidKinds := [.data, .pinned], laidTests := true, laidLooks := .later }
def FnExactUpperCardSaid : Prop := Claim7.holds Tryd.pinned (.plain (OpenSpec.ofChange fnExactUpperSpec)) fnExactUpperCard

/-- THE TIED CARD OF 'laws.FnExactDecoderFault'. -/
def fnExactDecoderFaultCard : Claim7 := { stood := { row := fnExactDecoderFaultRow, standIns := [], harness := (true, "9bc1fa23f09b4f352b0a2218aca6a15b4a5e6ffac780c53f72299bad0b01f19d"), looks := false }, kinds := [], alts := [], laidByText := true, laidKinds := [.data, .pinned], laidTests := true, laidLooks := .later }
def FnExactDecoderFaultCardSaid : Prop := Claim7.holds Tryd.pinned (.plain (OpenSpec.ofChange fnExactDecoderFaultSpec)) fnExactDecoderFaultCard

/-- THE TIED CARD OF 'laws.FnExactFold'. -/
def fnExactFoldCard : Claim7 := { stood := { row := fnExactFoldRow, standIns := [], harness := (true, "9bc1fa23f09b4f352b0a2218aca6a15b4a5e6ffac780c53f72299bad0b01f19d"), looks := false }, kinds := [], alts := [], laidByText := true, laidKinds := [.data, .pinned], laidTests := true, laidLooks := .later }
def FnExactFoldCardSaid : Prop := Claim7.holds Tryd.pinned (.plain (OpenSpec.ofChange fnExactFoldSpec)) fnExactFoldCard

/-- THE TIED CARD OF 'laws.FnExactLower'. -/
def fnExactLowerCard : Claim7 := { stood := { row := fnExactLowerRow, standIns := [], harness := (true, "9bc1fa23f09b4f352b0a2218aca6a15b4a5e6ffac780c53f72299bad0b01f19d"), looks := false }, kinds := [], alts := [], laidByText := true, laidKinds := [.data, .pinned], laidTests := true, laidLooks := .later }
def FnExactLowerCardSaid : Prop := Claim7.holds Tryd.pinned (.plain (OpenSpec.ofChange fnExactLowerSpec)) fnExactLowerCard

/-- THE SECOND FORM's CARD OF 'laws.FnDetected'. -/
def fnDetectedUptoCard : Claim7 := { stood := { row := fnDetectedUptoRow, standIns := [], harness := (true, "9bc1fa23f09b4f352b0a2218aca6a15b4a5e6ffac780c53f72299bad0b01f19d"), looks := false }, kinds := [], alts := [], laidByText := true, laidKinds := [.data, .pinned], laidTests := true, laidLooks := .later }
def FnDetectedUptoCardSaid : Prop := Claim7.holds Tryd.pinned (.plain (OpenSpec.upto fnDetectedSpec)) fnDetectedUptoCard

/-- THE SECOND FORM's CARD OF 'laws.FnExactDetect'. -/
def fnExactDetectUptoCard : Claim7 := { stood := { row := fnExactDetectUptoRow, standIns := [], harness := (true, "9bc1fa23f09b4f352b0a2218aca6a15b4a5e6ffac780c53f72299bad0b01f19d"), looks := false }, kinds := [], alts := [], laidByText := true, laidKinds := [.data, .pinned], laidTests := true, laidLooks := .later }
def FnExactDetectUptoCardSaid : Prop := Claim7.holds Tryd.pinned (.plain (OpenSpec.upto fnExactDetectSpec)) fnExactDetectUptoCard

/-- THE SECOND FORM's CARD OF 'laws.FnPoints'. -/
def fnPointsUptoCard : Claim7 := { stood := { row := fnPointsUptoRow, standIns := [], harness := (true, "9bc1fa23f09b4f352b0a2218aca6a15b4a5e6ffac780c53f72299bad0b01f19d"), looks := false }, kinds := [], alts := [], laidByText := true, laidKinds := [.data, .pinned], laidTests := true, laidLooks := .later }
def FnPointsUptoCardSaid : Prop := Claim7.holds Tryd.pinned (.plain (OpenSpec.upto fnPointsSpec)) fnPointsUptoCard

/-- THE SECOND FORM's CARD OF 'laws.FnExactPassesFault'. -/
def fnExactPassesFaultUptoCard : Claim7 := { stood := { row := fnExactPassesFaultUptoRow, standIns := [], harness := (true, "9bc1fa23f09b4f352b0a2218aca6a15b4a5e6ffac780c53f72299bad0b01f19d"), looks := false }, kinds := [], alts := [], laidByText := true, laidKinds := [.data, .pinned], laidTests := true, laidLooks := .later }
def FnExactPassesFaultUptoCardSaid : Prop := Claim7.holds Tryd.pinned (.plain (OpenSpec.upto fnExactPassesFaultSpec)) fnExactPassesFaultUptoCard

/-- THE SECOND FORM's CARD OF 'laws.FnExactUpper'. -/
def fnExactUpperUptoCard : Claim7 := { stood := { row := fnExactUpperUptoRow, standIns := [], harness := (true, "9bc1fa23f09b4f352b0a2218aca6a15b4a5e6ffac780c53f72299bad0b01f19d"), looks := false }, kinds := [], alts := [], laidByText := true, laidKinds := [.data, .pinned], laidTests := true, laidLooks := .later }
def FnExactUpperUptoCardSaid : Prop := Claim7.holds Tryd.pinned (.plain (OpenSpec.upto fnExactUpperSpec)) fnExactUpperUptoCard

/-- THE SECOND FORM's CARD OF 'laws.FnExactDecoderFault'. -/
def fnExactDecoderFaultUptoCard : Claim7 := { stood := { row := fnExactDecoderFaultUptoRow, standIns := [], harness := (true, "9bc1fa23f09b4f352b0a2218aca6a15b4a5e6ffac780c53f72299bad0b01f19d"), looks := false }, kinds := [], alts := [], laidByText := true, laidKinds := [.data, .pinned], laidTests := true, laidLooks := .later }
def FnExactDecoderFaultUptoCardSaid : Prop := Claim7.holds Tryd.pinned (.plain (OpenSpec.upto fnExactDecoderFaultSpec)) fnExactDecoderFaultUptoCard

/-- THE SECOND FORM's CARD OF 'laws.FnExactFold'. -/
def fnExactFoldUptoCard : Claim7 := { stood := { row := fnExactFoldUptoRow, standIns := [], harness := (true, "9bc1fa23f09b4f352b0a2218aca6a15b4a5e6ffac780c53f72299bad0b01f19d"), looks := false }, kinds := [], alts := [], laidByText := true, laidKinds := [.data, .pinned], laidTests := true, laidLooks := .later }
def FnExactFoldUptoCardSaid : Prop := Claim7.holds Tryd.pinned (.plain (OpenSpec.upto fnExactFoldSpec)) fnExactFoldUptoCard

/-- THE SECOND FORM's CARD OF 'laws.FnExactLower'. -/
def fnExactLowerUptoCard : Claim7 := { stood := { row := fnExactLowerUptoRow, standIns := [], harness := (true, "9bc1fa23f09b4f352b0a2218aca6a15b4a5e6ffac780c53f72299bad0b01f19d"), looks := false }, kinds := [], alts := [], laidByText := true, laidKinds := [.data, .pinned], laidTests := true, laidLooks := .later }
def FnExactLowerUptoCardSaid : Prop := Claim7.holds Tryd.pinned (.plain (OpenSpec.upto fnExactLowerSpec)) fnExactLowerUptoCard
end Rows
end Go.Proofs.YtphjfenhnhfakaaDoor

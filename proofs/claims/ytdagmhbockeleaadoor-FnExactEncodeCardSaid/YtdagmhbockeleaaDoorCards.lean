/-
  DERIVED. GIVEN WITH THE SEED: THE CARDS: each row of YtdagmhbockeleaaDoorRows.lean that lists a variable, with what it lists TIED to the program's text (the seventh form; the later family's looks); each row that meets fmt, with fmt's text TOLD by the authors' own Lean function (tested against real Go, not proved from fmt's source: count such statements apart). THE CARD IS WHAT COUNTS. Prove the row's statement (the work); the ties are given (YtdagmhbockeleaaDoorTie.lean); close each card by the builder's one call (the guide's Derived/Test/ToyasCard.lean, 'card_holds'). Laid BY PROGRAM, IN A SANDBOX (cutbox-door.mjs). By AI agents, Wed Nov 11 2026. No macro, syntax, notation, axiom, sorry.
-/
import Derived.Test.YtdagmhbockeleaaDoorRows
import GoSem.ClaimSeven
namespace Go.Proofs.YtdagmhbockeleaaDoor
namespace Rows

/-- THE TIED CARD OF 'laws.FnExactPointsOf'. -/
def fnExactPointsOfCard : Claim7 := { stood := { row := fnExactPointsOfRow, standIns := [], harness := (true, "9181e6150e735d65c51f167294c142196fa94f894259f3c919830ca04afbc510"), looks := false }, kinds := [], alts := [], laidByText := true, laidKinds := [.data, .pinned], laidTests := true, laidLooks := .later }
def FnExactPointsOfCardSaid : Prop := Claim7.holds Tryd.pinned (.plain (OpenSpec.ofChange fnExactPointsOfSpec)) fnExactPointsOfCard

/-- THE TIED CARD OF 'laws.FnExactEncodeSteps'. -/
def fnExactEncodeStepsCard : Claim7 := { stood := { row := fnExactEncodeStepsRow, standIns := [], harness := (true, "9181e6150e735d65c51f167294c142196fa94f894259f3c919830ca04afbc510"), looks := false }, kinds := [], alts := [], laidByText := true, laidKinds := [.data, .pinned], laidTests := true, laidLooks := .later }
def FnExactEncodeStepsCardSaid : Prop := Claim7.holds Tryd.pinned (.plain (OpenSpec.ofChange fnExactEncodeStepsSpec)) fnExactEncodeStepsCard

/-- THE TIED CARD OF 'laws.FnExactEncodeShift'. -/
def fnExactEncodeShiftCard : Claim7 := { stood := { row := fnExactEncodeShiftRow, standIns := [], harness := (true, "9181e6150e735d65c51f167294c142196fa94f894259f3c919830ca04afbc510"), looks := false }, kinds := [], alts := [], laidByText := true, laidKinds := [.data, .pinned], laidTests := true, laidLooks := .later }
def FnExactEncodeShiftCardSaid : Prop := Claim7.holds Tryd.pinned (.plain (OpenSpec.ofChange fnExactEncodeShiftSpec)) fnExactEncodeShiftCard

/-- THE TIED CARD OF 'laws.FnExactEncode'. -/
def fnExactEncodeCard : Claim7 := { stood := { row := fnExactEncodeRow, standIns := [], harness := (true, "9181e6150e735d65c51f167294c142196fa94f894259f3c919830ca04afbc510"), looks := false }, kinds := [], alts := [], laidByText := true, laidKinds := [.data, .pinned], laidTests := true, laidLooks := .later }
def FnExactEncodeCardSaid : Prop := Claim7.holds Tryd.pinned (.plain (OpenSpec.ofChange fnExactEncodeSpec)) fnExactEncodeCard

/-- THE SECOND FORM's CARD OF 'laws.FnExactPointsOf'. -/
def fnExactPointsOfUptoCard : Claim7 := { stood := { row := fnExactPointsOfUptoRow, standIns := [], harness := (true, "9181e6150e735d65c51f167294c142196fa94f894259f3c919830ca04afbc510"), looks := false }, kinds := [], alts := [], laidByText := true, laidKinds := [.data, .pinned], laidTests := true, laidLooks := .later }
def FnExactPointsOfUptoCardSaid : Prop := Claim7.holds Tryd.pinned (.plain (OpenSpec.upto fnExactPointsOfSpec)) fnExactPointsOfUptoCard

/-- THE SECOND FORM's CARD OF 'laws.FnExactEncodeSteps'. -/
def fnExactEncodeStepsUptoCard : Claim7 := { stood := { row := fnExactEncodeStepsUptoRow, standIns := [], harness := (true, "9181e6150e735d65c51f167294c142196fa94f894259f3c919830ca04afbc510"), looks := false }, kinds := [], alts := [], laidByText := true, laidKinds := [.data, .pinned], laidTests := true, laidLooks := .later }
def FnExactEncodeStepsUptoCardSaid : Prop := Claim7.holds Tryd.pinned (.plain (OpenSpec.upto fnExactEncodeStepsSpec)) fnExactEncodeStepsUptoCard

/-- THE SECOND FORM's CARD OF 'laws.FnExactEncodeShift'. -/
def fnExactEncodeShiftUptoCard : Claim7 := { stood := { row := fnExactEncodeShiftUptoRow, standIns := [], harness := (true, "9181e6150e735d65c51f167294c142196fa94f894259f3c919830ca04afbc510"), looks := false }, kinds := [], alts := [], laidByText := true, laidKinds := [.data, .pinned], laidTests := true, laidLooks := .later }
def FnExactEncodeShiftUptoCardSaid : Prop := Claim7.holds Tryd.pinned (.plain (OpenSpec.upto fnExactEncodeShiftSpec)) fnExactEncodeShiftUptoCard

/-- THE SECOND FORM's CARD OF 'laws.FnExactEncode'. -/
def fnExactEncodeUptoCard : Claim7 := { stood := { row := fnExactEncodeUptoRow, standIns := [], harness := (true, "9181e6150e735d65c51f167294c142196fa94f894259f3c919830ca04afbc510"), looks := false }, kinds := [], alts := [], laidByText := true, laidKinds := [.data, .pinned], laidTests := true, laidLooks := .later }
def FnExactEncodeUptoCardSaid : Prop := Claim7.holds Tryd.pinned (.plain (OpenSpec.upto fnExactEncodeSpec)) fnExactEncodeUptoCard
end Rows
end Go.Proofs.YtdagmhbockeleaaDoor

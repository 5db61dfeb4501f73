/-
  DERIVED. GIVEN WITH THE SEED: THE CARDS: each row of YtpibhoaegbeonaaDoorRows.lean that lists a variable, with what it lists TIED to the program's text (the seventh form; the later family's looks); each row that meets fmt, with fmt's text TOLD by the authors' own Lean function (tested against real Go, not proved from fmt's source: count such statements apart). THE CARD IS WHAT COUNTS. Prove the row's statement (the work); the ties are given (YtpibhoaegbeonaaDoorTie.lean); close each card by the builder's one call (the guide's Derived/Test/ToyasCard.lean, 'card_holds'). Laid BY PROGRAM, IN A SANDBOX (cutbox-door.mjs). By AI agents, Wed Nov 11 2026. No macro, syntax, notation, axiom, sorry.
-/
import Derived.Test.YtpibhoaegbeonaaDoorRows
import GoSem.ClaimSeven
namespace Go.Proofs.YtpibhoaegbeonaaDoor
namespace Rows

/-- THE TIED CARD OF 'laws.FnExactMirrorOf'. -/
def fnExactMirrorOfCard : Claim7 := { stood := { row := fnExactMirrorOfRow, standIns := [], harness := (true, "c073a8c0b6fa7272ff8ae57156cf9fef5ca6e620eb09143eac9ce3cae16a43e1"), looks := false }, kinds := [], alts := [], laidByText := true, laidKinds := [.mapped], laidTests := true, laidLooks := .later }
def FnExactMirrorOfCardSaid : Prop := Claim7.holds Tryd.pinned (.plain (OpenSpec.ofChange fnExactMirrorOfSpec)) fnExactMirrorOfCard

/-- THE TIED CARD OF 'laws.FnExactDigitOf'. -/
def fnExactDigitOfCard : Claim7 := { stood := { row := fnExactDigitOfRow, standIns := [], harness := (true, "c073a8c0b6fa7272ff8ae57156cf9fef5ca6e620eb09143eac9ce3cae16a43e1"), looks := false }, kinds := [], alts := [], laidByText := true, laidKinds := [.data], laidTests := true, laidLooks := .later }
def FnExactDigitOfCardSaid : Prop := Claim7.holds Tryd.pinned (.plain (OpenSpec.ofChange fnExactDigitOfSpec)) fnExactDigitOfCard

/-- THE SECOND FORM's CARD OF 'laws.FnExactMirrorOf'. -/
def fnExactMirrorOfUptoCard : Claim7 := { stood := { row := fnExactMirrorOfUptoRow, standIns := [], harness := (true, "c073a8c0b6fa7272ff8ae57156cf9fef5ca6e620eb09143eac9ce3cae16a43e1"), looks := false }, kinds := [], alts := [], laidByText := true, laidKinds := [.mapped], laidTests := true, laidLooks := .later }
def FnExactMirrorOfUptoCardSaid : Prop := Claim7.holds Tryd.pinned (.plain (OpenSpec.upto fnExactMirrorOfSpec)) fnExactMirrorOfUptoCard

/-- THE SECOND FORM's CARD OF 'laws.FnExactDigitOf'. -/
def fnExactDigitOfUptoCard : Claim7 := { stood := { row := fnExactDigitOfUptoRow, standIns := [], harness := (true, "c073a8c0b6fa7272ff8ae57156cf9fef5ca6e620eb09143eac9ce3cae16a43e1"), looks := false }, kinds := [], alts := [], laidByText := true, laidKinds := [.data], laidTests := true, laidLooks := .later }
def FnExactDigitOfUptoCardSaid : Prop := Claim7.holds Tryd.pinned (.plain (OpenSpec.upto fnExactDigitOfSpec)) fnExactDigitOfUptoCard
end Rows
end Go.Proofs.YtpibhoaegbeonaaDoor

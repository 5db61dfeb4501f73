/-
  DERIVED. GIVEN WITH THE SEED: THE CARDS: each row of YtnbedmihgnjdpaaDoorRows.lean that lists a variable, with what it lists TIED to the program's text (the seventh form; the later family's looks); each row that meets fmt, with fmt's text TOLD by the authors' own Lean function (tested against real Go, not proved from fmt's source: count such statements apart). THE CARD IS WHAT COUNTS. Prove the row's statement (the work); the ties are given (YtnbedmihgnjdpaaDoorTie.lean); close each card by the builder's one call (the guide's Derived/Test/ToyasCard.lean, 'card_holds'). Laid BY PROGRAM, IN A SANDBOX (cutbox-door.mjs). By AI agents, Wed Nov 11 2026. No macro, syntax, notation, axiom, sorry.
-/
import Derived.Test.YtnbedmihgnjdpaaDoorRows
import GoSem.ClaimSeven
namespace Go.Proofs.YtnbedmihgnjdpaaDoor
namespace Rows

/-- THE TIED CARD OF 'laws.FnExactNormalize'. -/
def fnExactNormalizeCard : Claim7 := { stood := { row := fnExactNormalizeRow, standIns := [], harness := (true, "131c6240e264186e0b06ed1b40bbe30faef97d46f13ed2e8337daab975174b81"), looks := false }, kinds := [], alts := [], laidByText := true, laidKinds := [.data, .pinned], laidTests := true, laidLooks := .later }
def FnExactNormalizeCardSaid : Prop := Claim7.holds Tryd.pinned (.plain (OpenSpec.ofChange fnExactNormalizeSpec)) fnExactNormalizeCard

/-- THE TIED CARD OF 'laws.FnExactIsNormal'. -/
def fnExactIsNormalCard : Claim7 := { stood := { row := fnExactIsNormalRow, standIns := [], harness := (true, "131c6240e264186e0b06ed1b40bbe30faef97d46f13ed2e8337daab975174b81"), looks := false }, kinds := [], alts := [], laidByText := true, laidKinds := [.data, .pinned], laidTests := true, laidLooks := .later }
def FnExactIsNormalCardSaid : Prop := Claim7.holds Tryd.pinned (.plain (OpenSpec.ofChange fnExactIsNormalSpec)) fnExactIsNormalCard

/-- THE TIED CARD OF 'laws.FnExactQuickCheck'. -/
def fnExactQuickCheckCard : Claim7 := { stood := { row := fnExactQuickCheckRow, standIns := [], harness := (true, "131c6240e264186e0b06ed1b40bbe30faef97d46f13ed2e8337daab975174b81"), looks := false }, kinds := [], alts := [], laidByText := true, laidKinds := [.data, .pinned], laidTests := true, laidLooks := .later }
def FnExactQuickCheckCardSaid : Prop := Claim7.holds Tryd.pinned (.plain (OpenSpec.ofChange fnExactQuickCheckSpec)) fnExactQuickCheckCard

/-- THE TIED CARD OF 'laws.FnExactEquivalent'. -/
def fnExactEquivalentCard : Claim7 := { stood := { row := fnExactEquivalentRow, standIns := [], harness := (true, "131c6240e264186e0b06ed1b40bbe30faef97d46f13ed2e8337daab975174b81"), looks := false }, kinds := [], alts := [], laidByText := true, laidKinds := [.data, .pinned], laidTests := true, laidLooks := .later }
def FnExactEquivalentCardSaid : Prop := Claim7.holds Tryd.pinned (.plain (OpenSpec.ofChange fnExactEquivalentSpec)) fnExactEquivalentCard

/-- THE TIED CARD OF 'laws.FnExactJoinNormal'. -/
def fnExactJoinNormalCard : Claim7 := { stood := { row := fnExactJoinNormalRow, standIns := [], harness := (true, "131c6240e264186e0b06ed1b40bbe30faef97d46f13ed2e8337daab975174b81"), looks := false }, kinds := [], alts := [], laidByText := true, laidKinds := [.data, .pinned], laidTests := true, laidLooks := .later }
def FnExactJoinNormalCardSaid : Prop := Claim7.holds Tryd.pinned (.plain (OpenSpec.ofChange fnExactJoinNormalSpec)) fnExactJoinNormalCard

/-- THE TIED CARD OF 'laws.FnExactNormerFault'. -/
def fnExactNormerFaultCard : Claim7 := { stood := { row := fnExactNormerFaultRow, standIns := [], harness := (true, "131c6240e264186e0b06ed1b40bbe30faef97d46f13ed2e8337daab975174b81"), looks := false }, kinds := [], alts := [], laidByText := true, laidKinds := [.data, .pinned], laidTests := true, laidLooks := .later }
def FnExactNormerFaultCardSaid : Prop := Claim7.holds Tryd.pinned (.plain (OpenSpec.ofChange fnExactNormerFaultSpec)) fnExactNormerFaultCard

/-- THE TIED CARD OF 'laws.FnExactFeedNormer'. -/
def fnExactFeedNormerCard : Claim7 := { stood := { row := fnExactFeedNormerRow, standIns := [], harness := (true, "131c6240e264186e0b06ed1b40bbe30faef97d46f13ed2e8337daab975174b81"), looks := false }, kinds := [], alts := [], laidByText := true, laidKinds := [.data, .pinned], laidTests := true, laidLooks := .later }
def FnExactFeedNormerCardSaid : Prop := Claim7.holds Tryd.pinned (.plain (OpenSpec.ofChange fnExactFeedNormerSpec)) fnExactFeedNormerCard

/-- THE TIED CARD OF 'laws.FnExactEndNormer'. -/
def fnExactEndNormerCard : Claim7 := { stood := { row := fnExactEndNormerRow, standIns := [], harness := (true, "131c6240e264186e0b06ed1b40bbe30faef97d46f13ed2e8337daab975174b81"), looks := false }, kinds := [], alts := [], laidByText := true, laidKinds := [.data, .pinned], laidTests := true, laidLooks := .later }
def FnExactEndNormerCardSaid : Prop := Claim7.holds Tryd.pinned (.plain (OpenSpec.ofChange fnExactEndNormerSpec)) fnExactEndNormerCard

/-- THE TIED CARD OF 'laws.FnExactCollatorFault'. -/
def fnExactCollatorFaultCard : Claim7 := { stood := { row := fnExactCollatorFaultRow, standIns := [], harness := (true, "131c6240e264186e0b06ed1b40bbe30faef97d46f13ed2e8337daab975174b81"), looks := false }, kinds := [], alts := [], laidByText := true, laidKinds := [.data, .pinned], laidTests := true, laidLooks := .later }
def FnExactCollatorFaultCardSaid : Prop := Claim7.holds Tryd.pinned (.plain (OpenSpec.ofChange fnExactCollatorFaultSpec)) fnExactCollatorFaultCard

/-- THE SECOND FORM's CARD OF 'laws.FnExactNormalize'. -/
def fnExactNormalizeUptoCard : Claim7 := { stood := { row := fnExactNormalizeUptoRow, standIns := [], harness := (true, "131c6240e264186e0b06ed1b40bbe30faef97d46f13ed2e8337daab975174b81"), looks := false }, kinds := [], alts := [], laidByText := true, laidKinds := [.data, .pinned], laidTests := true, laidLooks := .later }
def FnExactNormalizeUptoCardSaid : Prop := Claim7.holds Tryd.pinned (.plain (OpenSpec.upto fnExactNormalizeSpec)) fnExactNormalizeUptoCard

/-- THE SECOND FORM's CARD OF 'laws.FnExactIsNormal'. -/
def fnExactIsNormalUptoCard : Claim7 := { stood := { row := fnExactIsNormalUptoRow, standIns := [], harness := (true, "131c6240e264186e0b06ed1b40bbe30faef97d46f13ed2e8337daab975174b81"), looks := false }, kinds := [], alts := [], laidByText := true, laidKinds := [.data, .pinned], laidTests := true, laidLooks := .later }
def FnExactIsNormalUptoCardSaid : Prop := Claim7.holds Tryd.pinned (.plain (OpenSpec.upto fnExactIsNormalSpec)) fnExactIsNormalUptoCard

/-- THE SECOND FORM's CARD OF 'laws.FnExactQuickCheck'. -/
def fnExactQuickCheckUptoCard : Claim7 := { stood := { row := fnExactQuickCheckUptoRow, standIns := [], harness := (true, "131c6240e264186e0b06ed1b40bbe30faef97d46f13ed2e8337daab975174b81"), looks := false }, kinds := [], alts := [], laidByText := true, laidKinds := [.data, .pinned], laidTests := true, laidLooks := .later }
def FnExactQuickCheckUptoCardSaid : Prop := Claim7.holds Tryd.pinned (.plain (OpenSpec.upto fnExactQuickCheckSpec)) fnExactQuickCheckUptoCard

/-- THE SECOND FORM's CARD OF 'laws.FnExactEquivalent'. -/
def fnExactEquivalentUptoCard : Claim7 := { stood := { row := fnExactEquivalentUptoRow, standIns := [], harness := (true, "131c6240e264186e0b06ed1b40bbe30faef97d46f13ed2e8337daab975174b81"), looks := false }, kinds := [], alts := [], laidByText := true, laidKinds := [.data, .pinned], laidTests := true, laidLooks := .later }
def FnExactEquivalentUptoCardSaid : Prop := Claim7.holds Tryd.pinned (.plain (OpenSpec.upto fnExactEquivalentSpec)) fnExactEquivalentUptoCard

/-- THE SECOND FORM's CARD OF 'laws.FnExactJoinNormal'. -/
def fnExactJoinNormalUptoCard : Claim7 := { stood := { row := fnExactJoinNormalUptoRow, standIns := [], harness := (true, "131c6240e264186e0b06ed1b40bbe30faef97d46f13ed2e8337daab975174b81"), looks := false }, kinds := [], alts := [], laidByText := true, laidKinds := [.data, .pinned], laidTests := true, laidLooks := .later }
def FnExactJoinNormalUptoCardSaid : Prop := Claim7.holds Tryd.pinned (.plain (OpenSpec.upto fnExactJoinNormalSpec)) fnExactJoinNormalUptoCard

/-- THE SECOND FORM's CARD OF 'laws.FnExactNormerFault'. -/
def fnExactNormerFaultUptoCard : Claim7 := { stood := { row := fnExactNormerFaultUptoRow, standIns := [], harness := (true, "131c6240e264186e0b06ed1b40bbe30faef97d46f13ed2e8337daab975174b81"), looks := false }, kinds := [], alts := [], laidByText := true, laidKinds := [.data, .pinned], laidTests := true, laidLooks := .later }
def FnExactNormerFaultUptoCardSaid : Prop := Claim7.holds Tryd.pinned (.plain (OpenSpec.upto fnExactNormerFaultSpec)) fnExactNormerFaultUptoCard

/-- THE SECOND FORM's CARD OF 'laws.FnExactFeedNormer'. -/
def fnExactFeedNormerUptoCard : Claim7 := { stood := { row := fnExactFeedNormerUptoRow, standIns := [], harness := (true, "131c6240e264186e0b06ed1b40bbe30faef97d46f13ed2e8337daab975174b81"), looks := false }, kinds := [], alts := [], laidByText := true, laidKinds := [.data, .pinned], laidTests := true, laidLooks := .later }
def FnExactFeedNormerUptoCardSaid : Prop := Claim7.holds Tryd.pinned (.plain (OpenSpec.upto fnExactFeedNormerSpec)) fnExactFeedNormerUptoCard

/-- THE SECOND FORM's CARD OF 'laws.FnExactEndNormer'. -/
def fnExactEndNormerUptoCard : Claim7 := { stood := { row := fnExactEndNormerUptoRow, standIns := [], harness := (true, "131c6240e264186e0b06ed1b40bbe30faef97d46f13ed2e8337daab975174b81"), looks := false }, kinds := [], alts := [], laidByText := true, laidKinds := [.data, .pinned], laidTests := true, laidLooks := .later }
def FnExactEndNormerUptoCardSaid : Prop := Claim7.holds Tryd.pinned (.plain (OpenSpec.upto fnExactEndNormerSpec)) fnExactEndNormerUptoCard

/-- THE SECOND FORM's CARD OF 'laws.FnExactCollatorFault'. -/
def fnExactCollatorFaultUptoCard : Claim7 := { stood := { row := fnExactCollatorFaultUptoRow, standIns := [], harness := (true, "131c6240e264186e0b06ed1b40bbe30faef97d46f13ed2e8337daab975174b81"), looks := false }, kinds := [], alts := [], laidByText := true, laidKinds := [.data, .pinned], laidTests := true, laidLooks := .later }
def FnExactCollatorFaultUptoCardSaid : Prop := Claim7.holds Tryd.pinned (.plain (OpenSpec.upto fnExactCollatorFaultSpec)) fnExactCollatorFaultUptoCard
end Rows
end Go.Proofs.YtnbedmihgnjdpaaDoor

/-
  DERIVED. GIVEN WITH THE SEED: THE CARDS: each row of YtmlhnpggjkoinaaDoorRows.lean that lists a variable, with what it lists TIED to the program's text (the seventh form; the later family's looks); each row that meets fmt, with fmt's text TOLD by the authors' own Lean function (tested against real Go, not proved from fmt's source: count such statements apart). THE CARD IS WHAT COUNTS. Prove the row's statement (the work); the ties are given (YtmlhnpggjkoinaaDoorTie.lean); close each card by the builder's one call (the guide's Derived/Test/ToyasCard.lean, 'card_holds'). Laid BY PROGRAM, IN A SANDBOX (cutbox-door.mjs). By AI agents, Wed Nov 11 2026. No macro, syntax, notation, axiom, sorry.
-/
import Derived.Test.YtmlhnpggjkoinaaDoorRows
import GoSem.ClaimSeven
namespace Go.Proofs.YtmlhnpggjkoinaaDoor
namespace Rows

/-- THE TIED CARD OF 'laws.FnExactCharCuts'. -/
def fnExactCharCutsCard : Claim7 := { stood := { row := fnExactCharCutsRow, standIns := [], harness := (true, "ef61447f9fef75de8e46c57a1a03977482181d958ef6141762b9d40dcd506a88"), looks := false }, kinds := [], alts := [], laidByText := true, laidKinds := [.data, .pinned], laidTests := true, laidLooks := .later }
def FnExactCharCutsCardSaid : Prop := Claim7.holds Tryd.pinned (.plain (OpenSpec.ofChange fnExactCharCutsSpec)) fnExactCharCutsCard

/-- THE TIED CARD OF 'laws.FnExactChars'. -/
def fnExactCharsCard : Claim7 := { stood := { row := fnExactCharsRow, standIns := [], harness := (true, "ef61447f9fef75de8e46c57a1a03977482181d958ef6141762b9d40dcd506a88"), looks := false }, kinds := [], alts := [], laidByText := true, laidKinds := [.data, .pinned], laidTests := true, laidLooks := .later }
def FnExactCharsCardSaid : Prop := Claim7.holds Tryd.pinned (.plain (OpenSpec.ofChange fnExactCharsSpec)) fnExactCharsCard

/-- THE TIED CARD OF 'laws.FnExactNextChar'. -/
def fnExactNextCharCard : Claim7 := { stood := { row := fnExactNextCharRow, standIns := [], harness := (true, "ef61447f9fef75de8e46c57a1a03977482181d958ef6141762b9d40dcd506a88"), looks := false }, kinds := [], alts := [], laidByText := true, laidKinds := [.data, .pinned], laidTests := true, laidLooks := .later }
def FnExactNextCharCardSaid : Prop := Claim7.holds Tryd.pinned (.plain (OpenSpec.ofChange fnExactNextCharSpec)) fnExactNextCharCard

/-- THE TIED CARD OF 'laws.FnExactLastChar'. -/
def fnExactLastCharCard : Claim7 := { stood := { row := fnExactLastCharRow, standIns := [], harness := (true, "ef61447f9fef75de8e46c57a1a03977482181d958ef6141762b9d40dcd506a88"), looks := false }, kinds := [], alts := [], laidByText := true, laidKinds := [.data, .pinned], laidTests := true, laidLooks := .later }
def FnExactLastCharCardSaid : Prop := Claim7.holds Tryd.pinned (.plain (OpenSpec.ofChange fnExactLastCharSpec)) fnExactLastCharCard

/-- THE TIED CARD OF 'laws.FnExactWordCuts'. -/
def fnExactWordCutsCard : Claim7 := { stood := { row := fnExactWordCutsRow, standIns := [], harness := (true, "ef61447f9fef75de8e46c57a1a03977482181d958ef6141762b9d40dcd506a88"), looks := false }, kinds := [], alts := [], laidByText := true, laidKinds := [.data, .pinned], laidTests := true, laidLooks := .later }
def FnExactWordCutsCardSaid : Prop := Claim7.holds Tryd.pinned (.plain (OpenSpec.ofChange fnExactWordCutsSpec)) fnExactWordCutsCard

/-- THE TIED CARD OF 'laws.FnExactWords'. -/
def fnExactWordsCard : Claim7 := { stood := { row := fnExactWordsRow, standIns := [], harness := (true, "ef61447f9fef75de8e46c57a1a03977482181d958ef6141762b9d40dcd506a88"), looks := false }, kinds := [], alts := [], laidByText := true, laidKinds := [.data, .pinned], laidTests := true, laidLooks := .later }
def FnExactWordsCardSaid : Prop := Claim7.holds Tryd.pinned (.plain (OpenSpec.ofChange fnExactWordsSpec)) fnExactWordsCard

/-- THE TIED CARD OF 'laws.FnExactGlyphsOf'. -/
def fnExactGlyphsOfCard : Claim7 := { stood := { row := fnExactGlyphsOfRow, standIns := [], harness := (true, "ef61447f9fef75de8e46c57a1a03977482181d958ef6141762b9d40dcd506a88"), looks := false }, kinds := [], alts := [], laidByText := true, laidKinds := [.data, .pinned], laidTests := true, laidLooks := .later }
def FnExactGlyphsOfCardSaid : Prop := Claim7.holds Tryd.pinned (.plain (OpenSpec.ofChange fnExactGlyphsOfSpec)) fnExactGlyphsOfCard

/-- THE TIED CARD OF 'laws.FnExactFormsOf'. -/
def fnExactFormsOfCard : Claim7 := { stood := { row := fnExactFormsOfRow, standIns := [], harness := (true, "ef61447f9fef75de8e46c57a1a03977482181d958ef6141762b9d40dcd506a88"), looks := false }, kinds := [], alts := [], laidByText := true, laidKinds := [.data, .pinned], laidTests := true, laidLooks := .later }
def FnExactFormsOfCardSaid : Prop := Claim7.holds Tryd.pinned (.plain (OpenSpec.ofChange fnExactFormsOfSpec)) fnExactFormsOfCard

/-- THE TIED CARD OF 'laws.FnExactWordsFault'. -/
def fnExactWordsFaultCard : Claim7 := { stood := { row := fnExactWordsFaultRow, standIns := [], harness := (true, "ef61447f9fef75de8e46c57a1a03977482181d958ef6141762b9d40dcd506a88"), looks := false }, kinds := [], alts := [], laidByText := true, laidKinds := [.data, .pinned], laidTests := true, laidLooks := .later }
def FnExactWordsFaultCardSaid : Prop := Claim7.holds Tryd.pinned (.plain (OpenSpec.ofChange fnExactWordsFaultSpec)) fnExactWordsFaultCard

/-- THE TIED CARD OF 'laws.FnExactFewestWords'. -/
def fnExactFewestWordsCard : Claim7 := { stood := { row := fnExactFewestWordsRow, standIns := [], harness := (true, "ef61447f9fef75de8e46c57a1a03977482181d958ef6141762b9d40dcd506a88"), looks := false }, kinds := [], alts := [], laidByText := true, laidKinds := [.data, .pinned], laidTests := true, laidLooks := .later }
def FnExactFewestWordsCardSaid : Prop := Claim7.holds Tryd.pinned (.plain (OpenSpec.ofChange fnExactFewestWordsSpec)) fnExactFewestWordsCard

/-- THE SECOND FORM's CARD OF 'laws.FnExactCharCuts'. -/
def fnExactCharCutsUptoCard : Claim7 := { stood := { row := fnExactCharCutsUptoRow, standIns := [], harness := (true, "ef61447f9fef75de8e46c57a1a03977482181d958ef6141762b9d40dcd506a88"), looks := false }, kinds := [], alts := [], laidByText := true, laidKinds := [.data, .pinned], laidTests := true, laidLooks := .later }
def FnExactCharCutsUptoCardSaid : Prop := Claim7.holds Tryd.pinned (.plain (OpenSpec.upto fnExactCharCutsSpec)) fnExactCharCutsUptoCard

/-- THE SECOND FORM's CARD OF 'laws.FnExactChars'. -/
def fnExactCharsUptoCard : Claim7 := { stood := { row := fnExactCharsUptoRow, standIns := [], harness := (true, "ef61447f9fef75de8e46c57a1a03977482181d958ef6141762b9d40dcd506a88"), looks := false }, kinds := [], alts := [], laidByText := true, laidKinds := [.data, .pinned], laidTests := true, laidLooks := .later }
def FnExactCharsUptoCardSaid : Prop := Claim7.holds Tryd.pinned (.plain (OpenSpec.upto fnExactCharsSpec)) fnExactCharsUptoCard

/-- THE SECOND FORM's CARD OF 'laws.FnExactNextChar'. -/
def fnExactNextCharUptoCard : Claim7 := { stood := { row := fnExactNextCharUptoRow, standIns := [], harness := (true, "ef61447f9fef75de8e46c57a1a03977482181d958ef6141762b9d40dcd506a88"), looks := false }, kinds := [], alts := [], laidByText := true, laidKinds := [.data, .pinned], laidTests := true, laidLooks := .later }
def FnExactNextCharUptoCardSaid : Prop := Claim7.holds Tryd.pinned (.plain (OpenSpec.upto fnExactNextCharSpec)) fnExactNextCharUptoCard

/-- THE SECOND FORM's CARD OF 'laws.FnExactLastChar'. -/
def fnExactLastCharUptoCard : Claim7 := { stood := { row := fnExactLastCharUptoRow, standIns := [], harness := (true, "ef61447f9fef75de8e46c57a1a03977482181d958ef6141762b9d40dcd506a88"), looks := false }, kinds := [], alts := [], laidByText := true, laidKinds := [.data, .pinned], laidTests := true, laidLooks := .later }
def FnExactLastCharUptoCardSaid : Prop := Claim7.holds Tryd.pinned (.plain (OpenSpec.upto fnExactLastCharSpec)) fnExactLastCharUptoCard

/-- THE SECOND FORM's CARD OF 'laws.FnExactWordCuts'. -/
def fnExactWordCutsUptoCard : Claim7 := { stood := { row := fnExactWordCutsUptoRow, standIns := [], harness := (true, "ef61447f9fef75de8e46c57a1a03977482181d958ef6141762b9d40dcd506a88"), looks := false }, kinds := [], alts := [], laidByText := true, laidKinds := [.data, .pinned], laidTests := true, laidLooks := .later }
def FnExactWordCutsUptoCardSaid : Prop := Claim7.holds Tryd.pinned (.plain (OpenSpec.upto fnExactWordCutsSpec)) fnExactWordCutsUptoCard

/-- THE SECOND FORM's CARD OF 'laws.FnExactWords'. -/
def fnExactWordsUptoCard : Claim7 := { stood := { row := fnExactWordsUptoRow, standIns := [], harness := (true, "ef61447f9fef75de8e46c57a1a03977482181d958ef6141762b9d40dcd506a88"), looks := false }, kinds := [], alts := [], laidByText := true, laidKinds := [.data, .pinned], laidTests := true, laidLooks := .later }
def FnExactWordsUptoCardSaid : Prop := Claim7.holds Tryd.pinned (.plain (OpenSpec.upto fnExactWordsSpec)) fnExactWordsUptoCard

/-- THE SECOND FORM's CARD OF 'laws.FnExactGlyphsOf'. -/
def fnExactGlyphsOfUptoCard : Claim7 := { stood := { row := fnExactGlyphsOfUptoRow, standIns := [], harness := (true, "ef61447f9fef75de8e46c57a1a03977482181d958ef6141762b9d40dcd506a88"), looks := false }, kinds := [], alts := [], laidByText := true, laidKinds := [.data, .pinned], laidTests := true, laidLooks := .later }
def FnExactGlyphsOfUptoCardSaid : Prop := Claim7.holds Tryd.pinned (.plain (OpenSpec.upto fnExactGlyphsOfSpec)) fnExactGlyphsOfUptoCard

/-- THE SECOND FORM's CARD OF 'laws.FnExactFormsOf'. -/
def fnExactFormsOfUptoCard : Claim7 := { stood := { row := fnExactFormsOfUptoRow, standIns := [], harness := (true, "ef61447f9fef75de8e46c57a1a03977482181d958ef6141762b9d40dcd506a88"), looks := false }, kinds := [], alts := [], laidByText := true, laidKinds := [.data, .pinned], laidTests := true, laidLooks := .later }
def FnExactFormsOfUptoCardSaid : Prop := Claim7.holds Tryd.pinned (.plain (OpenSpec.upto fnExactFormsOfSpec)) fnExactFormsOfUptoCard

/-- THE SECOND FORM's CARD OF 'laws.FnExactWordsFault'. -/
def fnExactWordsFaultUptoCard : Claim7 := { stood := { row := fnExactWordsFaultUptoRow, standIns := [], harness := (true, "ef61447f9fef75de8e46c57a1a03977482181d958ef6141762b9d40dcd506a88"), looks := false }, kinds := [], alts := [], laidByText := true, laidKinds := [.data, .pinned], laidTests := true, laidLooks := .later }
def FnExactWordsFaultUptoCardSaid : Prop := Claim7.holds Tryd.pinned (.plain (OpenSpec.upto fnExactWordsFaultSpec)) fnExactWordsFaultUptoCard

/-- THE SECOND FORM's CARD OF 'laws.FnExactFewestWords'. -/
def fnExactFewestWordsUptoCard : Claim7 := { stood := { row := fnExactFewestWordsUptoRow, standIns := [], harness := (true, "ef61447f9fef75de8e46c57a1a03977482181d958ef6141762b9d40dcd506a88"), looks := false }, kinds := [], alts := [], laidByText := true, laidKinds := [.data, .pinned], laidTests := true, laidLooks := .later }
def FnExactFewestWordsUptoCardSaid : Prop := Claim7.holds Tryd.pinned (.plain (OpenSpec.upto fnExactFewestWordsSpec)) fnExactFewestWordsUptoCard
end Rows
end Go.Proofs.YtmlhnpggjkoinaaDoor

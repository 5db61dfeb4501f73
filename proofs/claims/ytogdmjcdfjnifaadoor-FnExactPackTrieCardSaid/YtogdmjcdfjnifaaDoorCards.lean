/-
  DERIVED. GIVEN WITH THE SEED: THE CARDS: each row of YtogdmjcdfjnifaaDoorRows.lean that lists a variable, with what it lists TIED to the program's text (the seventh form; the later family's looks); each row that meets fmt, with fmt's text TOLD by the authors' own Lean function (tested against real Go, not proved from fmt's source: count such statements apart). THE CARD IS WHAT COUNTS. Prove the row's statement (the work); the ties are given (YtogdmjcdfjnifaaDoorTie.lean); close each card by the builder's one call (the guide's Derived/Test/ToyasCard.lean, 'card_holds'). Laid BY PROGRAM, IN A SANDBOX (cutbox-door.mjs). By AI agents, Wed Nov 11 2026. No macro, syntax, notation, axiom, sorry.
-/
import Derived.Test.YtogdmjcdfjnifaaDoorRows
import GoSem.ClaimSeven
namespace Go.Proofs.YtogdmjcdfjnifaaDoor
namespace Rows

/-- THE TIED CARD OF 'laws.FnExactPackTrie'. -/
def fnExactPackTrieCard : Claim7 := { stood := { row := fnExactPackTrieRow, standIns := [], harness := (true, "4a9f8476f62e8c8afd71cdad3aafd0236ebb11fe98d4b6bc2422d536e72f8b72"), looks := false }, kinds := [], alts := [], laidByText := true, laidKinds := [.data, .data, .data], laidTests := true, laidLooks := .later }
def FnExactPackTrieCardSaid : Prop := Claim7.holds Tryd.pinned (.plain (OpenSpec.ofChange fnExactPackTrieSpec)) fnExactPackTrieCard

/-- THE SECOND FORM's CARD OF 'laws.FnExactPackTrie'. -/
def fnExactPackTrieUptoCard : Claim7 := { stood := { row := fnExactPackTrieUptoRow, standIns := [], harness := (true, "4a9f8476f62e8c8afd71cdad3aafd0236ebb11fe98d4b6bc2422d536e72f8b72"), looks := false }, kinds := [], alts := [], laidByText := true, laidKinds := [.data, .data, .data], laidTests := true, laidLooks := .later }
def FnExactPackTrieUptoCardSaid : Prop := Claim7.holds Tryd.pinned (.plain (OpenSpec.upto fnExactPackTrieSpec)) fnExactPackTrieUptoCard
end Rows
end Go.Proofs.YtogdmjcdfjnifaaDoor

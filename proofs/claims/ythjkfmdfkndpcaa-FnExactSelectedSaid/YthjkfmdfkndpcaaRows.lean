/-
  No cell of these rows narrows 'for every input' (looked for: loops, veiled, ifaces, maps, wideKeys, modest, calm, conditions, laid).
  DERIVED. THE GIVEN ROWS OF THIS SEAT. 4 by the template 'for every input the law returns true; each argument reads behind the call as it read before'; 0 by the template 'total and deterministic' (their statements: YthjkfmdfkndpcaaTotals.lean).
  GIVEN WITH THE SEED: the statements are not yours to turn. If you find one false, say at which input.
  Laid BY PROGRAM, IN A SANDBOX (cutbox-rows.mjs): the forced cells as the released guide's own fill.sh prints them over the translation 957b39c3409ce780… (all of the seat's roots in one cut). By AI agents, Wed Nov 11 2026. No macro, syntax, notation, axiom, sorry.
-/
import Derived.Test.YthjkfmdfkndpcaaChecked
import GoSem.Claim
import GoSem.ClaimJoined
import GoSem.ClaimMapViews
import Derived.JoinedTies
import Derived.KernelRfl
namespace Go.Proofs.Ythjkfmdfkndpcaa
/- THE CELL 'sum', in the pinned program and in every row, IS THE sha256 OF THE DUMP (.gsa) THAT YthjkfmdfkndpcaaProg.lean LOADS. Nothing in Lean hashes anything: it is a label: what it is worth is what the hold of that sum in a sandbox is worth. -/
noncomputable def Try.pinned : Pinned := { name := "ythjkfmdfkndpcaa", sum := "957b39c3409ce780f55a32f4b5e2c16fb793d6ca340fd134360ba0610738ff98", checked := Try.checked }
namespace Rows
def none {H : Type} : Left H := { results := [], args := [] }

/-- 'laws.FnExactOrderOf': WHATEVER THE INPUT: true; the input reads as it did. -/
def fnExactOrderOfSpec : ChangeSpec := { name := "fnExactOrderOf", fn := fun _ => fun
  | [d] => { results := [.lit (.bool true)], args := [d] }
  | _ => none }
def fnExactOrderOfRow : OpenClaim := { program := "ythjkfmdfkndpcaa", sum := "957b39c3409ce780f55a32f4b5e2c16fb793d6ca340fd134360ba0610738ff98", func := "loop.example/g00044/laws.FnExactOrderOf", spec := "fnExactOrderOf", apart := false }
def FnExactOrderOfSaid : Prop := fnExactOrderOfRow.holds Try.pinned (OpenSpec.ofChange fnExactOrderOfSpec)

/-- ITS FALSE NEIGHBOUR: 'it returns false'. Refute it at one input. -/
def fnExactOrderOfWrong : ChangeSpec := { name := "fnExactOrderOf", fn := fun _ => fun
  | [d] => { results := [.lit (.bool false)], args := [d] }
  | _ => none }
def FnExactOrderOfWrongFalsely : Prop := fnExactOrderOfRow.holds Try.pinned (OpenSpec.ofChange fnExactOrderOfWrong)

/-- 'laws.FnExactCaretOf': WHATEVER THE INPUT: true; the input reads as it did. -/
def fnExactCaretOfSpec : ChangeSpec := { name := "fnExactCaretOf", fn := fun _ => fun
  | [d1, d2, d3, d4] => { results := [.lit (.bool true)], args := [d1, d2, d3, d4] }
  | _ => none }
def fnExactCaretOfRow : OpenClaim := { program := "ythjkfmdfkndpcaa", sum := "957b39c3409ce780f55a32f4b5e2c16fb793d6ca340fd134360ba0610738ff98", func := "loop.example/g00044/laws.FnExactCaretOf", spec := "fnExactCaretOf", apart := false }
def FnExactCaretOfSaid : Prop := fnExactCaretOfRow.holds Try.pinned (OpenSpec.ofChange fnExactCaretOfSpec)

/-- ITS FALSE NEIGHBOUR: 'it returns false'. Refute it at one input. -/
def fnExactCaretOfWrong : ChangeSpec := { name := "fnExactCaretOf", fn := fun _ => fun
  | [d1, d2, d3, d4] => { results := [.lit (.bool false)], args := [d1, d2, d3, d4] }
  | _ => none }
def FnExactCaretOfWrongFalsely : Prop := fnExactCaretOfRow.holds Try.pinned (OpenSpec.ofChange fnExactCaretOfWrong)

/-- 'laws.FnExactPlaceOf': WHATEVER THE INPUT: true; the input reads as it did. -/
def fnExactPlaceOfSpec : ChangeSpec := { name := "fnExactPlaceOf", fn := fun _ => fun
  | [d1, d2, d3, d4] => { results := [.lit (.bool true)], args := [d1, d2, d3, d4] }
  | _ => none }
def fnExactPlaceOfRow : OpenClaim := { program := "ythjkfmdfkndpcaa", sum := "957b39c3409ce780f55a32f4b5e2c16fb793d6ca340fd134360ba0610738ff98", func := "loop.example/g00044/laws.FnExactPlaceOf", spec := "fnExactPlaceOf", apart := false }
def FnExactPlaceOfSaid : Prop := fnExactPlaceOfRow.holds Try.pinned (OpenSpec.ofChange fnExactPlaceOfSpec)

/-- ITS FALSE NEIGHBOUR: 'it returns false'. Refute it at one input. -/
def fnExactPlaceOfWrong : ChangeSpec := { name := "fnExactPlaceOf", fn := fun _ => fun
  | [d1, d2, d3, d4] => { results := [.lit (.bool false)], args := [d1, d2, d3, d4] }
  | _ => none }
def FnExactPlaceOfWrongFalsely : Prop := fnExactPlaceOfRow.holds Try.pinned (OpenSpec.ofChange fnExactPlaceOfWrong)

/-- 'laws.FnExactSelected': WHATEVER THE INPUT: true; the input reads as it did. -/
def fnExactSelectedSpec : ChangeSpec := { name := "fnExactSelected", fn := fun _ => fun
  | [d1, d2, d3] => { results := [.lit (.bool true)], args := [d1, d2, d3] }
  | _ => none }
def fnExactSelectedRow : OpenClaim := { program := "ythjkfmdfkndpcaa", sum := "957b39c3409ce780f55a32f4b5e2c16fb793d6ca340fd134360ba0610738ff98", func := "loop.example/g00044/laws.FnExactSelected", spec := "fnExactSelected", apart := false }
def FnExactSelectedSaid : Prop := fnExactSelectedRow.holds Try.pinned (OpenSpec.ofChange fnExactSelectedSpec)

/-- ITS FALSE NEIGHBOUR: 'it returns false'. Refute it at one input. -/
def fnExactSelectedWrong : ChangeSpec := { name := "fnExactSelected", fn := fun _ => fun
  | [d1, d2, d3] => { results := [.lit (.bool false)], args := [d1, d2, d3] }
  | _ => none }
def FnExactSelectedWrongFalsely : Prop := fnExactSelectedRow.holds Try.pinned (OpenSpec.ofChange fnExactSelectedWrong)

/- THE SECOND FORM. 'bulk': how many values and letters a reading holds, each counted each time it is reached (what is shared counts as often as it is met; a slice's spare places count too). A statement '..UptoSaid' is the law's where the arguments, and the package variables that the reading takes, are together of bulk at most 1048576: NARROWER than '..Said'. Prove '..Said' where nothing that the law and all that it calls make is longer than what came in: it says more and counts as full. Else prove '..UptoSaid'. A law counts once. -/
mutual
def uptoBulk {H : Type} : DataW H → Nat
  | .lit (.string bytes) => bytes.length + 1
  | .lit _ => 1
  | .nil => 1
  | .ptr d => uptoBulk d + 1
  | .slice elems spare => uptoBulkAll elems + uptoBulkAll spare + 1
  | .agg parts => uptoBulkAll parts + 1
  | .iface _ d => uptoBulk d + 1
  | .map entries => uptoBulkEntries entries + 1
  | .held _ => 1
def uptoBulkAll {H : Type} : List (DataW H) → Nat
  | [] => 0
  | d :: r => uptoBulk d + uptoBulkAll r
def uptoBulkEntries {H : Type} : List (Lit × DataW H) → Nat
  | [] => 0
  | x :: r => uptoBulkEntry x + uptoBulkEntries r
def uptoBulkEntry {H : Type} : Lit × DataW H → Nat
  | (.string bytes, d) => bytes.length + uptoBulk d + 1
  | (_, d) => uptoBulk d + 1
 end
def uptoSmall : (H : Type) → List (DataW H) → Bool := fun _ ds => decide (uptoBulkAll ds ≤ 1048576)
def OpenSpec.upto (s : _root_.Go.ChangeSpec) : _root_.Go.OpenSpec := { _root_.Go.OpenSpec.ofChange s with cond := some uptoSmall }

/-- 'laws.FnExactOrderOf', WHERE WHAT IT READS IS OF BULK AT MOST 1048576: true; the input reads as it did. -/
def fnExactOrderOfUptoRow : OpenClaim := { program := "ythjkfmdfkndpcaa", sum := "957b39c3409ce780f55a32f4b5e2c16fb793d6ca340fd134360ba0610738ff98", func := "loop.example/g00044/laws.FnExactOrderOf", spec := "fnExactOrderOf", apart := false, narrowed := true }
def FnExactOrderOfUptoSaid : Prop := fnExactOrderOfUptoRow.holds Try.pinned (OpenSpec.upto fnExactOrderOfSpec)

/-- 'laws.FnExactCaretOf', WHERE WHAT IT READS IS OF BULK AT MOST 1048576: true; the input reads as it did. -/
def fnExactCaretOfUptoRow : OpenClaim := { program := "ythjkfmdfkndpcaa", sum := "957b39c3409ce780f55a32f4b5e2c16fb793d6ca340fd134360ba0610738ff98", func := "loop.example/g00044/laws.FnExactCaretOf", spec := "fnExactCaretOf", apart := false, narrowed := true }
def FnExactCaretOfUptoSaid : Prop := fnExactCaretOfUptoRow.holds Try.pinned (OpenSpec.upto fnExactCaretOfSpec)

/-- 'laws.FnExactPlaceOf', WHERE WHAT IT READS IS OF BULK AT MOST 1048576: true; the input reads as it did. -/
def fnExactPlaceOfUptoRow : OpenClaim := { program := "ythjkfmdfkndpcaa", sum := "957b39c3409ce780f55a32f4b5e2c16fb793d6ca340fd134360ba0610738ff98", func := "loop.example/g00044/laws.FnExactPlaceOf", spec := "fnExactPlaceOf", apart := false, narrowed := true }
def FnExactPlaceOfUptoSaid : Prop := fnExactPlaceOfUptoRow.holds Try.pinned (OpenSpec.upto fnExactPlaceOfSpec)

/-- 'laws.FnExactSelected', WHERE WHAT IT READS IS OF BULK AT MOST 1048576: true; the input reads as it did. -/
def fnExactSelectedUptoRow : OpenClaim := { program := "ythjkfmdfkndpcaa", sum := "957b39c3409ce780f55a32f4b5e2c16fb793d6ca340fd134360ba0610738ff98", func := "loop.example/g00044/laws.FnExactSelected", spec := "fnExactSelected", apart := false, narrowed := true }
def FnExactSelectedUptoSaid : Prop := fnExactSelectedUptoRow.holds Try.pinned (OpenSpec.upto fnExactSelectedSpec)

end Rows
end Go.Proofs.Ythjkfmdfkndpcaa

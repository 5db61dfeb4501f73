/-
  No cell of these rows narrows 'for every input' (looked for: loops, veiled, ifaces, maps, wideKeys, modest, calm, conditions, laid).
  DERIVED. THE GIVEN ROWS OF THIS SEAT. 8 by the template 'for every input the law returns true; each argument reads behind the call as it read before'; 0 by the template 'total and deterministic' (their statements: YtdagmhbockeleaaTotals.lean).
  GIVEN WITH THE SEED: the statements are not yours to turn. If you find one false, say at which input.
  Laid BY PROGRAM, IN A SANDBOX (cutbox-rows.mjs): the forced cells as the released guide's own fill.sh prints them over the translation 0a230c6d845feb86… (all of the seat's roots in one cut). By AI agents, Wed Nov 11 2026. No macro, syntax, notation, axiom, sorry.
-/
import Derived.Test.YtdagmhbockeleaaChecked
import GoSem.Claim
import GoSem.ClaimJoined
import GoSem.ClaimMapViews
import Derived.JoinedTies
import Derived.KernelRfl
namespace Go.Proofs.Ytdagmhbockeleaa
/- THE CELL 'sum', in the pinned program and in every row, IS THE sha256 OF THE DUMP (.gsa) THAT YtdagmhbockeleaaProg.lean LOADS. Nothing in Lean hashes anything: it is a label: what it is worth is what the hold of that sum in a sandbox is worth. -/
noncomputable def Try.pinned : Pinned := { name := "ytdagmhbockeleaa", sum := "0a230c6d845feb86dee64fb5eb6cde10bd4efb9d85fc348b2109cb837f417509", checked := Try.checked }
namespace Rows
def none {H : Type} : Left H := { results := [], args := [] }

/-- 'laws.FnExactCategory': WHATEVER THE INPUT: true; the input reads as it did. -/
def fnExactCategorySpec : ChangeSpec := { name := "fnExactCategory", fn := fun _ => fun
  | [d] => { results := [.lit (.bool true)], args := [d] }
  | _ => none }
def fnExactCategoryRow : OpenClaim := { program := "ytdagmhbockeleaa", sum := "0a230c6d845feb86dee64fb5eb6cde10bd4efb9d85fc348b2109cb837f417509", func := "loop.example/g00044/laws.FnExactCategory", spec := "fnExactCategory", apart := false }
def FnExactCategorySaid : Prop := fnExactCategoryRow.holds Try.pinned (OpenSpec.ofChange fnExactCategorySpec)

/-- ITS FALSE NEIGHBOUR: 'it returns false'. Refute it at one input. -/
def fnExactCategoryWrong : ChangeSpec := { name := "fnExactCategory", fn := fun _ => fun
  | [d] => { results := [.lit (.bool false)], args := [d] }
  | _ => none }
def FnExactCategoryWrongFalsely : Prop := fnExactCategoryRow.holds Try.pinned (OpenSpec.ofChange fnExactCategoryWrong)

/-- 'laws.FnExactScript': WHATEVER THE INPUT: true; the input reads as it did. -/
def fnExactScriptSpec : ChangeSpec := { name := "fnExactScript", fn := fun _ => fun
  | [d] => { results := [.lit (.bool true)], args := [d] }
  | _ => none }
def fnExactScriptRow : OpenClaim := { program := "ytdagmhbockeleaa", sum := "0a230c6d845feb86dee64fb5eb6cde10bd4efb9d85fc348b2109cb837f417509", func := "loop.example/g00044/laws.FnExactScript", spec := "fnExactScript", apart := false }
def FnExactScriptSaid : Prop := fnExactScriptRow.holds Try.pinned (OpenSpec.ofChange fnExactScriptSpec)

/-- ITS FALSE NEIGHBOUR: 'it returns false'. Refute it at one input. -/
def fnExactScriptWrong : ChangeSpec := { name := "fnExactScript", fn := fun _ => fun
  | [d] => { results := [.lit (.bool false)], args := [d] }
  | _ => none }
def FnExactScriptWrongFalsely : Prop := fnExactScriptRow.holds Try.pinned (OpenSpec.ofChange fnExactScriptWrong)

/-- 'laws.FnExactAge': WHATEVER THE INPUT: true; the input reads as it did. -/
def fnExactAgeSpec : ChangeSpec := { name := "fnExactAge", fn := fun _ => fun
  | [d] => { results := [.lit (.bool true)], args := [d] }
  | _ => none }
def fnExactAgeRow : OpenClaim := { program := "ytdagmhbockeleaa", sum := "0a230c6d845feb86dee64fb5eb6cde10bd4efb9d85fc348b2109cb837f417509", func := "loop.example/g00044/laws.FnExactAge", spec := "fnExactAge", apart := false }
def FnExactAgeSaid : Prop := fnExactAgeRow.holds Try.pinned (OpenSpec.ofChange fnExactAgeSpec)

/-- ITS FALSE NEIGHBOUR: 'it returns false'. Refute it at one input. -/
def fnExactAgeWrong : ChangeSpec := { name := "fnExactAge", fn := fun _ => fun
  | [d] => { results := [.lit (.bool false)], args := [d] }
  | _ => none }
def FnExactAgeWrongFalsely : Prop := fnExactAgeRow.holds Try.pinned (OpenSpec.ofChange fnExactAgeWrong)

/-- 'laws.FnExactDecodeSteps': WHATEVER THE INPUT: true; the input reads as it did. -/
def fnExactDecodeStepsSpec : ChangeSpec := { name := "fnExactDecodeSteps", fn := fun _ => fun
  | [d] => { results := [.lit (.bool true)], args := [d] }
  | _ => none }
def fnExactDecodeStepsRow : OpenClaim := { program := "ytdagmhbockeleaa", sum := "0a230c6d845feb86dee64fb5eb6cde10bd4efb9d85fc348b2109cb837f417509", func := "loop.example/g00044/laws.FnExactDecodeSteps", spec := "fnExactDecodeSteps", apart := false }
def FnExactDecodeStepsSaid : Prop := fnExactDecodeStepsRow.holds Try.pinned (OpenSpec.ofChange fnExactDecodeStepsSpec)

/-- ITS FALSE NEIGHBOUR: 'it returns false'. Refute it at one input. -/
def fnExactDecodeStepsWrong : ChangeSpec := { name := "fnExactDecodeSteps", fn := fun _ => fun
  | [d] => { results := [.lit (.bool false)], args := [d] }
  | _ => none }
def FnExactDecodeStepsWrongFalsely : Prop := fnExactDecodeStepsRow.holds Try.pinned (OpenSpec.ofChange fnExactDecodeStepsWrong)

/-- 'laws.FnExactDecodeShift': WHATEVER THE INPUT: true; the input reads as it did. -/
def fnExactDecodeShiftSpec : ChangeSpec := { name := "fnExactDecodeShift", fn := fun _ => fun
  | [d] => { results := [.lit (.bool true)], args := [d] }
  | _ => none }
def fnExactDecodeShiftRow : OpenClaim := { program := "ytdagmhbockeleaa", sum := "0a230c6d845feb86dee64fb5eb6cde10bd4efb9d85fc348b2109cb837f417509", func := "loop.example/g00044/laws.FnExactDecodeShift", spec := "fnExactDecodeShift", apart := false }
def FnExactDecodeShiftSaid : Prop := fnExactDecodeShiftRow.holds Try.pinned (OpenSpec.ofChange fnExactDecodeShiftSpec)

/-- ITS FALSE NEIGHBOUR: 'it returns false'. Refute it at one input. -/
def fnExactDecodeShiftWrong : ChangeSpec := { name := "fnExactDecodeShift", fn := fun _ => fun
  | [d] => { results := [.lit (.bool false)], args := [d] }
  | _ => none }
def FnExactDecodeShiftWrongFalsely : Prop := fnExactDecodeShiftRow.holds Try.pinned (OpenSpec.ofChange fnExactDecodeShiftWrong)

/-- 'laws.FnExactJoinsTo': WHATEVER THE INPUT: true; the input reads as it did. -/
def fnExactJoinsToSpec : ChangeSpec := { name := "fnExactJoinsTo", fn := fun _ => fun
  | [d] => { results := [.lit (.bool true)], args := [d] }
  | _ => none }
def fnExactJoinsToRow : OpenClaim := { program := "ytdagmhbockeleaa", sum := "0a230c6d845feb86dee64fb5eb6cde10bd4efb9d85fc348b2109cb837f417509", func := "loop.example/g00044/laws.FnExactJoinsTo", spec := "fnExactJoinsTo", apart := false }
def FnExactJoinsToSaid : Prop := fnExactJoinsToRow.holds Try.pinned (OpenSpec.ofChange fnExactJoinsToSpec)

/-- ITS FALSE NEIGHBOUR: 'it returns false'. Refute it at one input. -/
def fnExactJoinsToWrong : ChangeSpec := { name := "fnExactJoinsTo", fn := fun _ => fun
  | [d] => { results := [.lit (.bool false)], args := [d] }
  | _ => none }
def FnExactJoinsToWrongFalsely : Prop := fnExactJoinsToRow.holds Try.pinned (OpenSpec.ofChange fnExactJoinsToWrong)

/-- 'laws.FnExactFontFault': WHATEVER THE INPUT: true; the input reads as it did. -/
def fnExactFontFaultSpec : ChangeSpec := { name := "fnExactFontFault", fn := fun _ => fun
  | [d] => { results := [.lit (.bool true)], args := [d] }
  | _ => none }
def fnExactFontFaultRow : OpenClaim := { program := "ytdagmhbockeleaa", sum := "0a230c6d845feb86dee64fb5eb6cde10bd4efb9d85fc348b2109cb837f417509", func := "loop.example/g00044/laws.FnExactFontFault", spec := "fnExactFontFault", apart := false }
def FnExactFontFaultSaid : Prop := fnExactFontFaultRow.holds Try.pinned (OpenSpec.ofChange fnExactFontFaultSpec)

/-- ITS FALSE NEIGHBOUR: 'it returns false'. Refute it at one input. -/
def fnExactFontFaultWrong : ChangeSpec := { name := "fnExactFontFault", fn := fun _ => fun
  | [d] => { results := [.lit (.bool false)], args := [d] }
  | _ => none }
def FnExactFontFaultWrongFalsely : Prop := fnExactFontFaultRow.holds Try.pinned (OpenSpec.ofChange fnExactFontFaultWrong)

/-- 'laws.FnExactDecompose': WHATEVER THE INPUT: true; the input reads as it did. -/
def fnExactDecomposeSpec : ChangeSpec := { name := "fnExactDecompose", fn := fun _ => fun
  | [d1, d2] => { results := [.lit (.bool true)], args := [d1, d2] }
  | _ => none }
def fnExactDecomposeRow : OpenClaim := { program := "ytdagmhbockeleaa", sum := "0a230c6d845feb86dee64fb5eb6cde10bd4efb9d85fc348b2109cb837f417509", func := "loop.example/g00044/laws.FnExactDecompose", spec := "fnExactDecompose", recurses := true, apart := false }
def FnExactDecomposeSaid : Prop := fnExactDecomposeRow.holds Try.pinned (OpenSpec.ofChange fnExactDecomposeSpec)

/-- ITS FALSE NEIGHBOUR: 'it returns false'. Refute it at one input. -/
def fnExactDecomposeWrong : ChangeSpec := { name := "fnExactDecompose", fn := fun _ => fun
  | [d1, d2] => { results := [.lit (.bool false)], args := [d1, d2] }
  | _ => none }
def FnExactDecomposeWrongFalsely : Prop := fnExactDecomposeRow.holds Try.pinned (OpenSpec.ofChange fnExactDecomposeWrong)

/- THE SECOND FORM. 'bulk': how many values and letters a reading holds, each counted each time it is reached (what is shared counts as often as it is met; a slice's spare places count too). A statement '..UptoSaid' is the law's where the arguments, and the package variables that the reading takes, are together of bulk at most 1048576: NARROWER than '..Said'. Prove '..Said' where nothing that the law and all that it calls make is longer than what came in: it says more and counts as full. Else prove '..UptoSaid'. A law counts once. -/
mutual
def uptoBulk {H : Type} : DataW H → Nat
  | .lit (.string bytes) => bytes.length + 1
  | .lit _ => 1
  | .nil => 1
  | .ptr d => uptoBulk d + 1
  | .slice elems spare => uptoBulkAll elems + uptoBulkAll spare + 1
  | .agg parts => uptoBulkAll parts + 1
  | .iface _ d => uptoBulk d + 1
  | .map entries => uptoBulkEntries entries + 1
  | .held _ => 1
def uptoBulkAll {H : Type} : List (DataW H) → Nat
  | [] => 0
  | d :: r => uptoBulk d + uptoBulkAll r
def uptoBulkEntries {H : Type} : List (Lit × DataW H) → Nat
  | [] => 0
  | x :: r => uptoBulkEntry x + uptoBulkEntries r
def uptoBulkEntry {H : Type} : Lit × DataW H → Nat
  | (.string bytes, d) => bytes.length + uptoBulk d + 1
  | (_, d) => uptoBulk d + 1
 end
def uptoSmall : (H : Type) → List (DataW H) → Bool := fun _ ds => decide (uptoBulkAll ds ≤ 1048576)
def OpenSpec.upto (s : _root_.Go.ChangeSpec) : _root_.Go.OpenSpec := { _root_.Go.OpenSpec.ofChange s with cond := some uptoSmall }

/-- 'laws.FnExactCategory', WHERE WHAT IT READS IS OF BULK AT MOST 1048576: true; the input reads as it did. -/
def fnExactCategoryUptoRow : OpenClaim := { program := "ytdagmhbockeleaa", sum := "0a230c6d845feb86dee64fb5eb6cde10bd4efb9d85fc348b2109cb837f417509", func := "loop.example/g00044/laws.FnExactCategory", spec := "fnExactCategory", apart := false, narrowed := true }
def FnExactCategoryUptoSaid : Prop := fnExactCategoryUptoRow.holds Try.pinned (OpenSpec.upto fnExactCategorySpec)

/-- 'laws.FnExactScript', WHERE WHAT IT READS IS OF BULK AT MOST 1048576: true; the input reads as it did. -/
def fnExactScriptUptoRow : OpenClaim := { program := "ytdagmhbockeleaa", sum := "0a230c6d845feb86dee64fb5eb6cde10bd4efb9d85fc348b2109cb837f417509", func := "loop.example/g00044/laws.FnExactScript", spec := "fnExactScript", apart := false, narrowed := true }
def FnExactScriptUptoSaid : Prop := fnExactScriptUptoRow.holds Try.pinned (OpenSpec.upto fnExactScriptSpec)

/-- 'laws.FnExactAge', WHERE WHAT IT READS IS OF BULK AT MOST 1048576: true; the input reads as it did. -/
def fnExactAgeUptoRow : OpenClaim := { program := "ytdagmhbockeleaa", sum := "0a230c6d845feb86dee64fb5eb6cde10bd4efb9d85fc348b2109cb837f417509", func := "loop.example/g00044/laws.FnExactAge", spec := "fnExactAge", apart := false, narrowed := true }
def FnExactAgeUptoSaid : Prop := fnExactAgeUptoRow.holds Try.pinned (OpenSpec.upto fnExactAgeSpec)

/-- 'laws.FnExactDecodeSteps', WHERE WHAT IT READS IS OF BULK AT MOST 1048576: true; the input reads as it did. -/
def fnExactDecodeStepsUptoRow : OpenClaim := { program := "ytdagmhbockeleaa", sum := "0a230c6d845feb86dee64fb5eb6cde10bd4efb9d85fc348b2109cb837f417509", func := "loop.example/g00044/laws.FnExactDecodeSteps", spec := "fnExactDecodeSteps", apart := false, narrowed := true }
def FnExactDecodeStepsUptoSaid : Prop := fnExactDecodeStepsUptoRow.holds Try.pinned (OpenSpec.upto fnExactDecodeStepsSpec)

/-- 'laws.FnExactDecodeShift', WHERE WHAT IT READS IS OF BULK AT MOST 1048576: true; the input reads as it did. -/
def fnExactDecodeShiftUptoRow : OpenClaim := { program := "ytdagmhbockeleaa", sum := "0a230c6d845feb86dee64fb5eb6cde10bd4efb9d85fc348b2109cb837f417509", func := "loop.example/g00044/laws.FnExactDecodeShift", spec := "fnExactDecodeShift", apart := false, narrowed := true }
def FnExactDecodeShiftUptoSaid : Prop := fnExactDecodeShiftUptoRow.holds Try.pinned (OpenSpec.upto fnExactDecodeShiftSpec)

/-- 'laws.FnExactJoinsTo', WHERE WHAT IT READS IS OF BULK AT MOST 1048576: true; the input reads as it did. -/
def fnExactJoinsToUptoRow : OpenClaim := { program := "ytdagmhbockeleaa", sum := "0a230c6d845feb86dee64fb5eb6cde10bd4efb9d85fc348b2109cb837f417509", func := "loop.example/g00044/laws.FnExactJoinsTo", spec := "fnExactJoinsTo", apart := false, narrowed := true }
def FnExactJoinsToUptoSaid : Prop := fnExactJoinsToUptoRow.holds Try.pinned (OpenSpec.upto fnExactJoinsToSpec)

/-- 'laws.FnExactFontFault', WHERE WHAT IT READS IS OF BULK AT MOST 1048576: true; the input reads as it did. -/
def fnExactFontFaultUptoRow : OpenClaim := { program := "ytdagmhbockeleaa", sum := "0a230c6d845feb86dee64fb5eb6cde10bd4efb9d85fc348b2109cb837f417509", func := "loop.example/g00044/laws.FnExactFontFault", spec := "fnExactFontFault", apart := false, narrowed := true }
def FnExactFontFaultUptoSaid : Prop := fnExactFontFaultUptoRow.holds Try.pinned (OpenSpec.upto fnExactFontFaultSpec)

/-- 'laws.FnExactDecompose', WHERE WHAT IT READS IS OF BULK AT MOST 1048576: true; the input reads as it did. -/
def fnExactDecomposeUptoRow : OpenClaim := { program := "ytdagmhbockeleaa", sum := "0a230c6d845feb86dee64fb5eb6cde10bd4efb9d85fc348b2109cb837f417509", func := "loop.example/g00044/laws.FnExactDecompose", spec := "fnExactDecompose", recurses := true, apart := false, narrowed := true }
def FnExactDecomposeUptoSaid : Prop := fnExactDecomposeUptoRow.holds Try.pinned (OpenSpec.upto fnExactDecomposeSpec)

end Rows
end Go.Proofs.Ytdagmhbockeleaa

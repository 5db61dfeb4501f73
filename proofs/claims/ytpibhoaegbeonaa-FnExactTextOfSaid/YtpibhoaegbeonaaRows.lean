/-
  No cell of these rows narrows 'for every input' (looked for: loops, veiled, ifaces, maps, wideKeys, modest, calm, conditions, laid).
  DERIVED. THE GIVEN ROWS OF THIS SEAT. 10 by the template 'for every input the law returns true; each argument reads behind the call as it read before'; 0 by the template 'total and deterministic' (their statements: YtpibhoaegbeonaaTotals.lean).
  GIVEN WITH THE SEED: the statements are not yours to turn. If you find one false, say at which input.
  Laid BY PROGRAM, IN A SANDBOX (cutbox-rows.mjs): the forced cells as the released guide's own fill.sh prints them over the translation 515c09053cb8d0a0… (all of the seat's roots in one cut). By AI agents, Wed Nov 11 2026. No macro, syntax, notation, axiom, sorry.
-/
import Derived.Test.YtpibhoaegbeonaaChecked
import GoSem.Claim
import GoSem.ClaimJoined
import GoSem.ClaimMapViews
import Derived.JoinedTies
import Derived.KernelRfl
namespace Go.Proofs.Ytpibhoaegbeonaa
/- THE CELL 'sum', in the pinned program and in every row, IS THE sha256 OF THE DUMP (.gsa) THAT YtpibhoaegbeonaaProg.lean LOADS. Nothing in Lean hashes anything: it is a label: what it is worth is what the hold of that sum in a sandbox is worth. -/
noncomputable def Try.pinned : Pinned := { name := "ytpibhoaegbeonaa", sum := "515c09053cb8d0a0f90ebd131fb0cbb68f9223993713696ed8809215b3fdfd54", checked := Try.checked }
namespace Rows
def none {H : Type} : Left H := { results := [], args := [] }

/-- 'laws.FnExactConstants': WHATEVER THE INPUT: true; the input reads as it did. -/
def fnExactConstantsSpec : ChangeSpec := { name := "fnExactConstants", fn := fun _ => fun
  | [] => { results := [.lit (.bool true)], args := [] }
  | _ => none }
def fnExactConstantsRow : OpenClaim := { program := "ytpibhoaegbeonaa", sum := "515c09053cb8d0a0f90ebd131fb0cbb68f9223993713696ed8809215b3fdfd54", func := "loop.example/g00044/laws.FnExactConstants", spec := "fnExactConstants", plainKeys := false, apart := false }
def FnExactConstantsSaid : Prop := fnExactConstantsRow.holds Try.pinned (OpenSpec.ofChange fnExactConstantsSpec)

/-- ITS FALSE NEIGHBOUR: 'it returns false'. Refute it at one input. -/
def fnExactConstantsWrong : ChangeSpec := { name := "fnExactConstants", fn := fun _ => fun
  | [] => { results := [.lit (.bool false)], args := [] }
  | _ => none }
def FnExactConstantsWrongFalsely : Prop := fnExactConstantsRow.holds Try.pinned (OpenSpec.ofChange fnExactConstantsWrong)

/-- 'laws.FnExactStrokes': WHATEVER THE INPUT: true; the input reads as it did. -/
def fnExactStrokesSpec : ChangeSpec := { name := "fnExactStrokes", fn := fun _ => fun
  | [d] => { results := [.lit (.bool true)], args := [d] }
  | _ => none }
def fnExactStrokesRow : OpenClaim := { program := "ytpibhoaegbeonaa", sum := "515c09053cb8d0a0f90ebd131fb0cbb68f9223993713696ed8809215b3fdfd54", func := "loop.example/g00044/laws.FnExactStrokes", spec := "fnExactStrokes", plainKeys := false, apart := false }
def FnExactStrokesSaid : Prop := fnExactStrokesRow.holds Try.pinned (OpenSpec.ofChange fnExactStrokesSpec)

/-- ITS FALSE NEIGHBOUR: 'it returns false'. Refute it at one input. -/
def fnExactStrokesWrong : ChangeSpec := { name := "fnExactStrokes", fn := fun _ => fun
  | [d] => { results := [.lit (.bool false)], args := [d] }
  | _ => none }
def FnExactStrokesWrongFalsely : Prop := fnExactStrokesRow.holds Try.pinned (OpenSpec.ofChange fnExactStrokesWrong)

/-- 'laws.FnExactMarkClass': WHATEVER THE INPUT: true; the input reads as it did. -/
def fnExactMarkClassSpec : ChangeSpec := { name := "fnExactMarkClass", fn := fun _ => fun
  | [d] => { results := [.lit (.bool true)], args := [d] }
  | _ => none }
def fnExactMarkClassRow : OpenClaim := { program := "ytpibhoaegbeonaa", sum := "515c09053cb8d0a0f90ebd131fb0cbb68f9223993713696ed8809215b3fdfd54", func := "loop.example/g00044/laws.FnExactMarkClass", spec := "fnExactMarkClass", plainKeys := false, apart := false }
def FnExactMarkClassSaid : Prop := fnExactMarkClassRow.holds Try.pinned (OpenSpec.ofChange fnExactMarkClassSpec)

/-- ITS FALSE NEIGHBOUR: 'it returns false'. Refute it at one input. -/
def fnExactMarkClassWrong : ChangeSpec := { name := "fnExactMarkClass", fn := fun _ => fun
  | [d] => { results := [.lit (.bool false)], args := [d] }
  | _ => none }
def FnExactMarkClassWrongFalsely : Prop := fnExactMarkClassRow.holds Try.pinned (OpenSpec.ofChange fnExactMarkClassWrong)

/-- 'laws.FnExactCompose': WHATEVER THE INPUT: true; the input reads as it did. -/
def fnExactComposeSpec : ChangeSpec := { name := "fnExactCompose", fn := fun _ => fun
  | [d1, d2] => { results := [.lit (.bool true)], args := [d1, d2] }
  | _ => none }
def fnExactComposeRow : OpenClaim := { program := "ytpibhoaegbeonaa", sum := "515c09053cb8d0a0f90ebd131fb0cbb68f9223993713696ed8809215b3fdfd54", func := "loop.example/g00044/laws.FnExactCompose", spec := "fnExactCompose", plainKeys := false, apart := false }
def FnExactComposeSaid : Prop := fnExactComposeRow.holds Try.pinned (OpenSpec.ofChange fnExactComposeSpec)

/-- ITS FALSE NEIGHBOUR: 'it returns false'. Refute it at one input. -/
def fnExactComposeWrong : ChangeSpec := { name := "fnExactCompose", fn := fun _ => fun
  | [d1, d2] => { results := [.lit (.bool false)], args := [d1, d2] }
  | _ => none }
def FnExactComposeWrongFalsely : Prop := fnExactComposeRow.holds Try.pinned (OpenSpec.ofChange fnExactComposeWrong)

/-- 'laws.FnExactSpansFault': WHATEVER THE INPUT: true; the input reads as it did. -/
def fnExactSpansFaultSpec : ChangeSpec := { name := "fnExactSpansFault", fn := fun _ => fun
  | [d] => { results := [.lit (.bool true)], args := [d] }
  | _ => none }
def fnExactSpansFaultRow : OpenClaim := { program := "ytpibhoaegbeonaa", sum := "515c09053cb8d0a0f90ebd131fb0cbb68f9223993713696ed8809215b3fdfd54", func := "loop.example/g00044/laws.FnExactSpansFault", spec := "fnExactSpansFault", plainKeys := false, apart := false }
def FnExactSpansFaultSaid : Prop := fnExactSpansFaultRow.holds Try.pinned (OpenSpec.ofChange fnExactSpansFaultSpec)

/-- ITS FALSE NEIGHBOUR: 'it returns false'. Refute it at one input. -/
def fnExactSpansFaultWrong : ChangeSpec := { name := "fnExactSpansFault", fn := fun _ => fun
  | [d] => { results := [.lit (.bool false)], args := [d] }
  | _ => none }
def FnExactSpansFaultWrongFalsely : Prop := fnExactSpansFaultRow.holds Try.pinned (OpenSpec.ofChange fnExactSpansFaultWrong)

/-- 'laws.FnExactTextOf': WHATEVER THE INPUT: true; the input reads as it did. -/
def fnExactTextOfSpec : ChangeSpec := { name := "fnExactTextOf", fn := fun _ => fun
  | [d] => { results := [.lit (.bool true)], args := [d] }
  | _ => none }
def fnExactTextOfRow : OpenClaim := { program := "ytpibhoaegbeonaa", sum := "515c09053cb8d0a0f90ebd131fb0cbb68f9223993713696ed8809215b3fdfd54", func := "loop.example/g00044/laws.FnExactTextOf", spec := "fnExactTextOf", plainKeys := false, apart := false }
def FnExactTextOfSaid : Prop := fnExactTextOfRow.holds Try.pinned (OpenSpec.ofChange fnExactTextOfSpec)

/-- ITS FALSE NEIGHBOUR: 'it returns false'. Refute it at one input. -/
def fnExactTextOfWrong : ChangeSpec := { name := "fnExactTextOf", fn := fun _ => fun
  | [d] => { results := [.lit (.bool false)], args := [d] }
  | _ => none }
def FnExactTextOfWrongFalsely : Prop := fnExactTextOfRow.holds Try.pinned (OpenSpec.ofChange fnExactTextOfWrong)

/-- 'laws.FnExactOrderOf': WHATEVER THE INPUT: true; the input reads as it did. -/
def fnExactOrderOfSpec : ChangeSpec := { name := "fnExactOrderOf", fn := fun _ => fun
  | [d] => { results := [.lit (.bool true)], args := [d] }
  | _ => none }
def fnExactOrderOfRow : OpenClaim := { program := "ytpibhoaegbeonaa", sum := "515c09053cb8d0a0f90ebd131fb0cbb68f9223993713696ed8809215b3fdfd54", func := "loop.example/g00044/laws.FnExactOrderOf", spec := "fnExactOrderOf", plainKeys := false, apart := false }
def FnExactOrderOfSaid : Prop := fnExactOrderOfRow.holds Try.pinned (OpenSpec.ofChange fnExactOrderOfSpec)

/-- ITS FALSE NEIGHBOUR: 'it returns false'. Refute it at one input. -/
def fnExactOrderOfWrong : ChangeSpec := { name := "fnExactOrderOf", fn := fun _ => fun
  | [d] => { results := [.lit (.bool false)], args := [d] }
  | _ => none }
def FnExactOrderOfWrongFalsely : Prop := fnExactOrderOfRow.holds Try.pinned (OpenSpec.ofChange fnExactOrderOfWrong)

/-- 'laws.FnExactSetHas': WHATEVER THE INPUT: true; the input reads as it did. -/
def fnExactSetHasSpec : ChangeSpec := { name := "fnExactSetHas", fn := fun _ => fun
  | [d1, d2] => { results := [.lit (.bool true)], args := [d1, d2] }
  | _ => none }
def fnExactSetHasRow : OpenClaim := { program := "ytpibhoaegbeonaa", sum := "515c09053cb8d0a0f90ebd131fb0cbb68f9223993713696ed8809215b3fdfd54", func := "loop.example/g00044/laws.FnExactSetHas", spec := "fnExactSetHas", unfollowed := true, recurses := true, plainKeys := false, apart := false }
def FnExactSetHasSaid : Prop := fnExactSetHasRow.holds Try.pinned (OpenSpec.ofChange fnExactSetHasSpec)

/-- ITS FALSE NEIGHBOUR: 'it returns false'. Refute it at one input. -/
def fnExactSetHasWrong : ChangeSpec := { name := "fnExactSetHas", fn := fun _ => fun
  | [d1, d2] => { results := [.lit (.bool false)], args := [d1, d2] }
  | _ => none }
def FnExactSetHasWrongFalsely : Prop := fnExactSetHasRow.holds Try.pinned (OpenSpec.ofChange fnExactSetHasWrong)

/-- 'laws.FnExactTrieFault': WHATEVER THE INPUT: true; the input reads as it did. -/
def fnExactTrieFaultSpec : ChangeSpec := { name := "fnExactTrieFault", fn := fun _ => fun
  | [d] => { results := [.lit (.bool true)], args := [d] }
  | _ => none }
def fnExactTrieFaultRow : OpenClaim := { program := "ytpibhoaegbeonaa", sum := "515c09053cb8d0a0f90ebd131fb0cbb68f9223993713696ed8809215b3fdfd54", func := "loop.example/g00044/laws.FnExactTrieFault", spec := "fnExactTrieFault", plainKeys := false, apart := false }
def FnExactTrieFaultSaid : Prop := fnExactTrieFaultRow.holds Try.pinned (OpenSpec.ofChange fnExactTrieFaultSpec)

/-- ITS FALSE NEIGHBOUR: 'it returns false'. Refute it at one input. -/
def fnExactTrieFaultWrong : ChangeSpec := { name := "fnExactTrieFault", fn := fun _ => fun
  | [d] => { results := [.lit (.bool false)], args := [d] }
  | _ => none }
def FnExactTrieFaultWrongFalsely : Prop := fnExactTrieFaultRow.holds Try.pinned (OpenSpec.ofChange fnExactTrieFaultWrong)

/-- 'laws.FnExactTrieAt': WHATEVER THE INPUT: true; the input reads as it did. -/
def fnExactTrieAtSpec : ChangeSpec := { name := "fnExactTrieAt", fn := fun _ => fun
  | [d1, d2] => { results := [.lit (.bool true)], args := [d1, d2] }
  | _ => none }
def fnExactTrieAtRow : OpenClaim := { program := "ytpibhoaegbeonaa", sum := "515c09053cb8d0a0f90ebd131fb0cbb68f9223993713696ed8809215b3fdfd54", func := "loop.example/g00044/laws.FnExactTrieAt", spec := "fnExactTrieAt", plainKeys := false, apart := false }
def FnExactTrieAtSaid : Prop := fnExactTrieAtRow.holds Try.pinned (OpenSpec.ofChange fnExactTrieAtSpec)

/-- ITS FALSE NEIGHBOUR: 'it returns false'. Refute it at one input. -/
def fnExactTrieAtWrong : ChangeSpec := { name := "fnExactTrieAt", fn := fun _ => fun
  | [d1, d2] => { results := [.lit (.bool false)], args := [d1, d2] }
  | _ => none }
def FnExactTrieAtWrongFalsely : Prop := fnExactTrieAtRow.holds Try.pinned (OpenSpec.ofChange fnExactTrieAtWrong)

/- THE SECOND FORM. 'bulk': how many values and letters a reading holds, each counted each time it is reached (what is shared counts as often as it is met; a slice's spare places count too). A statement '..UptoSaid' is the law's where the arguments, and the package variables that the reading takes, are together of bulk at most 1048576: NARROWER than '..Said'. Prove '..Said' where nothing that the law and all that it calls make is longer than what came in: it says more and counts as full. Else prove '..UptoSaid'. A law counts once. -/
mutual
def uptoBulk {H : Type} : DataW H → Nat
  | .lit (.string bytes) => bytes.length + 1
  | .lit _ => 1
  | .nil => 1
  | .ptr d => uptoBulk d + 1
  | .slice elems spare => uptoBulkAll elems + uptoBulkAll spare + 1
  | .agg parts => uptoBulkAll parts + 1
  | .iface _ d => uptoBulk d + 1
  | .map entries => uptoBulkEntries entries + 1
  | .held _ => 1
def uptoBulkAll {H : Type} : List (DataW H) → Nat
  | [] => 0
  | d :: r => uptoBulk d + uptoBulkAll r
def uptoBulkEntries {H : Type} : List (Lit × DataW H) → Nat
  | [] => 0
  | x :: r => uptoBulkEntry x + uptoBulkEntries r
def uptoBulkEntry {H : Type} : Lit × DataW H → Nat
  | (.string bytes, d) => bytes.length + uptoBulk d + 1
  | (_, d) => uptoBulk d + 1
 end
def uptoSmall : (H : Type) → List (DataW H) → Bool := fun _ ds => decide (uptoBulkAll ds ≤ 1048576)
def OpenSpec.upto (s : _root_.Go.ChangeSpec) : _root_.Go.OpenSpec := { _root_.Go.OpenSpec.ofChange s with cond := some uptoSmall }

/-- 'laws.FnExactConstants', WHERE WHAT IT READS IS OF BULK AT MOST 1048576: true; the input reads as it did. -/
def fnExactConstantsUptoRow : OpenClaim := { program := "ytpibhoaegbeonaa", sum := "515c09053cb8d0a0f90ebd131fb0cbb68f9223993713696ed8809215b3fdfd54", func := "loop.example/g00044/laws.FnExactConstants", spec := "fnExactConstants", plainKeys := false, apart := false, narrowed := true }
def FnExactConstantsUptoSaid : Prop := fnExactConstantsUptoRow.holds Try.pinned (OpenSpec.upto fnExactConstantsSpec)

/-- 'laws.FnExactStrokes', WHERE WHAT IT READS IS OF BULK AT MOST 1048576: true; the input reads as it did. -/
def fnExactStrokesUptoRow : OpenClaim := { program := "ytpibhoaegbeonaa", sum := "515c09053cb8d0a0f90ebd131fb0cbb68f9223993713696ed8809215b3fdfd54", func := "loop.example/g00044/laws.FnExactStrokes", spec := "fnExactStrokes", plainKeys := false, apart := false, narrowed := true }
def FnExactStrokesUptoSaid : Prop := fnExactStrokesUptoRow.holds Try.pinned (OpenSpec.upto fnExactStrokesSpec)

/-- 'laws.FnExactMarkClass', WHERE WHAT IT READS IS OF BULK AT MOST 1048576: true; the input reads as it did. -/
def fnExactMarkClassUptoRow : OpenClaim := { program := "ytpibhoaegbeonaa", sum := "515c09053cb8d0a0f90ebd131fb0cbb68f9223993713696ed8809215b3fdfd54", func := "loop.example/g00044/laws.FnExactMarkClass", spec := "fnExactMarkClass", plainKeys := false, apart := false, narrowed := true }
def FnExactMarkClassUptoSaid : Prop := fnExactMarkClassUptoRow.holds Try.pinned (OpenSpec.upto fnExactMarkClassSpec)

/-- 'laws.FnExactCompose', WHERE WHAT IT READS IS OF BULK AT MOST 1048576: true; the input reads as it did. -/
def fnExactComposeUptoRow : OpenClaim := { program := "ytpibhoaegbeonaa", sum := "515c09053cb8d0a0f90ebd131fb0cbb68f9223993713696ed8809215b3fdfd54", func := "loop.example/g00044/laws.FnExactCompose", spec := "fnExactCompose", plainKeys := false, apart := false, narrowed := true }
def FnExactComposeUptoSaid : Prop := fnExactComposeUptoRow.holds Try.pinned (OpenSpec.upto fnExactComposeSpec)

/-- 'laws.FnExactSpansFault', WHERE WHAT IT READS IS OF BULK AT MOST 1048576: true; the input reads as it did. -/
def fnExactSpansFaultUptoRow : OpenClaim := { program := "ytpibhoaegbeonaa", sum := "515c09053cb8d0a0f90ebd131fb0cbb68f9223993713696ed8809215b3fdfd54", func := "loop.example/g00044/laws.FnExactSpansFault", spec := "fnExactSpansFault", plainKeys := false, apart := false, narrowed := true }
def FnExactSpansFaultUptoSaid : Prop := fnExactSpansFaultUptoRow.holds Try.pinned (OpenSpec.upto fnExactSpansFaultSpec)

/-- 'laws.FnExactTextOf', WHERE WHAT IT READS IS OF BULK AT MOST 1048576: true; the input reads as it did. -/
def fnExactTextOfUptoRow : OpenClaim := { program := "ytpibhoaegbeonaa", sum := "515c09053cb8d0a0f90ebd131fb0cbb68f9223993713696ed8809215b3fdfd54", func := "loop.example/g00044/laws.FnExactTextOf", spec := "fnExactTextOf", plainKeys := false, apart := false, narrowed := true }
def FnExactTextOfUptoSaid : Prop := fnExactTextOfUptoRow.holds Try.pinned (OpenSpec.upto fnExactTextOfSpec)

/-- 'laws.FnExactOrderOf', WHERE WHAT IT READS IS OF BULK AT MOST 1048576: true; the input reads as it did. -/
def fnExactOrderOfUptoRow : OpenClaim := { program := "ytpibhoaegbeonaa", sum := "515c09053cb8d0a0f90ebd131fb0cbb68f9223993713696ed8809215b3fdfd54", func := "loop.example/g00044/laws.FnExactOrderOf", spec := "fnExactOrderOf", plainKeys := false, apart := false, narrowed := true }
def FnExactOrderOfUptoSaid : Prop := fnExactOrderOfUptoRow.holds Try.pinned (OpenSpec.upto fnExactOrderOfSpec)

/-- 'laws.FnExactSetHas', WHERE WHAT IT READS IS OF BULK AT MOST 1048576: true; the input reads as it did. -/
def fnExactSetHasUptoRow : OpenClaim := { program := "ytpibhoaegbeonaa", sum := "515c09053cb8d0a0f90ebd131fb0cbb68f9223993713696ed8809215b3fdfd54", func := "loop.example/g00044/laws.FnExactSetHas", spec := "fnExactSetHas", unfollowed := true, recurses := true, plainKeys := false, apart := false, narrowed := true }
def FnExactSetHasUptoSaid : Prop := fnExactSetHasUptoRow.holds Try.pinned (OpenSpec.upto fnExactSetHasSpec)

/-- 'laws.FnExactTrieFault', WHERE WHAT IT READS IS OF BULK AT MOST 1048576: true; the input reads as it did. -/
def fnExactTrieFaultUptoRow : OpenClaim := { program := "ytpibhoaegbeonaa", sum := "515c09053cb8d0a0f90ebd131fb0cbb68f9223993713696ed8809215b3fdfd54", func := "loop.example/g00044/laws.FnExactTrieFault", spec := "fnExactTrieFault", plainKeys := false, apart := false, narrowed := true }
def FnExactTrieFaultUptoSaid : Prop := fnExactTrieFaultUptoRow.holds Try.pinned (OpenSpec.upto fnExactTrieFaultSpec)

/-- 'laws.FnExactTrieAt', WHERE WHAT IT READS IS OF BULK AT MOST 1048576: true; the input reads as it did. -/
def fnExactTrieAtUptoRow : OpenClaim := { program := "ytpibhoaegbeonaa", sum := "515c09053cb8d0a0f90ebd131fb0cbb68f9223993713696ed8809215b3fdfd54", func := "loop.example/g00044/laws.FnExactTrieAt", spec := "fnExactTrieAt", plainKeys := false, apart := false, narrowed := true }
def FnExactTrieAtUptoSaid : Prop := fnExactTrieAtUptoRow.holds Try.pinned (OpenSpec.upto fnExactTrieAtSpec)

end Rows
end Go.Proofs.Ytpibhoaegbeonaa

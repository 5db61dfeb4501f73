/-
  No cell of these rows narrows 'for every input' (looked for: loops, veiled, ifaces, maps, wideKeys, modest, calm, conditions, laid).
  DERIVED. THE GIVEN ROWS OF THIS SEAT. 9 by the template 'for every input the law returns true; each argument reads behind the call as it read before'; 0 by the template 'total and deterministic' (their statements: YtogdmjcdfjnifaaTotals.lean).
  GIVEN WITH THE SEED: the statements are not yours to turn. If you find one false, say at which input.
  Laid BY PROGRAM, IN A SANDBOX (cutbox-rows.mjs): the forced cells as the released guide's own fill.sh prints them over the translation 2162859fe972fc3e… (all of the seat's roots in one cut). By AI agents, Wed Nov 11 2026. No macro, syntax, notation, axiom, sorry.
-/
import Derived.Test.YtogdmjcdfjnifaaChecked
import GoSem.Claim
import GoSem.ClaimJoined
import GoSem.ClaimMapViews
import Derived.JoinedTies
import Derived.KernelRfl
namespace Go.Proofs.Ytogdmjcdfjnifaa
/- THE CELL 'sum', in the pinned program and in every row, IS THE sha256 OF THE DUMP (.gsa) THAT YtogdmjcdfjnifaaProg.lean LOADS. Nothing in Lean hashes anything: it is a label: what it is worth is what the hold of that sum in a sandbox is worth. -/
noncomputable def Try.pinned : Pinned := { name := "ytogdmjcdfjnifaa", sum := "2162859fe972fc3ea92d23422656605921535421cb421ed9b36ee84966096839", checked := Try.checked }
namespace Rows
def none {H : Type} : Left H := { results := [], args := [] }

/-- 'laws.FnExactTrieFault': WHATEVER THE INPUT: true; the input reads as it did. -/
def fnExactTrieFaultSpec : ChangeSpec := { name := "fnExactTrieFault", fn := fun _ => fun
  | [d] => { results := [.lit (.bool true)], args := [d] }
  | _ => none }
def fnExactTrieFaultRow : OpenClaim := { program := "ytogdmjcdfjnifaa", sum := "2162859fe972fc3ea92d23422656605921535421cb421ed9b36ee84966096839", func := "loop.example/g00044/laws.FnExactTrieFault", spec := "fnExactTrieFault", plainKeys := false, apart := false }
def FnExactTrieFaultSaid : Prop := fnExactTrieFaultRow.holds Try.pinned (OpenSpec.ofChange fnExactTrieFaultSpec)

/-- ITS FALSE NEIGHBOUR: 'it returns false'. Refute it at one input. -/
def fnExactTrieFaultWrong : ChangeSpec := { name := "fnExactTrieFault", fn := fun _ => fun
  | [d] => { results := [.lit (.bool false)], args := [d] }
  | _ => none }
def FnExactTrieFaultWrongFalsely : Prop := fnExactTrieFaultRow.holds Try.pinned (OpenSpec.ofChange fnExactTrieFaultWrong)

/-- 'laws.FnExactTrieAt': WHATEVER THE INPUT: true; the input reads as it did. -/
def fnExactTrieAtSpec : ChangeSpec := { name := "fnExactTrieAt", fn := fun _ => fun
  | [d1, d2] => { results := [.lit (.bool true)], args := [d1, d2] }
  | _ => none }
def fnExactTrieAtRow : OpenClaim := { program := "ytogdmjcdfjnifaa", sum := "2162859fe972fc3ea92d23422656605921535421cb421ed9b36ee84966096839", func := "loop.example/g00044/laws.FnExactTrieAt", spec := "fnExactTrieAt", plainKeys := false, apart := false }
def FnExactTrieAtSaid : Prop := fnExactTrieAtRow.holds Try.pinned (OpenSpec.ofChange fnExactTrieAtSpec)

/-- ITS FALSE NEIGHBOUR: 'it returns false'. Refute it at one input. -/
def fnExactTrieAtWrong : ChangeSpec := { name := "fnExactTrieAt", fn := fun _ => fun
  | [d1, d2] => { results := [.lit (.bool false)], args := [d1, d2] }
  | _ => none }
def FnExactTrieAtWrongFalsely : Prop := fnExactTrieAtRow.holds Try.pinned (OpenSpec.ofChange fnExactTrieAtWrong)

/-- 'laws.FnExactBuildTrie': WHATEVER THE INPUT: true; the input reads as it did. -/
def fnExactBuildTrieSpec : ChangeSpec := { name := "fnExactBuildTrie", fn := fun _ => fun
  | [d1, d2] => { results := [.lit (.bool true)], args := [d1, d2] }
  | _ => none }
def fnExactBuildTrieRow : OpenClaim := { program := "ytogdmjcdfjnifaa", sum := "2162859fe972fc3ea92d23422656605921535421cb421ed9b36ee84966096839", func := "loop.example/g00044/laws.FnExactBuildTrie", spec := "fnExactBuildTrie", plainKeys := false, apart := false }
def FnExactBuildTrieSaid : Prop := fnExactBuildTrieRow.holds Try.pinned (OpenSpec.ofChange fnExactBuildTrieSpec)

/-- ITS FALSE NEIGHBOUR: 'it returns false'. Refute it at one input. -/
def fnExactBuildTrieWrong : ChangeSpec := { name := "fnExactBuildTrie", fn := fun _ => fun
  | [d1, d2] => { results := [.lit (.bool false)], args := [d1, d2] }
  | _ => none }
def FnExactBuildTrieWrongFalsely : Prop := fnExactBuildTrieRow.holds Try.pinned (OpenSpec.ofChange fnExactBuildTrieWrong)

/-- 'laws.FnExactTrieSpans': WHATEVER THE INPUT: true; the input reads as it did. -/
def fnExactTrieSpansSpec : ChangeSpec := { name := "fnExactTrieSpans", fn := fun _ => fun
  | [d] => { results := [.lit (.bool true)], args := [d] }
  | _ => none }
def fnExactTrieSpansRow : OpenClaim := { program := "ytogdmjcdfjnifaa", sum := "2162859fe972fc3ea92d23422656605921535421cb421ed9b36ee84966096839", func := "loop.example/g00044/laws.FnExactTrieSpans", spec := "fnExactTrieSpans", unfollowed := true, recurses := true, plainKeys := false, apart := false }
def FnExactTrieSpansSaid : Prop := fnExactTrieSpansRow.holds Try.pinned (OpenSpec.ofChange fnExactTrieSpansSpec)

/-- ITS FALSE NEIGHBOUR: 'it returns false'. Refute it at one input. -/
def fnExactTrieSpansWrong : ChangeSpec := { name := "fnExactTrieSpans", fn := fun _ => fun
  | [d] => { results := [.lit (.bool false)], args := [d] }
  | _ => none }
def FnExactTrieSpansWrongFalsely : Prop := fnExactTrieSpansRow.holds Try.pinned (OpenSpec.ofChange fnExactTrieSpansWrong)

/-- 'laws.FnExactSpansOf': WHATEVER THE INPUT: true; the input reads as it did. -/
def fnExactSpansOfSpec : ChangeSpec := { name := "fnExactSpansOf", fn := fun _ => fun
  | [d] => { results := [.lit (.bool true)], args := [d] }
  | _ => none }
def fnExactSpansOfRow : OpenClaim := { program := "ytogdmjcdfjnifaa", sum := "2162859fe972fc3ea92d23422656605921535421cb421ed9b36ee84966096839", func := "loop.example/g00044/laws.FnExactSpansOf", spec := "fnExactSpansOf", unfollowed := true, recurses := true, plainKeys := false, apart := false }
def FnExactSpansOfSaid : Prop := fnExactSpansOfRow.holds Try.pinned (OpenSpec.ofChange fnExactSpansOfSpec)

/-- ITS FALSE NEIGHBOUR: 'it returns false'. Refute it at one input. -/
def fnExactSpansOfWrong : ChangeSpec := { name := "fnExactSpansOf", fn := fun _ => fun
  | [d] => { results := [.lit (.bool false)], args := [d] }
  | _ => none }
def FnExactSpansOfWrongFalsely : Prop := fnExactSpansOfRow.holds Try.pinned (OpenSpec.ofChange fnExactSpansOfWrong)

/-- 'laws.FnExactSetHas': WHATEVER THE INPUT: true; the input reads as it did. -/
def fnExactSetHasSpec : ChangeSpec := { name := "fnExactSetHas", fn := fun _ => fun
  | [d1, d2] => { results := [.lit (.bool true)], args := [d1, d2] }
  | _ => none }
def fnExactSetHasRow : OpenClaim := { program := "ytogdmjcdfjnifaa", sum := "2162859fe972fc3ea92d23422656605921535421cb421ed9b36ee84966096839", func := "loop.example/g00044/laws.FnExactSetHas", spec := "fnExactSetHas", unfollowed := true, recurses := true, plainKeys := false, apart := false }
def FnExactSetHasSaid : Prop := fnExactSetHasRow.holds Try.pinned (OpenSpec.ofChange fnExactSetHasSpec)

/-- ITS FALSE NEIGHBOUR: 'it returns false'. Refute it at one input. -/
def fnExactSetHasWrong : ChangeSpec := { name := "fnExactSetHas", fn := fun _ => fun
  | [d1, d2] => { results := [.lit (.bool false)], args := [d1, d2] }
  | _ => none }
def FnExactSetHasWrongFalsely : Prop := fnExactSetHasRow.holds Try.pinned (OpenSpec.ofChange fnExactSetHasWrong)

/-- 'laws.FnExactJoinSets': WHATEVER THE INPUT: true; the input reads as it did. -/
def fnExactJoinSetsSpec : ChangeSpec := { name := "fnExactJoinSets", fn := fun _ => fun
  | [d1, d2] => { results := [.lit (.bool true)], args := [d1, d2] }
  | _ => none }
def fnExactJoinSetsRow : OpenClaim := { program := "ytogdmjcdfjnifaa", sum := "2162859fe972fc3ea92d23422656605921535421cb421ed9b36ee84966096839", func := "loop.example/g00044/laws.FnExactJoinSets", spec := "fnExactJoinSets", unfollowed := true, recurses := true, plainKeys := false, apart := false }
def FnExactJoinSetsSaid : Prop := fnExactJoinSetsRow.holds Try.pinned (OpenSpec.ofChange fnExactJoinSetsSpec)

/-- ITS FALSE NEIGHBOUR: 'it returns false'. Refute it at one input. -/
def fnExactJoinSetsWrong : ChangeSpec := { name := "fnExactJoinSets", fn := fun _ => fun
  | [d1, d2] => { results := [.lit (.bool false)], args := [d1, d2] }
  | _ => none }
def FnExactJoinSetsWrongFalsely : Prop := fnExactJoinSetsRow.holds Try.pinned (OpenSpec.ofChange fnExactJoinSetsWrong)

/-- 'laws.FnExactLessSets': WHATEVER THE INPUT: true; the input reads as it did. -/
def fnExactLessSetsSpec : ChangeSpec := { name := "fnExactLessSets", fn := fun _ => fun
  | [d1, d2] => { results := [.lit (.bool true)], args := [d1, d2] }
  | _ => none }
def fnExactLessSetsRow : OpenClaim := { program := "ytogdmjcdfjnifaa", sum := "2162859fe972fc3ea92d23422656605921535421cb421ed9b36ee84966096839", func := "loop.example/g00044/laws.FnExactLessSets", spec := "fnExactLessSets", unfollowed := true, recurses := true, plainKeys := false, apart := false }
def FnExactLessSetsSaid : Prop := fnExactLessSetsRow.holds Try.pinned (OpenSpec.ofChange fnExactLessSetsSpec)

/-- ITS FALSE NEIGHBOUR: 'it returns false'. Refute it at one input. -/
def fnExactLessSetsWrong : ChangeSpec := { name := "fnExactLessSets", fn := fun _ => fun
  | [d1, d2] => { results := [.lit (.bool false)], args := [d1, d2] }
  | _ => none }
def FnExactLessSetsWrongFalsely : Prop := fnExactLessSetsRow.holds Try.pinned (OpenSpec.ofChange fnExactLessSetsWrong)

/-- 'laws.FnExactMeetSets': WHATEVER THE INPUT: true; the input reads as it did. -/
def fnExactMeetSetsSpec : ChangeSpec := { name := "fnExactMeetSets", fn := fun _ => fun
  | [d1, d2] => { results := [.lit (.bool true)], args := [d1, d2] }
  | _ => none }
def fnExactMeetSetsRow : OpenClaim := { program := "ytogdmjcdfjnifaa", sum := "2162859fe972fc3ea92d23422656605921535421cb421ed9b36ee84966096839", func := "loop.example/g00044/laws.FnExactMeetSets", spec := "fnExactMeetSets", unfollowed := true, recurses := true, plainKeys := false, apart := false }
def FnExactMeetSetsSaid : Prop := fnExactMeetSetsRow.holds Try.pinned (OpenSpec.ofChange fnExactMeetSetsSpec)

/-- ITS FALSE NEIGHBOUR: 'it returns false'. Refute it at one input. -/
def fnExactMeetSetsWrong : ChangeSpec := { name := "fnExactMeetSets", fn := fun _ => fun
  | [d1, d2] => { results := [.lit (.bool false)], args := [d1, d2] }
  | _ => none }
def FnExactMeetSetsWrongFalsely : Prop := fnExactMeetSetsRow.holds Try.pinned (OpenSpec.ofChange fnExactMeetSetsWrong)

/- THE SECOND FORM. 'bulk': how many values and letters a reading holds, each counted each time it is reached (what is shared counts as often as it is met; a slice's spare places count too). A statement '..UptoSaid' is the law's where the arguments, and the package variables that the reading takes, are together of bulk at most 1048576: NARROWER than '..Said'. Prove '..Said' where nothing that the law and all that it calls make is longer than what came in: it says more and counts as full. Else prove '..UptoSaid'. A law counts once. -/
mutual
def uptoBulk {H : Type} : DataW H → Nat
  | .lit (.string bytes) => bytes.length + 1
  | .lit _ => 1
  | .nil => 1
  | .ptr d => uptoBulk d + 1
  | .slice elems spare => uptoBulkAll elems + uptoBulkAll spare + 1
  | .agg parts => uptoBulkAll parts + 1
  | .iface _ d => uptoBulk d + 1
  | .map entries => uptoBulkEntries entries + 1
  | .held _ => 1
def uptoBulkAll {H : Type} : List (DataW H) → Nat
  | [] => 0
  | d :: r => uptoBulk d + uptoBulkAll r
def uptoBulkEntries {H : Type} : List (Lit × DataW H) → Nat
  | [] => 0
  | x :: r => uptoBulkEntry x + uptoBulkEntries r
def uptoBulkEntry {H : Type} : Lit × DataW H → Nat
  | (.string bytes, d) => bytes.length + uptoBulk d + 1
  | (_, d) => uptoBulk d + 1
 end
def uptoSmall : (H : Type) → List (DataW H) → Bool := fun _ ds => decide (uptoBulkAll ds ≤ 1048576)
def OpenSpec.upto (s : _root_.Go.ChangeSpec) : _root_.Go.OpenSpec := { _root_.Go.OpenSpec.ofChange s with cond := some uptoSmall }

/-- 'laws.FnExactTrieFault', WHERE WHAT IT READS IS OF BULK AT MOST 1048576: true; the input reads as it did. -/
def fnExactTrieFaultUptoRow : OpenClaim := { program := "ytogdmjcdfjnifaa", sum := "2162859fe972fc3ea92d23422656605921535421cb421ed9b36ee84966096839", func := "loop.example/g00044/laws.FnExactTrieFault", spec := "fnExactTrieFault", plainKeys := false, apart := false, narrowed := true }
def FnExactTrieFaultUptoSaid : Prop := fnExactTrieFaultUptoRow.holds Try.pinned (OpenSpec.upto fnExactTrieFaultSpec)

/-- 'laws.FnExactTrieAt', WHERE WHAT IT READS IS OF BULK AT MOST 1048576: true; the input reads as it did. -/
def fnExactTrieAtUptoRow : OpenClaim := { program := "ytogdmjcdfjnifaa", sum := "2162859fe972fc3ea92d23422656605921535421cb421ed9b36ee84966096839", func := "loop.example/g00044/laws.FnExactTrieAt", spec := "fnExactTrieAt", plainKeys := false, apart := false, narrowed := true }
def FnExactTrieAtUptoSaid : Prop := fnExactTrieAtUptoRow.holds Try.pinned (OpenSpec.upto fnExactTrieAtSpec)

/-- 'laws.FnExactBuildTrie', WHERE WHAT IT READS IS OF BULK AT MOST 1048576: true; the input reads as it did. -/
def fnExactBuildTrieUptoRow : OpenClaim := { program := "ytogdmjcdfjnifaa", sum := "2162859fe972fc3ea92d23422656605921535421cb421ed9b36ee84966096839", func := "loop.example/g00044/laws.FnExactBuildTrie", spec := "fnExactBuildTrie", plainKeys := false, apart := false, narrowed := true }
def FnExactBuildTrieUptoSaid : Prop := fnExactBuildTrieUptoRow.holds Try.pinned (OpenSpec.upto fnExactBuildTrieSpec)

/-- 'laws.FnExactTrieSpans', WHERE WHAT IT READS IS OF BULK AT MOST 1048576: true; the input reads as it did. -/
def fnExactTrieSpansUptoRow : OpenClaim := { program := "ytogdmjcdfjnifaa", sum := "2162859fe972fc3ea92d23422656605921535421cb421ed9b36ee84966096839", func := "loop.example/g00044/laws.FnExactTrieSpans", spec := "fnExactTrieSpans", unfollowed := true, recurses := true, plainKeys := false, apart := false, narrowed := true }
def FnExactTrieSpansUptoSaid : Prop := fnExactTrieSpansUptoRow.holds Try.pinned (OpenSpec.upto fnExactTrieSpansSpec)

/-- 'laws.FnExactSpansOf', WHERE WHAT IT READS IS OF BULK AT MOST 1048576: true; the input reads as it did. -/
def fnExactSpansOfUptoRow : OpenClaim := { program := "ytogdmjcdfjnifaa", sum := "2162859fe972fc3ea92d23422656605921535421cb421ed9b36ee84966096839", func := "loop.example/g00044/laws.FnExactSpansOf", spec := "fnExactSpansOf", unfollowed := true, recurses := true, plainKeys := false, apart := false, narrowed := true }
def FnExactSpansOfUptoSaid : Prop := fnExactSpansOfUptoRow.holds Try.pinned (OpenSpec.upto fnExactSpansOfSpec)

/-- 'laws.FnExactSetHas', WHERE WHAT IT READS IS OF BULK AT MOST 1048576: true; the input reads as it did. -/
def fnExactSetHasUptoRow : OpenClaim := { program := "ytogdmjcdfjnifaa", sum := "2162859fe972fc3ea92d23422656605921535421cb421ed9b36ee84966096839", func := "loop.example/g00044/laws.FnExactSetHas", spec := "fnExactSetHas", unfollowed := true, recurses := true, plainKeys := false, apart := false, narrowed := true }
def FnExactSetHasUptoSaid : Prop := fnExactSetHasUptoRow.holds Try.pinned (OpenSpec.upto fnExactSetHasSpec)

/-- 'laws.FnExactJoinSets', WHERE WHAT IT READS IS OF BULK AT MOST 1048576: true; the input reads as it did. -/
def fnExactJoinSetsUptoRow : OpenClaim := { program := "ytogdmjcdfjnifaa", sum := "2162859fe972fc3ea92d23422656605921535421cb421ed9b36ee84966096839", func := "loop.example/g00044/laws.FnExactJoinSets", spec := "fnExactJoinSets", unfollowed := true, recurses := true, plainKeys := false, apart := false, narrowed := true }
def FnExactJoinSetsUptoSaid : Prop := fnExactJoinSetsUptoRow.holds Try.pinned (OpenSpec.upto fnExactJoinSetsSpec)

/-- 'laws.FnExactLessSets', WHERE WHAT IT READS IS OF BULK AT MOST 1048576: true; the input reads as it did. -/
def fnExactLessSetsUptoRow : OpenClaim := { program := "ytogdmjcdfjnifaa", sum := "2162859fe972fc3ea92d23422656605921535421cb421ed9b36ee84966096839", func := "loop.example/g00044/laws.FnExactLessSets", spec := "fnExactLessSets", unfollowed := true, recurses := true, plainKeys := false, apart := false, narrowed := true }
def FnExactLessSetsUptoSaid : Prop := fnExactLessSetsUptoRow.holds Try.pinned (OpenSpec.upto fnExactLessSetsSpec)

/-- 'laws.FnExactMeetSets', WHERE WHAT IT READS IS OF BULK AT MOST 1048576: true; the input reads as it did. -/
def fnExactMeetSetsUptoRow : OpenClaim := { program := "ytogdmjcdfjnifaa", sum := "2162859fe972fc3ea92d23422656605921535421cb421ed9b36ee84966096839", func := "loop.example/g00044/laws.FnExactMeetSets", spec := "fnExactMeetSets", unfollowed := true, recurses := true, plainKeys := false, apart := false, narrowed := true }
def FnExactMeetSetsUptoSaid : Prop := fnExactMeetSetsUptoRow.holds Try.pinned (OpenSpec.upto fnExactMeetSetsSpec)

end Rows
end Go.Proofs.Ytogdmjcdfjnifaa

/-
  NARROWER THAN 'FOR EVERY INPUT', by the rows' own cells (each row's printed sentence says how): FnExactMirrorOf: maps, laid · FnExactDigitOf: laid.
  DERIVED. THE GIVEN ROWS OF THIS SEAT. 2 by the template 'for every input the law returns true; each argument reads behind the call as it read before'; 0 by the template 'total and deterministic' (their statements: YtpibhoaegbeonaaDoorTotals.lean).
  GIVEN WITH THE SEED: the statements are not yours to turn. If you find one false, say at which input.
  Laid BY PROGRAM, IN A SANDBOX (cutbox-rows.mjs): the forced cells as the released guide's own fill.sh prints them over the translation b0f55bda843ab834… (all of the seat's roots in one cut). By AI agents, Wed Nov 11 2026. No macro, syntax, notation, axiom, sorry.
-/
import Derived.Test.YtpibhoaegbeonaaDoorChecked
import GoSem.Claim
import GoSem.ClaimJoined
import GoSem.ClaimMapViews
import Derived.JoinedTies
import Derived.KernelRfl
namespace Go.Proofs.YtpibhoaegbeonaaDoor
/- THE CELL 'sum', in the pinned program and in every row, IS THE sha256 OF THE DUMP (.gsa) THAT YtpibhoaegbeonaaDoorProg.lean LOADS. Nothing in Lean hashes anything: it is a label: what it is worth is what the hold of that sum in a sandbox is worth. -/
noncomputable def Tryd.pinned : Pinned := { name := "ytpibhoaegbeonaadoor", sum := "b0f55bda843ab834f04d1be054034313ec91c634605595b9ad7a49203f209102", checked := Tryd.checked }
namespace Rows
def none {H : Type} : Left H := { results := [], args := [] }

/- WHAT THE LISTED PACKAGE-LEVEL VARIABLES READ AS WHEN THE CALL BEGINS. Each datum BY PROGRAM (the guide's laid-datum.mjs) off the statement by which the dump's own 'gosem.cut.vars' lays the variable. In a bare row this is a premise. The card (YtpibhoaegbeonaaDoorCards.lean) ties it to the program's text. -/
def laid_loop_example_g00044_impl_mirrors {H : Type} : DataW H := .map [(.int .i64 40, .lit (.int .i64 41)), (.int .i64 41, .lit (.int .i64 40)), (.int .i64 60, .lit (.int .i64 62)), (.int .i64 62, .lit (.int .i64 60)), (.int .i64 91, .lit (.int .i64 93)), (.int .i64 93, .lit (.int .i64 91)), (.int .i64 123, .lit (.int .i64 125)), (.int .i64 125, .lit (.int .i64 123))]
def laid_loop_example_g00044_impl_digitRows {H : Type} : DataW H := .slice [.lit (.int .i64 48), .lit (.int .i64 592), .lit (.int .i64 848), .lit (.int .i64 1104), .lit (.int .i64 1360), .lit (.int .i64 1616), .lit (.int .i64 10016)] []

/-- 'laws.FnExactMirrorOf': WHATEVER THE INPUT: true; the input reads as it did. -/
def fnExactMirrorOfSpec : ChangeSpec := { name := "fnExactMirrorOf", vars := ["loop.example/g00044/impl.mirrors"], fn := fun _ => fun
  | [d, g1] => { results := [.lit (.bool true)], args := [d], vars := [g1] }
  | _ => none }
def fnExactMirrorOfRow : OpenClaim := { program := "ytpibhoaegbeonaadoor", sum := "b0f55bda843ab834f04d1be054034313ec91c634605595b9ad7a49203f209102", func := "loop.example/g00044/laws.FnExactMirrorOf", spec := "fnExactMirrorOf", named := ["loop.example/g00044/impl.mirrors"], maps := true, apart := false, laid := [("loop.example/g00044/impl.mirrors", laid_loop_example_g00044_impl_mirrors)] }
def FnExactMirrorOfSaid : Prop := fnExactMirrorOfRow.holds Tryd.pinned (OpenSpec.ofChange fnExactMirrorOfSpec)

/-- ITS FALSE NEIGHBOUR: 'it returns false'. Refute it at one input. -/
def fnExactMirrorOfWrong : ChangeSpec := { name := "fnExactMirrorOf", vars := ["loop.example/g00044/impl.mirrors"], fn := fun _ => fun
  | [d, g1] => { results := [.lit (.bool false)], args := [d], vars := [g1] }
  | _ => none }
def FnExactMirrorOfWrongFalsely : Prop := fnExactMirrorOfRow.holds Tryd.pinned (OpenSpec.ofChange fnExactMirrorOfWrong)

/-- 'laws.FnExactDigitOf': WHATEVER THE INPUT: true; the input reads as it did. -/
def fnExactDigitOfSpec : ChangeSpec := { name := "fnExactDigitOf", vars := ["loop.example/g00044/impl.digitRows"], fn := fun _ => fun
  | [d, g1] => { results := [.lit (.bool true)], args := [d], vars := [g1] }
  | _ => none }
def fnExactDigitOfRow : OpenClaim := { program := "ytpibhoaegbeonaadoor", sum := "b0f55bda843ab834f04d1be054034313ec91c634605595b9ad7a49203f209102", func := "loop.example/g00044/laws.FnExactDigitOf", spec := "fnExactDigitOf", named := ["loop.example/g00044/impl.digitRows"], apart := false, laid := [("loop.example/g00044/impl.digitRows", laid_loop_example_g00044_impl_digitRows)] }
def FnExactDigitOfSaid : Prop := fnExactDigitOfRow.holds Tryd.pinned (OpenSpec.ofChange fnExactDigitOfSpec)

/-- ITS FALSE NEIGHBOUR: 'it returns false'. Refute it at one input. -/
def fnExactDigitOfWrong : ChangeSpec := { name := "fnExactDigitOf", vars := ["loop.example/g00044/impl.digitRows"], fn := fun _ => fun
  | [d, g1] => { results := [.lit (.bool false)], args := [d], vars := [g1] }
  | _ => none }
def FnExactDigitOfWrongFalsely : Prop := fnExactDigitOfRow.holds Tryd.pinned (OpenSpec.ofChange fnExactDigitOfWrong)

/- THE SECOND FORM. 'bulk': how many values and letters a reading holds, each counted each time it is reached (what is shared counts as often as it is met; a slice's spare places count too). A statement '..UptoSaid' is the law's where the arguments, and the package variables that the reading takes, are together of bulk at most 1048576: NARROWER than '..Said'. Prove '..Said' where nothing that the law and all that it calls make is longer than what came in: it says more and counts as full. Else prove '..UptoSaid'. A law counts once. -/
mutual
def uptoBulk {H : Type} : DataW H → Nat
  | .lit (.string bytes) => bytes.length + 1
  | .lit _ => 1
  | .nil => 1
  | .ptr d => uptoBulk d + 1
  | .slice elems spare => uptoBulkAll elems + uptoBulkAll spare + 1
  | .agg parts => uptoBulkAll parts + 1
  | .iface _ d => uptoBulk d + 1
  | .map entries => uptoBulkEntries entries + 1
  | .held _ => 1
def uptoBulkAll {H : Type} : List (DataW H) → Nat
  | [] => 0
  | d :: r => uptoBulk d + uptoBulkAll r
def uptoBulkEntries {H : Type} : List (Lit × DataW H) → Nat
  | [] => 0
  | x :: r => uptoBulkEntry x + uptoBulkEntries r
def uptoBulkEntry {H : Type} : Lit × DataW H → Nat
  | (.string bytes, d) => bytes.length + uptoBulk d + 1
  | (_, d) => uptoBulk d + 1
 end
def uptoSmall : (H : Type) → List (DataW H) → Bool := fun _ ds => decide (uptoBulkAll ds ≤ 1048576)
def OpenSpec.upto (s : _root_.Go.ChangeSpec) : _root_.Go.OpenSpec := { _root_.Go.OpenSpec.ofChange s with cond := some uptoSmall }

/-- 'laws.FnExactMirrorOf', WHERE WHAT IT READS IS OF BULK AT MOST 1048576: true; the input reads as it did. -/
def fnExactMirrorOfUptoRow : OpenClaim := { program := "ytpibhoaegbeonaadoor", sum := "b0f55bda843ab834f04d1be054034313ec91c634605595b9ad7a49203f209102", func := "loop.example/g00044/laws.FnExactMirrorOf", spec := "fnExactMirrorOf", named := ["loop.example/g00044/impl.mirrors"], maps := true, apart := false, laid := [("loop.example/g00044/impl.mirrors", laid_loop_example_g00044_impl_mirrors)], narrowed := true }
def FnExactMirrorOfUptoSaid : Prop := fnExactMirrorOfUptoRow.holds Tryd.pinned (OpenSpec.upto fnExactMirrorOfSpec)

/-- 'laws.FnExactDigitOf', WHERE WHAT IT READS IS OF BULK AT MOST 1048576: true; the input reads as it did. -/
def fnExactDigitOfUptoRow : OpenClaim := { program := "ytpibhoaegbeonaadoor", sum := "b0f55bda843ab834f04d1be054034313ec91c634605595b9ad7a49203f209102", func := "loop.example/g00044/laws.FnExactDigitOf", spec := "fnExactDigitOf", named := ["loop.example/g00044/impl.digitRows"], apart := false, laid := [("loop.example/g00044/impl.digitRows", laid_loop_example_g00044_impl_digitRows)], narrowed := true }
def FnExactDigitOfUptoSaid : Prop := fnExactDigitOfUptoRow.holds Tryd.pinned (OpenSpec.upto fnExactDigitOfSpec)

end Rows
end Go.Proofs.YtpibhoaegbeonaaDoor

/-
  NARROWER THAN 'FOR EVERY INPUT', by the rows' own cells (each row's printed sentence says how): FnExactNormalize: laid · FnExactIsNormal: laid · FnExactQuickCheck: laid · FnExactEquivalent: laid · FnExactJoinNormal: laid · FnExactNormerFault: laid · FnExactFeedNormer: laid · FnExactEndNormer: laid · FnExactCollatorFault: laid.
  DERIVED. THE GIVEN ROWS OF THIS SEAT. 9 by the template 'for every input the law returns true; each argument reads behind the call as it read before'; 0 by the template 'total and deterministic' (their statements: YtnbedmihgnjdpaaDoorTotals.lean).
  GIVEN WITH THE SEED: the statements are not yours to turn. If you find one false, say at which input.
  Laid BY PROGRAM, IN A SANDBOX (cutbox-rows.mjs): the forced cells as the released guide's own fill.sh prints them over the translation 3965d63179fa5a7d… (all of the seat's roots in one cut). By AI agents, Wed Nov 11 2026. No macro, syntax, notation, axiom, sorry.
-/
import Derived.Test.YtnbedmihgnjdpaaDoorChecked
import GoSem.PinnedTables
import GoSem.Claim
import GoSem.ClaimJoined
import GoSem.ClaimMapViews
import Derived.JoinedTies
import Derived.KernelRfl
namespace Go.Proofs.YtnbedmihgnjdpaaDoor
/- THE CELL 'sum', in the pinned program and in every row, IS THE sha256 OF THE DUMP (.gsa) THAT YtnbedmihgnjdpaaDoorProg.lean LOADS. Nothing in Lean hashes anything: it is a label: what it is worth is what the hold of that sum in a sandbox is worth. -/
noncomputable def Tryd.pinned : Pinned := { name := "ytnbedmihgnjdpaadoor", sum := "3965d63179fa5a7d4919f446c31c829a47163b3ece49f854d157c0f105b41931", checked := Tryd.checked }
namespace Rows
def none {H : Type} : Left H := { results := [], args := [] }

/- WHAT THE LISTED PACKAGE-LEVEL VARIABLES READ AS WHEN THE CALL BEGINS. Each datum BY PROGRAM (the guide's laid-datum.mjs) off the statement by which the dump's own 'gosem.cut.vars' lays the variable. In a bare row this is a premise. The card (YtnbedmihgnjdpaaDoorCards.lean) ties it to the program's text. -/
def laid_unicode_utf8_acceptRanges {H : Type} : DataW H := .agg [.agg [.lit (.int .u8 128), .lit (.int .u8 191)], .agg [.lit (.int .u8 160), .lit (.int .u8 191)], .agg [.lit (.int .u8 128), .lit (.int .u8 159)], .agg [.lit (.int .u8 144), .lit (.int .u8 191)], .agg [.lit (.int .u8 128), .lit (.int .u8 143)], .agg [.lit (.int .u8 0), .lit (.int .u8 0)], .agg [.lit (.int .u8 0), .lit (.int .u8 0)], .agg [.lit (.int .u8 0), .lit (.int .u8 0)], .agg [.lit (.int .u8 0), .lit (.int .u8 0)], .agg [.lit (.int .u8 0), .lit (.int .u8 0)], .agg [.lit (.int .u8 0), .lit (.int .u8 0)], .agg [.lit (.int .u8 0), .lit (.int .u8 0)], .agg [.lit (.int .u8 0), .lit (.int .u8 0)], .agg [.lit (.int .u8 0), .lit (.int .u8 0)], .agg [.lit (.int .u8 0), .lit (.int .u8 0)], .agg [.lit (.int .u8 0), .lit (.int .u8 0)]]
/-- One of Go's own tables, pinned by name: the form's constant. -/
def laid_unicode_utf8_first : DataW Unit := Go.Pinned.utf8First

/-- 'laws.FnExactNormalize': WHATEVER THE INPUT: true; the input reads as it did. -/
def fnExactNormalizeSpec : ChangeSpec := { name := "fnExactNormalize", fn := fun _ => fun
  | [d1, d2] => { results := [.lit (.bool true)], args := [d1, d2] }
  | _ => none }
def fnExactNormalizeRow : OpenClaim := { program := "ytnbedmihgnjdpaadoor", sum := "3965d63179fa5a7d4919f446c31c829a47163b3ece49f854d157c0f105b41931", func := "loop.example/g00044/laws.FnExactNormalize", spec := "fnExactNormalize", unfollowed := true, recurses := true, named := ["unicode/utf8.first", "unicode/utf8.acceptRanges"], apart := false, laid := [("unicode/utf8.acceptRanges", laid_unicode_utf8_acceptRanges), ("unicode/utf8.first", laid_unicode_utf8_first)] }
def FnExactNormalizeSaid : Prop := fnExactNormalizeRow.holds Tryd.pinned (OpenSpec.ofChange fnExactNormalizeSpec)

/-- ITS FALSE NEIGHBOUR: 'it returns false'. Refute it at one input. -/
def fnExactNormalizeWrong : ChangeSpec := { name := "fnExactNormalize", fn := fun _ => fun
  | [d1, d2] => { results := [.lit (.bool false)], args := [d1, d2] }
  | _ => none }
def FnExactNormalizeWrongFalsely : Prop := fnExactNormalizeRow.holds Tryd.pinned (OpenSpec.ofChange fnExactNormalizeWrong)

/-- 'laws.FnExactIsNormal': WHATEVER THE INPUT: true; the input reads as it did. -/
def fnExactIsNormalSpec : ChangeSpec := { name := "fnExactIsNormal", fn := fun _ => fun
  | [d1, d2] => { results := [.lit (.bool true)], args := [d1, d2] }
  | _ => none }
def fnExactIsNormalRow : OpenClaim := { program := "ytnbedmihgnjdpaadoor", sum := "3965d63179fa5a7d4919f446c31c829a47163b3ece49f854d157c0f105b41931", func := "loop.example/g00044/laws.FnExactIsNormal", spec := "fnExactIsNormal", unfollowed := true, recurses := true, named := ["unicode/utf8.first", "unicode/utf8.acceptRanges"], apart := false, laid := [("unicode/utf8.acceptRanges", laid_unicode_utf8_acceptRanges), ("unicode/utf8.first", laid_unicode_utf8_first)] }
def FnExactIsNormalSaid : Prop := fnExactIsNormalRow.holds Tryd.pinned (OpenSpec.ofChange fnExactIsNormalSpec)

/-- ITS FALSE NEIGHBOUR: 'it returns false'. Refute it at one input. -/
def fnExactIsNormalWrong : ChangeSpec := { name := "fnExactIsNormal", fn := fun _ => fun
  | [d1, d2] => { results := [.lit (.bool false)], args := [d1, d2] }
  | _ => none }
def FnExactIsNormalWrongFalsely : Prop := fnExactIsNormalRow.holds Tryd.pinned (OpenSpec.ofChange fnExactIsNormalWrong)

/-- 'laws.FnExactQuickCheck': WHATEVER THE INPUT: true; the input reads as it did. -/
def fnExactQuickCheckSpec : ChangeSpec := { name := "fnExactQuickCheck", fn := fun _ => fun
  | [d1, d2] => { results := [.lit (.bool true)], args := [d1, d2] }
  | _ => none }
def fnExactQuickCheckRow : OpenClaim := { program := "ytnbedmihgnjdpaadoor", sum := "3965d63179fa5a7d4919f446c31c829a47163b3ece49f854d157c0f105b41931", func := "loop.example/g00044/laws.FnExactQuickCheck", spec := "fnExactQuickCheck", unfollowed := true, recurses := true, named := ["unicode/utf8.first", "unicode/utf8.acceptRanges"], apart := false, laid := [("unicode/utf8.acceptRanges", laid_unicode_utf8_acceptRanges), ("unicode/utf8.first", laid_unicode_utf8_first)] }
def FnExactQuickCheckSaid : Prop := fnExactQuickCheckRow.holds Tryd.pinned (OpenSpec.ofChange fnExactQuickCheckSpec)

/-- ITS FALSE NEIGHBOUR: 'it returns false'. Refute it at one input. -/
def fnExactQuickCheckWrong : ChangeSpec := { name := "fnExactQuickCheck", fn := fun _ => fun
  | [d1, d2] => { results := [.lit (.bool false)], args := [d1, d2] }
  | _ => none }
def FnExactQuickCheckWrongFalsely : Prop := fnExactQuickCheckRow.holds Tryd.pinned (OpenSpec.ofChange fnExactQuickCheckWrong)

/-- 'laws.FnExactEquivalent': WHATEVER THE INPUT: true; the input reads as it did. -/
def fnExactEquivalentSpec : ChangeSpec := { name := "fnExactEquivalent", fn := fun _ => fun
  | [d1, d2] => { results := [.lit (.bool true)], args := [d1, d2] }
  | _ => none }
def fnExactEquivalentRow : OpenClaim := { program := "ytnbedmihgnjdpaadoor", sum := "3965d63179fa5a7d4919f446c31c829a47163b3ece49f854d157c0f105b41931", func := "loop.example/g00044/laws.FnExactEquivalent", spec := "fnExactEquivalent", unfollowed := true, recurses := true, named := ["unicode/utf8.first", "unicode/utf8.acceptRanges"], apart := false, laid := [("unicode/utf8.acceptRanges", laid_unicode_utf8_acceptRanges), ("unicode/utf8.first", laid_unicode_utf8_first)] }
def FnExactEquivalentSaid : Prop := fnExactEquivalentRow.holds Tryd.pinned (OpenSpec.ofChange fnExactEquivalentSpec)

/-- ITS FALSE NEIGHBOUR: 'it returns false'. Refute it at one input. -/
def fnExactEquivalentWrong : ChangeSpec := { name := "fnExactEquivalent", fn := fun _ => fun
  | [d1, d2] => { results := [.lit (.bool false)], args := [d1, d2] }
  | _ => none }
def FnExactEquivalentWrongFalsely : Prop := fnExactEquivalentRow.holds Tryd.pinned (OpenSpec.ofChange fnExactEquivalentWrong)

/-- 'laws.FnExactJoinNormal': WHATEVER THE INPUT: true; the input reads as it did. -/
def fnExactJoinNormalSpec : ChangeSpec := { name := "fnExactJoinNormal", fn := fun _ => fun
  | [d1, d2, d3] => { results := [.lit (.bool true)], args := [d1, d2, d3] }
  | _ => none }
def fnExactJoinNormalRow : OpenClaim := { program := "ytnbedmihgnjdpaadoor", sum := "3965d63179fa5a7d4919f446c31c829a47163b3ece49f854d157c0f105b41931", func := "loop.example/g00044/laws.FnExactJoinNormal", spec := "fnExactJoinNormal", unfollowed := true, recurses := true, named := ["unicode/utf8.first", "unicode/utf8.acceptRanges"], apart := false, laid := [("unicode/utf8.acceptRanges", laid_unicode_utf8_acceptRanges), ("unicode/utf8.first", laid_unicode_utf8_first)] }
def FnExactJoinNormalSaid : Prop := fnExactJoinNormalRow.holds Tryd.pinned (OpenSpec.ofChange fnExactJoinNormalSpec)

/-- ITS FALSE NEIGHBOUR: 'it returns false'. Refute it at one input. -/
def fnExactJoinNormalWrong : ChangeSpec := { name := "fnExactJoinNormal", fn := fun _ => fun
  | [d1, d2, d3] => { results := [.lit (.bool false)], args := [d1, d2, d3] }
  | _ => none }
def FnExactJoinNormalWrongFalsely : Prop := fnExactJoinNormalRow.holds Tryd.pinned (OpenSpec.ofChange fnExactJoinNormalWrong)

/-- 'laws.FnExactNormerFault': WHATEVER THE INPUT: true; the input reads as it did. -/
def fnExactNormerFaultSpec : ChangeSpec := { name := "fnExactNormerFault", fn := fun _ => fun
  | [d] => { results := [.lit (.bool true)], args := [d] }
  | _ => none }
def fnExactNormerFaultRow : OpenClaim := { program := "ytnbedmihgnjdpaadoor", sum := "3965d63179fa5a7d4919f446c31c829a47163b3ece49f854d157c0f105b41931", func := "loop.example/g00044/laws.FnExactNormerFault", spec := "fnExactNormerFault", recurses := true, named := ["unicode/utf8.first", "unicode/utf8.acceptRanges"], apart := false, laid := [("unicode/utf8.acceptRanges", laid_unicode_utf8_acceptRanges), ("unicode/utf8.first", laid_unicode_utf8_first)] }
def FnExactNormerFaultSaid : Prop := fnExactNormerFaultRow.holds Tryd.pinned (OpenSpec.ofChange fnExactNormerFaultSpec)

/-- ITS FALSE NEIGHBOUR: 'it returns false'. Refute it at one input. -/
def fnExactNormerFaultWrong : ChangeSpec := { name := "fnExactNormerFault", fn := fun _ => fun
  | [d] => { results := [.lit (.bool false)], args := [d] }
  | _ => none }
def FnExactNormerFaultWrongFalsely : Prop := fnExactNormerFaultRow.holds Tryd.pinned (OpenSpec.ofChange fnExactNormerFaultWrong)

/-- 'laws.FnExactFeedNormer': WHATEVER THE INPUT: true; the input reads as it did. -/
def fnExactFeedNormerSpec : ChangeSpec := { name := "fnExactFeedNormer", fn := fun _ => fun
  | [d1, d2] => { results := [.lit (.bool true)], args := [d1, d2] }
  | _ => none }
def fnExactFeedNormerRow : OpenClaim := { program := "ytnbedmihgnjdpaadoor", sum := "3965d63179fa5a7d4919f446c31c829a47163b3ece49f854d157c0f105b41931", func := "loop.example/g00044/laws.FnExactFeedNormer", spec := "fnExactFeedNormer", unfollowed := true, recurses := true, named := ["unicode/utf8.first", "unicode/utf8.acceptRanges"], apart := false, laid := [("unicode/utf8.acceptRanges", laid_unicode_utf8_acceptRanges), ("unicode/utf8.first", laid_unicode_utf8_first)] }
def FnExactFeedNormerSaid : Prop := fnExactFeedNormerRow.holds Tryd.pinned (OpenSpec.ofChange fnExactFeedNormerSpec)

/-- ITS FALSE NEIGHBOUR: 'it returns false'. Refute it at one input. -/
def fnExactFeedNormerWrong : ChangeSpec := { name := "fnExactFeedNormer", fn := fun _ => fun
  | [d1, d2] => { results := [.lit (.bool false)], args := [d1, d2] }
  | _ => none }
def FnExactFeedNormerWrongFalsely : Prop := fnExactFeedNormerRow.holds Tryd.pinned (OpenSpec.ofChange fnExactFeedNormerWrong)

/-- 'laws.FnExactEndNormer': WHATEVER THE INPUT: true; the input reads as it did. -/
def fnExactEndNormerSpec : ChangeSpec := { name := "fnExactEndNormer", fn := fun _ => fun
  | [d] => { results := [.lit (.bool true)], args := [d] }
  | _ => none }
def fnExactEndNormerRow : OpenClaim := { program := "ytnbedmihgnjdpaadoor", sum := "3965d63179fa5a7d4919f446c31c829a47163b3ece49f854d157c0f105b41931", func := "loop.example/g00044/laws.FnExactEndNormer", spec := "fnExactEndNormer", unfollowed := true, recurses := true, named := ["unicode/utf8.first", "unicode/utf8.acceptRanges"], apart := false, laid := [("unicode/utf8.acceptRanges", laid_unicode_utf8_acceptRanges), ("unicode/utf8.first", laid_unicode_utf8_first)] }
def FnExactEndNormerSaid : Prop := fnExactEndNormerRow.holds Tryd.pinned (OpenSpec.ofChange fnExactEndNormerSpec)

/-- ITS FALSE NEIGHBOUR: 'it returns false'. Refute it at one input. -/
def fnExactEndNormerWrong : ChangeSpec := { name := "fnExactEndNormer", fn := fun _ => fun
  | [d] => { results := [.lit (.bool false)], args := [d] }
  | _ => none }
def FnExactEndNormerWrongFalsely : Prop := fnExactEndNormerRow.holds Tryd.pinned (OpenSpec.ofChange fnExactEndNormerWrong)

/-- 'laws.FnExactCollatorFault': WHATEVER THE INPUT: true; the input reads as it did. -/
def fnExactCollatorFaultSpec : ChangeSpec := { name := "fnExactCollatorFault", fn := fun _ => fun
  | [d] => { results := [.lit (.bool true)], args := [d] }
  | _ => none }
def fnExactCollatorFaultRow : OpenClaim := { program := "ytnbedmihgnjdpaadoor", sum := "3965d63179fa5a7d4919f446c31c829a47163b3ece49f854d157c0f105b41931", func := "loop.example/g00044/laws.FnExactCollatorFault", spec := "fnExactCollatorFault", unfollowed := true, recurses := true, named := ["unicode/utf8.first", "unicode/utf8.acceptRanges"], apart := false, laid := [("unicode/utf8.acceptRanges", laid_unicode_utf8_acceptRanges), ("unicode/utf8.first", laid_unicode_utf8_first)] }
def FnExactCollatorFaultSaid : Prop := fnExactCollatorFaultRow.holds Tryd.pinned (OpenSpec.ofChange fnExactCollatorFaultSpec)

/-- ITS FALSE NEIGHBOUR: 'it returns false'. Refute it at one input. -/
def fnExactCollatorFaultWrong : ChangeSpec := { name := "fnExactCollatorFault", fn := fun _ => fun
  | [d] => { results := [.lit (.bool false)], args := [d] }
  | _ => none }
def FnExactCollatorFaultWrongFalsely : Prop := fnExactCollatorFaultRow.holds Tryd.pinned (OpenSpec.ofChange fnExactCollatorFaultWrong)

/- THE SECOND FORM. 'bulk': how many values and letters a reading holds, each counted each time it is reached (what is shared counts as often as it is met; a slice's spare places count too). A statement '..UptoSaid' is the law's where the arguments, and the package variables that the reading takes, are together of bulk at most 1048576: NARROWER than '..Said'. Prove '..Said' where nothing that the law and all that it calls make is longer than what came in: it says more and counts as full. Else prove '..UptoSaid'. A law counts once. -/
mutual
def uptoBulk {H : Type} : DataW H → Nat
  | .lit (.string bytes) => bytes.length + 1
  | .lit _ => 1
  | .nil => 1
  | .ptr d => uptoBulk d + 1
  | .slice elems spare => uptoBulkAll elems + uptoBulkAll spare + 1
  | .agg parts => uptoBulkAll parts + 1
  | .iface _ d => uptoBulk d + 1
  | .map entries => uptoBulkEntries entries + 1
  | .held _ => 1
def uptoBulkAll {H : Type} : List (DataW H) → Nat
  | [] => 0
  | d :: r => uptoBulk d + uptoBulkAll r
def uptoBulkEntries {H : Type} : List (Lit × DataW H) → Nat
  | [] => 0
  | x :: r => uptoBulkEntry x + uptoBulkEntries r
def uptoBulkEntry {H : Type} : Lit × DataW H → Nat
  | (.string bytes, d) => bytes.length + uptoBulk d + 1
  | (_, d) => uptoBulk d + 1
 end
def uptoSmall : (H : Type) → List (DataW H) → Bool := fun _ ds => decide (uptoBulkAll ds ≤ 1048576)
def OpenSpec.upto (s : _root_.Go.ChangeSpec) : _root_.Go.OpenSpec := { _root_.Go.OpenSpec.ofChange s with cond := some uptoSmall }

/-- 'laws.FnExactNormalize', WHERE WHAT IT READS IS OF BULK AT MOST 1048576: true; the input reads as it did. -/
def fnExactNormalizeUptoRow : OpenClaim := { program := "ytnbedmihgnjdpaadoor", sum := "3965d63179fa5a7d4919f446c31c829a47163b3ece49f854d157c0f105b41931", func := "loop.example/g00044/laws.FnExactNormalize", spec := "fnExactNormalize", unfollowed := true, recurses := true, named := ["unicode/utf8.first", "unicode/utf8.acceptRanges"], apart := false, laid := [("unicode/utf8.acceptRanges", laid_unicode_utf8_acceptRanges), ("unicode/utf8.first", laid_unicode_utf8_first)], narrowed := true }
def FnExactNormalizeUptoSaid : Prop := fnExactNormalizeUptoRow.holds Tryd.pinned (OpenSpec.upto fnExactNormalizeSpec)

/-- 'laws.FnExactIsNormal', WHERE WHAT IT READS IS OF BULK AT MOST 1048576: true; the input reads as it did. -/
def fnExactIsNormalUptoRow : OpenClaim := { program := "ytnbedmihgnjdpaadoor", sum := "3965d63179fa5a7d4919f446c31c829a47163b3ece49f854d157c0f105b41931", func := "loop.example/g00044/laws.FnExactIsNormal", spec := "fnExactIsNormal", unfollowed := true, recurses := true, named := ["unicode/utf8.first", "unicode/utf8.acceptRanges"], apart := false, laid := [("unicode/utf8.acceptRanges", laid_unicode_utf8_acceptRanges), ("unicode/utf8.first", laid_unicode_utf8_first)], narrowed := true }
def FnExactIsNormalUptoSaid : Prop := fnExactIsNormalUptoRow.holds Tryd.pinned (OpenSpec.upto fnExactIsNormalSpec)

/-- 'laws.FnExactQuickCheck', WHERE WHAT IT READS IS OF BULK AT MOST 1048576: true; the input reads as it did. -/
def fnExactQuickCheckUptoRow : OpenClaim := { program := "ytnbedmihgnjdpaadoor", sum := "3965d63179fa5a7d4919f446c31c829a47163b3ece49f854d157c0f105b41931", func := "loop.example/g00044/laws.FnExactQuickCheck", spec := "fnExactQuickCheck", unfollowed := true, recurses := true, named := ["unicode/utf8.first", "unicode/utf8.acceptRanges"], apart := false, laid := [("unicode/utf8.acceptRanges", laid_unicode_utf8_acceptRanges), ("unicode/utf8.first", laid_unicode_utf8_first)], narrowed := true }
def FnExactQuickCheckUptoSaid : Prop := fnExactQuickCheckUptoRow.holds Tryd.pinned (OpenSpec.upto fnExactQuickCheckSpec)

/-- 'laws.FnExactEquivalent', WHERE WHAT IT READS IS OF BULK AT MOST 1048576: true; the input reads as it did. -/
def fnExactEquivalentUptoRow : OpenClaim := { program := "ytnbedmihgnjdpaadoor", sum := "3965d63179fa5a7d4919f446c31c829a47163b3ece49f854d157c0f105b41931", func := "loop.example/g00044/laws.FnExactEquivalent", spec := "fnExactEquivalent", unfollowed := true, recurses := true, named := ["unicode/utf8.first", "unicode/utf8.acceptRanges"], apart := false, laid := [("unicode/utf8.acceptRanges", laid_unicode_utf8_acceptRanges), ("unicode/utf8.first", laid_unicode_utf8_first)], narrowed := true }
def FnExactEquivalentUptoSaid : Prop := fnExactEquivalentUptoRow.holds Tryd.pinned (OpenSpec.upto fnExactEquivalentSpec)

/-- 'laws.FnExactJoinNormal', WHERE WHAT IT READS IS OF BULK AT MOST 1048576: true; the input reads as it did. -/
def fnExactJoinNormalUptoRow : OpenClaim := { program := "ytnbedmihgnjdpaadoor", sum := "3965d63179fa5a7d4919f446c31c829a47163b3ece49f854d157c0f105b41931", func := "loop.example/g00044/laws.FnExactJoinNormal", spec := "fnExactJoinNormal", unfollowed := true, recurses := true, named := ["unicode/utf8.first", "unicode/utf8.acceptRanges"], apart := false, laid := [("unicode/utf8.acceptRanges", laid_unicode_utf8_acceptRanges), ("unicode/utf8.first", laid_unicode_utf8_first)], narrowed := true }
def FnExactJoinNormalUptoSaid : Prop := fnExactJoinNormalUptoRow.holds Tryd.pinned (OpenSpec.upto fnExactJoinNormalSpec)

/-- 'laws.FnExactNormerFault', WHERE WHAT IT READS IS OF BULK AT MOST 1048576: true; the input reads as it did. -/
def fnExactNormerFaultUptoRow : OpenClaim := { program := "ytnbedmihgnjdpaadoor", sum := "3965d63179fa5a7d4919f446c31c829a47163b3ece49f854d157c0f105b41931", func := "loop.example/g00044/laws.FnExactNormerFault", spec := "fnExactNormerFault", recurses := true, named := ["unicode/utf8.first", "unicode/utf8.acceptRanges"], apart := false, laid := [("unicode/utf8.acceptRanges", laid_unicode_utf8_acceptRanges), ("unicode/utf8.first", laid_unicode_utf8_first)], narrowed := true }
def FnExactNormerFaultUptoSaid : Prop := fnExactNormerFaultUptoRow.holds Tryd.pinned (OpenSpec.upto fnExactNormerFaultSpec)

/-- 'laws.FnExactFeedNormer', WHERE WHAT IT READS IS OF BULK AT MOST 1048576: true; the input reads as it did. -/
def fnExactFeedNormerUptoRow : OpenClaim := { program := "ytnbedmihgnjdpaadoor", sum := "3965d63179fa5a7d4919f446c31c829a47163b3ece49f854d157c0f105b41931", func := "loop.example/g00044/laws.FnExactFeedNormer", spec := "fnExactFeedNormer", unfollowed := true, recurses := true, named := ["unicode/utf8.first", "unicode/utf8.acceptRanges"], apart := false, laid := [("unicode/utf8.acceptRanges", laid_unicode_utf8_acceptRanges), ("unicode/utf8.first", laid_unicode_utf8_first)], narrowed := true }
def FnExactFeedNormerUptoSaid : Prop := fnExactFeedNormerUptoRow.holds Tryd.pinned (OpenSpec.upto fnExactFeedNormerSpec)

/-- 'laws.FnExactEndNormer', WHERE WHAT IT READS IS OF BULK AT MOST 1048576: true; the input reads as it did. -/
def fnExactEndNormerUptoRow : OpenClaim := { program := "ytnbedmihgnjdpaadoor", sum := "3965d63179fa5a7d4919f446c31c829a47163b3ece49f854d157c0f105b41931", func := "loop.example/g00044/laws.FnExactEndNormer", spec := "fnExactEndNormer", unfollowed := true, recurses := true, named := ["unicode/utf8.first", "unicode/utf8.acceptRanges"], apart := false, laid := [("unicode/utf8.acceptRanges", laid_unicode_utf8_acceptRanges), ("unicode/utf8.first", laid_unicode_utf8_first)], narrowed := true }
def FnExactEndNormerUptoSaid : Prop := fnExactEndNormerUptoRow.holds Tryd.pinned (OpenSpec.upto fnExactEndNormerSpec)

/-- 'laws.FnExactCollatorFault', WHERE WHAT IT READS IS OF BULK AT MOST 1048576: true; the input reads as it did. -/
def fnExactCollatorFaultUptoRow : OpenClaim := { program := "ytnbedmihgnjdpaadoor", sum := "3965d63179fa5a7d4919f446c31c829a47163b3ece49f854d157c0f105b41931", func := "loop.example/g00044/laws.FnExactCollatorFault", spec := "fnExactCollatorFault", unfollowed := true, recurses := true, named := ["unicode/utf8.first", "unicode/utf8.acceptRanges"], apart := false, laid := [("unicode/utf8.acceptRanges", laid_unicode_utf8_acceptRanges), ("unicode/utf8.first", laid_unicode_utf8_first)], narrowed := true }
def FnExactCollatorFaultUptoSaid : Prop := fnExactCollatorFaultUptoRow.holds Tryd.pinned (OpenSpec.upto fnExactCollatorFaultSpec)

end Rows
end Go.Proofs.YtnbedmihgnjdpaaDoor

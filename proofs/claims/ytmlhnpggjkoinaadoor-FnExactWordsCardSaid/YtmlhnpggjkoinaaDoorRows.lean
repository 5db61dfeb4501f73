/-
  NARROWER THAN 'FOR EVERY INPUT', by the rows' own cells (each row's printed sentence says how): FnExactCharCuts: laid · FnExactChars: laid · FnExactNextChar: laid · FnExactLastChar: laid · FnExactWordCuts: laid · FnExactWords: laid · FnExactGlyphsOf: laid · FnExactFormsOf: laid · FnExactWordsFault: laid · FnExactFewestWords: laid.
  DERIVED. THE GIVEN ROWS OF THIS SEAT. 10 by the template 'for every input the law returns true; each argument reads behind the call as it read before'; 0 by the template 'total and deterministic' (their statements: YtmlhnpggjkoinaaDoorTotals.lean).
  GIVEN WITH THE SEED: the statements are not yours to turn. If you find one false, say at which input.
  Laid BY PROGRAM, IN A SANDBOX (cutbox-rows.mjs): the forced cells as the released guide's own fill.sh prints them over the translation 65bcc4607677ed60… (all of the seat's roots in one cut). By AI agents, Wed Nov 11 2026. No macro, syntax, notation, axiom, sorry.
-/
import Derived.Test.YtmlhnpggjkoinaaDoorChecked
import GoSem.PinnedTables
import GoSem.Claim
import GoSem.ClaimJoined
import GoSem.ClaimMapViews
import Derived.JoinedTies
import Derived.KernelRfl
namespace Go.Proofs.YtmlhnpggjkoinaaDoor
/- THE CELL 'sum', in the pinned program and in every row, IS THE sha256 OF THE DUMP (.gsa) THAT YtmlhnpggjkoinaaDoorProg.lean LOADS. Nothing in Lean hashes anything: it is a label: what it is worth is what the hold of that sum in a sandbox is worth. -/
noncomputable def Tryd.pinned : Pinned := { name := "ytmlhnpggjkoinaadoor", sum := "65bcc4607677ed60d7f95c5c3021b7eeba88e37424ab69649618d3797c4ebade", checked := Tryd.checked }
namespace Rows
def none {H : Type} : Left H := { results := [], args := [] }

/- WHAT THE LISTED PACKAGE-LEVEL VARIABLES READ AS WHEN THE CALL BEGINS. Each datum BY PROGRAM (the guide's laid-datum.mjs) off the statement by which the dump's own 'gosem.cut.vars' lays the variable. In a bare row this is a premise. The card (YtmlhnpggjkoinaaDoorCards.lean) ties it to the program's text. -/
def laid_unicode_utf8_acceptRanges {H : Type} : DataW H := .agg [.agg [.lit (.int .u8 128), .lit (.int .u8 191)], .agg [.lit (.int .u8 160), .lit (.int .u8 191)], .agg [.lit (.int .u8 128), .lit (.int .u8 159)], .agg [.lit (.int .u8 144), .lit (.int .u8 191)], .agg [.lit (.int .u8 128), .lit (.int .u8 143)], .agg [.lit (.int .u8 0), .lit (.int .u8 0)], .agg [.lit (.int .u8 0), .lit (.int .u8 0)], .agg [.lit (.int .u8 0), .lit (.int .u8 0)], .agg [.lit (.int .u8 0), .lit (.int .u8 0)], .agg [.lit (.int .u8 0), .lit (.int .u8 0)], .agg [.lit (.int .u8 0), .lit (.int .u8 0)], .agg [.lit (.int .u8 0), .lit (.int .u8 0)], .agg [.lit (.int .u8 0), .lit (.int .u8 0)], .agg [.lit (.int .u8 0), .lit (.int .u8 0)], .agg [.lit (.int .u8 0), .lit (.int .u8 0)], .agg [.lit (.int .u8 0), .lit (.int .u8 0)]]
/-- One of Go's own tables, pinned by name: the form's constant. -/
def laid_unicode_utf8_first : DataW Unit := Go.Pinned.utf8First

/-- 'laws.FnExactCharCuts': WHATEVER THE INPUT: true; the input reads as it did. -/
def fnExactCharCutsSpec : ChangeSpec := { name := "fnExactCharCuts", fn := fun _ => fun
  | [d] => { results := [.lit (.bool true)], args := [d] }
  | _ => none }
def fnExactCharCutsRow : OpenClaim := { program := "ytmlhnpggjkoinaadoor", sum := "65bcc4607677ed60d7f95c5c3021b7eeba88e37424ab69649618d3797c4ebade", func := "loop.example/g00044/laws.FnExactCharCuts", spec := "fnExactCharCuts", unfollowed := true, recurses := true, named := ["unicode/utf8.first", "unicode/utf8.acceptRanges"], apart := false, laid := [("unicode/utf8.acceptRanges", laid_unicode_utf8_acceptRanges), ("unicode/utf8.first", laid_unicode_utf8_first)] }
def FnExactCharCutsSaid : Prop := fnExactCharCutsRow.holds Tryd.pinned (OpenSpec.ofChange fnExactCharCutsSpec)

/-- ITS FALSE NEIGHBOUR: 'it returns false'. Refute it at one input. -/
def fnExactCharCutsWrong : ChangeSpec := { name := "fnExactCharCuts", fn := fun _ => fun
  | [d] => { results := [.lit (.bool false)], args := [d] }
  | _ => none }
def FnExactCharCutsWrongFalsely : Prop := fnExactCharCutsRow.holds Tryd.pinned (OpenSpec.ofChange fnExactCharCutsWrong)

/-- 'laws.FnExactChars': WHATEVER THE INPUT: true; the input reads as it did. -/
def fnExactCharsSpec : ChangeSpec := { name := "fnExactChars", fn := fun _ => fun
  | [d] => { results := [.lit (.bool true)], args := [d] }
  | _ => none }
def fnExactCharsRow : OpenClaim := { program := "ytmlhnpggjkoinaadoor", sum := "65bcc4607677ed60d7f95c5c3021b7eeba88e37424ab69649618d3797c4ebade", func := "loop.example/g00044/laws.FnExactChars", spec := "fnExactChars", unfollowed := true, recurses := true, named := ["unicode/utf8.first", "unicode/utf8.acceptRanges"], apart := false, laid := [("unicode/utf8.acceptRanges", laid_unicode_utf8_acceptRanges), ("unicode/utf8.first", laid_unicode_utf8_first)] }
def FnExactCharsSaid : Prop := fnExactCharsRow.holds Tryd.pinned (OpenSpec.ofChange fnExactCharsSpec)

/-- ITS FALSE NEIGHBOUR: 'it returns false'. Refute it at one input. -/
def fnExactCharsWrong : ChangeSpec := { name := "fnExactChars", fn := fun _ => fun
  | [d] => { results := [.lit (.bool false)], args := [d] }
  | _ => none }
def FnExactCharsWrongFalsely : Prop := fnExactCharsRow.holds Tryd.pinned (OpenSpec.ofChange fnExactCharsWrong)

/-- 'laws.FnExactNextChar': WHATEVER THE INPUT: true; the input reads as it did. -/
def fnExactNextCharSpec : ChangeSpec := { name := "fnExactNextChar", fn := fun _ => fun
  | [d1, d2] => { results := [.lit (.bool true)], args := [d1, d2] }
  | _ => none }
def fnExactNextCharRow : OpenClaim := { program := "ytmlhnpggjkoinaadoor", sum := "65bcc4607677ed60d7f95c5c3021b7eeba88e37424ab69649618d3797c4ebade", func := "loop.example/g00044/laws.FnExactNextChar", spec := "fnExactNextChar", unfollowed := true, recurses := true, named := ["unicode/utf8.first", "unicode/utf8.acceptRanges"], apart := false, laid := [("unicode/utf8.acceptRanges", laid_unicode_utf8_acceptRanges), ("unicode/utf8.first", laid_unicode_utf8_first)] }
def FnExactNextCharSaid : Prop := fnExactNextCharRow.holds Tryd.pinned (OpenSpec.ofChange fnExactNextCharSpec)

/-- ITS FALSE NEIGHBOUR: 'it returns false'. Refute it at one input. -/
def fnExactNextCharWrong : ChangeSpec := { name := "fnExactNextChar", fn := fun _ => fun
  | [d1, d2] => { results := [.lit (.bool false)], args := [d1, d2] }
  | _ => none }
def FnExactNextCharWrongFalsely : Prop := fnExactNextCharRow.holds Tryd.pinned (OpenSpec.ofChange fnExactNextCharWrong)

/-- 'laws.FnExactLastChar': WHATEVER THE INPUT: true; the input reads as it did. -/
def fnExactLastCharSpec : ChangeSpec := { name := "fnExactLastChar", fn := fun _ => fun
  | [d1, d2] => { results := [.lit (.bool true)], args := [d1, d2] }
  | _ => none }
def fnExactLastCharRow : OpenClaim := { program := "ytmlhnpggjkoinaadoor", sum := "65bcc4607677ed60d7f95c5c3021b7eeba88e37424ab69649618d3797c4ebade", func := "loop.example/g00044/laws.FnExactLastChar", spec := "fnExactLastChar", unfollowed := true, recurses := true, named := ["unicode/utf8.first", "unicode/utf8.acceptRanges"], apart := false, laid := [("unicode/utf8.acceptRanges", laid_unicode_utf8_acceptRanges), ("unicode/utf8.first", laid_unicode_utf8_first)] }
def FnExactLastCharSaid : Prop := fnExactLastCharRow.holds Tryd.pinned (OpenSpec.ofChange fnExactLastCharSpec)

/-- ITS FALSE NEIGHBOUR: 'it returns false'. Refute it at one input. -/
def fnExactLastCharWrong : ChangeSpec := { name := "fnExactLastChar", fn := fun _ => fun
  | [d1, d2] => { results := [.lit (.bool false)], args := [d1, d2] }
  | _ => none }
def FnExactLastCharWrongFalsely : Prop := fnExactLastCharRow.holds Tryd.pinned (OpenSpec.ofChange fnExactLastCharWrong)

/-- 'laws.FnExactWordCuts': WHATEVER THE INPUT: true; the input reads as it did. -/
def fnExactWordCutsSpec : ChangeSpec := { name := "fnExactWordCuts", fn := fun _ => fun
  | [d1, d2] => { results := [.lit (.bool true)], args := [d1, d2] }
  | _ => none }
def fnExactWordCutsRow : OpenClaim := { program := "ytmlhnpggjkoinaadoor", sum := "65bcc4607677ed60d7f95c5c3021b7eeba88e37424ab69649618d3797c4ebade", func := "loop.example/g00044/laws.FnExactWordCuts", spec := "fnExactWordCuts", unfollowed := true, recurses := true, named := ["unicode/utf8.first", "unicode/utf8.acceptRanges"], apart := false, laid := [("unicode/utf8.acceptRanges", laid_unicode_utf8_acceptRanges), ("unicode/utf8.first", laid_unicode_utf8_first)] }
def FnExactWordCutsSaid : Prop := fnExactWordCutsRow.holds Tryd.pinned (OpenSpec.ofChange fnExactWordCutsSpec)

/-- ITS FALSE NEIGHBOUR: 'it returns false'. Refute it at one input. -/
def fnExactWordCutsWrong : ChangeSpec := { name := "fnExactWordCuts", fn := fun _ => fun
  | [d1, d2] => { results := [.lit (.bool false)], args := [d1, d2] }
  | _ => none }
def FnExactWordCutsWrongFalsely : Prop := fnExactWordCutsRow.holds Tryd.pinned (OpenSpec.ofChange fnExactWordCutsWrong)

/-- 'laws.FnExactWords': WHATEVER THE INPUT: true; the input reads as it did. -/
def fnExactWordsSpec : ChangeSpec := { name := "fnExactWords", fn := fun _ => fun
  | [d1, d2] => { results := [.lit (.bool true)], args := [d1, d2] }
  | _ => none }
def fnExactWordsRow : OpenClaim := { program := "ytmlhnpggjkoinaadoor", sum := "65bcc4607677ed60d7f95c5c3021b7eeba88e37424ab69649618d3797c4ebade", func := "loop.example/g00044/laws.FnExactWords", spec := "fnExactWords", unfollowed := true, recurses := true, named := ["unicode/utf8.first", "unicode/utf8.acceptRanges"], apart := false, laid := [("unicode/utf8.acceptRanges", laid_unicode_utf8_acceptRanges), ("unicode/utf8.first", laid_unicode_utf8_first)] }
def FnExactWordsSaid : Prop := fnExactWordsRow.holds Tryd.pinned (OpenSpec.ofChange fnExactWordsSpec)

/-- ITS FALSE NEIGHBOUR: 'it returns false'. Refute it at one input. -/
def fnExactWordsWrong : ChangeSpec := { name := "fnExactWords", fn := fun _ => fun
  | [d1, d2] => { results := [.lit (.bool false)], args := [d1, d2] }
  | _ => none }
def FnExactWordsWrongFalsely : Prop := fnExactWordsRow.holds Tryd.pinned (OpenSpec.ofChange fnExactWordsWrong)

/-- 'laws.FnExactGlyphsOf': WHATEVER THE INPUT: true; the input reads as it did. -/
def fnExactGlyphsOfSpec : ChangeSpec := { name := "fnExactGlyphsOf", fn := fun _ => fun
  | [d] => { results := [.lit (.bool true)], args := [d] }
  | _ => none }
def fnExactGlyphsOfRow : OpenClaim := { program := "ytmlhnpggjkoinaadoor", sum := "65bcc4607677ed60d7f95c5c3021b7eeba88e37424ab69649618d3797c4ebade", func := "loop.example/g00044/laws.FnExactGlyphsOf", spec := "fnExactGlyphsOf", unfollowed := true, recurses := true, named := ["unicode/utf8.first", "unicode/utf8.acceptRanges"], apart := false, laid := [("unicode/utf8.acceptRanges", laid_unicode_utf8_acceptRanges), ("unicode/utf8.first", laid_unicode_utf8_first)] }
def FnExactGlyphsOfSaid : Prop := fnExactGlyphsOfRow.holds Tryd.pinned (OpenSpec.ofChange fnExactGlyphsOfSpec)

/-- ITS FALSE NEIGHBOUR: 'it returns false'. Refute it at one input. -/
def fnExactGlyphsOfWrong : ChangeSpec := { name := "fnExactGlyphsOf", fn := fun _ => fun
  | [d] => { results := [.lit (.bool false)], args := [d] }
  | _ => none }
def FnExactGlyphsOfWrongFalsely : Prop := fnExactGlyphsOfRow.holds Tryd.pinned (OpenSpec.ofChange fnExactGlyphsOfWrong)

/-- 'laws.FnExactFormsOf': WHATEVER THE INPUT: true; the input reads as it did. -/
def fnExactFormsOfSpec : ChangeSpec := { name := "fnExactFormsOf", fn := fun _ => fun
  | [d] => { results := [.lit (.bool true)], args := [d] }
  | _ => none }
def fnExactFormsOfRow : OpenClaim := { program := "ytmlhnpggjkoinaadoor", sum := "65bcc4607677ed60d7f95c5c3021b7eeba88e37424ab69649618d3797c4ebade", func := "loop.example/g00044/laws.FnExactFormsOf", spec := "fnExactFormsOf", unfollowed := true, recurses := true, named := ["unicode/utf8.first", "unicode/utf8.acceptRanges"], apart := false, laid := [("unicode/utf8.acceptRanges", laid_unicode_utf8_acceptRanges), ("unicode/utf8.first", laid_unicode_utf8_first)] }
def FnExactFormsOfSaid : Prop := fnExactFormsOfRow.holds Tryd.pinned (OpenSpec.ofChange fnExactFormsOfSpec)

/-- ITS FALSE NEIGHBOUR: 'it returns false'. Refute it at one input. -/
def fnExactFormsOfWrong : ChangeSpec := { name := "fnExactFormsOf", fn := fun _ => fun
  | [d] => { results := [.lit (.bool false)], args := [d] }
  | _ => none }
def FnExactFormsOfWrongFalsely : Prop := fnExactFormsOfRow.holds Tryd.pinned (OpenSpec.ofChange fnExactFormsOfWrong)

/-- 'laws.FnExactWordsFault': WHATEVER THE INPUT: true; the input reads as it did. -/
def fnExactWordsFaultSpec : ChangeSpec := { name := "fnExactWordsFault", fn := fun _ => fun
  | [d] => { results := [.lit (.bool true)], args := [d] }
  | _ => none }
def fnExactWordsFaultRow : OpenClaim := { program := "ytmlhnpggjkoinaadoor", sum := "65bcc4607677ed60d7f95c5c3021b7eeba88e37424ab69649618d3797c4ebade", func := "loop.example/g00044/laws.FnExactWordsFault", spec := "fnExactWordsFault", named := ["unicode/utf8.first", "unicode/utf8.acceptRanges"], apart := false, laid := [("unicode/utf8.acceptRanges", laid_unicode_utf8_acceptRanges), ("unicode/utf8.first", laid_unicode_utf8_first)] }
def FnExactWordsFaultSaid : Prop := fnExactWordsFaultRow.holds Tryd.pinned (OpenSpec.ofChange fnExactWordsFaultSpec)

/-- ITS FALSE NEIGHBOUR: 'it returns false'. Refute it at one input. -/
def fnExactWordsFaultWrong : ChangeSpec := { name := "fnExactWordsFault", fn := fun _ => fun
  | [d] => { results := [.lit (.bool false)], args := [d] }
  | _ => none }
def FnExactWordsFaultWrongFalsely : Prop := fnExactWordsFaultRow.holds Tryd.pinned (OpenSpec.ofChange fnExactWordsFaultWrong)

/-- 'laws.FnExactFewestWords': WHATEVER THE INPUT: true; the input reads as it did. -/
def fnExactFewestWordsSpec : ChangeSpec := { name := "fnExactFewestWords", fn := fun _ => fun
  | [d1, d2] => { results := [.lit (.bool true)], args := [d1, d2] }
  | _ => none }
def fnExactFewestWordsRow : OpenClaim := { program := "ytmlhnpggjkoinaadoor", sum := "65bcc4607677ed60d7f95c5c3021b7eeba88e37424ab69649618d3797c4ebade", func := "loop.example/g00044/laws.FnExactFewestWords", spec := "fnExactFewestWords", named := ["unicode/utf8.first", "unicode/utf8.acceptRanges"], apart := false, laid := [("unicode/utf8.acceptRanges", laid_unicode_utf8_acceptRanges), ("unicode/utf8.first", laid_unicode_utf8_first)] }
def FnExactFewestWordsSaid : Prop := fnExactFewestWordsRow.holds Tryd.pinned (OpenSpec.ofChange fnExactFewestWordsSpec)

/-- ITS FALSE NEIGHBOUR: 'it returns false'. Refute it at one input. -/
def fnExactFewestWordsWrong : ChangeSpec := { name := "fnExactFewestWords", fn := fun _ => fun
  | [d1, d2] => { results := [.lit (.bool false)], args := [d1, d2] }
  | _ => none }
def FnExactFewestWordsWrongFalsely : Prop := fnExactFewestWordsRow.holds Tryd.pinned (OpenSpec.ofChange fnExactFewestWordsWrong)

/- THE SECOND FORM. 'bulk': how many values and letters a reading holds, each counted each time it is reached (what is shared counts as often as it is met; a slice's spare places count too). A statement '..UptoSaid' is the law's where the arguments, and the package variables that the reading takes, are together of bulk at most 1048576: NARROWER than '..Said'. Prove '..Said' where nothing that the law and all that it calls make is longer than what came in: it says more and counts as full. Else prove '..UptoSaid'. A law counts once. -/
mutual
def uptoBulk {H : Type} : DataW H → Nat
  | .lit (.string bytes) => bytes.length + 1
  | .lit _ => 1
  | .nil => 1
  | .ptr d => uptoBulk d + 1
  | .slice elems spare => uptoBulkAll elems + uptoBulkAll spare + 1
  | .agg parts => uptoBulkAll parts + 1
  | .iface _ d => uptoBulk d + 1
  | .map entries => uptoBulkEntries entries + 1
  | .held _ => 1
def uptoBulkAll {H : Type} : List (DataW H) → Nat
  | [] => 0
  | d :: r => uptoBulk d + uptoBulkAll r
def uptoBulkEntries {H : Type} : List (Lit × DataW H) → Nat
  | [] => 0
  | x :: r => uptoBulkEntry x + uptoBulkEntries r
def uptoBulkEntry {H : Type} : Lit × DataW H → Nat
  | (.string bytes, d) => bytes.length + uptoBulk d + 1
  | (_, d) => uptoBulk d + 1
 end
def uptoSmall : (H : Type) → List (DataW H) → Bool := fun _ ds => decide (uptoBulkAll ds ≤ 1048576)
def OpenSpec.upto (s : _root_.Go.ChangeSpec) : _root_.Go.OpenSpec := { _root_.Go.OpenSpec.ofChange s with cond := some uptoSmall }

/-- 'laws.FnExactCharCuts', WHERE WHAT IT READS IS OF BULK AT MOST 1048576: true; the input reads as it did. -/
def fnExactCharCutsUptoRow : OpenClaim := { program := "ytmlhnpggjkoinaadoor", sum := "65bcc4607677ed60d7f95c5c3021b7eeba88e37424ab69649618d3797c4ebade", func := "loop.example/g00044/laws.FnExactCharCuts", spec := "fnExactCharCuts", unfollowed := true, recurses := true, named := ["unicode/utf8.first", "unicode/utf8.acceptRanges"], apart := false, laid := [("unicode/utf8.acceptRanges", laid_unicode_utf8_acceptRanges), ("unicode/utf8.first", laid_unicode_utf8_first)], narrowed := true }
def FnExactCharCutsUptoSaid : Prop := fnExactCharCutsUptoRow.holds Tryd.pinned (OpenSpec.upto fnExactCharCutsSpec)

/-- 'laws.FnExactChars', WHERE WHAT IT READS IS OF BULK AT MOST 1048576: true; the input reads as it did. -/
def fnExactCharsUptoRow : OpenClaim := { program := "ytmlhnpggjkoinaadoor", sum := "65bcc4607677ed60d7f95c5c3021b7eeba88e37424ab69649618d3797c4ebade", func := "loop.example/g00044/laws.FnExactChars", spec := "fnExactChars", unfollowed := true, recurses := true, named := ["unicode/utf8.first", "unicode/utf8.acceptRanges"], apart := false, laid := [("unicode/utf8.acceptRanges", laid_unicode_utf8_acceptRanges), ("unicode/utf8.first", laid_unicode_utf8_first)], narrowed := true }
def FnExactCharsUptoSaid : Prop := fnExactCharsUptoRow.holds Tryd.pinned (OpenSpec.upto fnExactCharsSpec)

/-- 'laws.FnExactNextChar', WHERE WHAT IT READS IS OF BULK AT MOST 1048576: true; the input reads as it did. -/
def fnExactNextCharUptoRow : OpenClaim := { program := "ytmlhnpggjkoinaadoor", sum := "65bcc4607677ed60d7f95c5c3021b7eeba88e37424ab69649618d3797c4ebade", func := "loop.example/g00044/laws.FnExactNextChar", spec := "fnExactNextChar", unfollowed := true, recurses := true, named := ["unicode/utf8.first", "unicode/utf8.acceptRanges"], apart := false, laid := [("unicode/utf8.acceptRanges", laid_unicode_utf8_acceptRanges), ("unicode/utf8.first", laid_unicode_utf8_first)], narrowed := true }
def FnExactNextCharUptoSaid : Prop := fnExactNextCharUptoRow.holds Tryd.pinned (OpenSpec.upto fnExactNextCharSpec)

/-- 'laws.FnExactLastChar', WHERE WHAT IT READS IS OF BULK AT MOST 1048576: true; the input reads as it did. -/
def fnExactLastCharUptoRow : OpenClaim := { program := "ytmlhnpggjkoinaadoor", sum := "65bcc4607677ed60d7f95c5c3021b7eeba88e37424ab69649618d3797c4ebade", func := "loop.example/g00044/laws.FnExactLastChar", spec := "fnExactLastChar", unfollowed := true, recurses := true, named := ["unicode/utf8.first", "unicode/utf8.acceptRanges"], apart := false, laid := [("unicode/utf8.acceptRanges", laid_unicode_utf8_acceptRanges), ("unicode/utf8.first", laid_unicode_utf8_first)], narrowed := true }
def FnExactLastCharUptoSaid : Prop := fnExactLastCharUptoRow.holds Tryd.pinned (OpenSpec.upto fnExactLastCharSpec)

/-- 'laws.FnExactWordCuts', WHERE WHAT IT READS IS OF BULK AT MOST 1048576: true; the input reads as it did. -/
def fnExactWordCutsUptoRow : OpenClaim := { program := "ytmlhnpggjkoinaadoor", sum := "65bcc4607677ed60d7f95c5c3021b7eeba88e37424ab69649618d3797c4ebade", func := "loop.example/g00044/laws.FnExactWordCuts", spec := "fnExactWordCuts", unfollowed := true, recurses := true, named := ["unicode/utf8.first", "unicode/utf8.acceptRanges"], apart := false, laid := [("unicode/utf8.acceptRanges", laid_unicode_utf8_acceptRanges), ("unicode/utf8.first", laid_unicode_utf8_first)], narrowed := true }
def FnExactWordCutsUptoSaid : Prop := fnExactWordCutsUptoRow.holds Tryd.pinned (OpenSpec.upto fnExactWordCutsSpec)

/-- 'laws.FnExactWords', WHERE WHAT IT READS IS OF BULK AT MOST 1048576: true; the input reads as it did. -/
def fnExactWordsUptoRow : OpenClaim := { program := "ytmlhnpggjkoinaadoor", sum := "65bcc4607677ed60d7f95c5c3021b7eeba88e37424ab69649618d3797c4ebade", func := "loop.example/g00044/laws.FnExactWords", spec := "fnExactWords", unfollowed := true, recurses := true, named := ["unicode/utf8.first", "unicode/utf8.acceptRanges"], apart := false, laid := [("unicode/utf8.acceptRanges", laid_unicode_utf8_acceptRanges), ("unicode/utf8.first", laid_unicode_utf8_first)], narrowed := true }
def FnExactWordsUptoSaid : Prop := fnExactWordsUptoRow.holds Tryd.pinned (OpenSpec.upto fnExactWordsSpec)

/-- 'laws.FnExactGlyphsOf', WHERE WHAT IT READS IS OF BULK AT MOST 1048576: true; the input reads as it did. -/
def fnExactGlyphsOfUptoRow : OpenClaim := { program := "ytmlhnpggjkoinaadoor", sum := "65bcc4607677ed60d7f95c5c3021b7eeba88e37424ab69649618d3797c4ebade", func := "loop.example/g00044/laws.FnExactGlyphsOf", spec := "fnExactGlyphsOf", unfollowed := true, recurses := true, named := ["unicode/utf8.first", "unicode/utf8.acceptRanges"], apart := false, laid := [("unicode/utf8.acceptRanges", laid_unicode_utf8_acceptRanges), ("unicode/utf8.first", laid_unicode_utf8_first)], narrowed := true }
def FnExactGlyphsOfUptoSaid : Prop := fnExactGlyphsOfUptoRow.holds Tryd.pinned (OpenSpec.upto fnExactGlyphsOfSpec)

/-- 'laws.FnExactFormsOf', WHERE WHAT IT READS IS OF BULK AT MOST 1048576: true; the input reads as it did. -/
def fnExactFormsOfUptoRow : OpenClaim := { program := "ytmlhnpggjkoinaadoor", sum := "65bcc4607677ed60d7f95c5c3021b7eeba88e37424ab69649618d3797c4ebade", func := "loop.example/g00044/laws.FnExactFormsOf", spec := "fnExactFormsOf", unfollowed := true, recurses := true, named := ["unicode/utf8.first", "unicode/utf8.acceptRanges"], apart := false, laid := [("unicode/utf8.acceptRanges", laid_unicode_utf8_acceptRanges), ("unicode/utf8.first", laid_unicode_utf8_first)], narrowed := true }
def FnExactFormsOfUptoSaid : Prop := fnExactFormsOfUptoRow.holds Tryd.pinned (OpenSpec.upto fnExactFormsOfSpec)

/-- 'laws.FnExactWordsFault', WHERE WHAT IT READS IS OF BULK AT MOST 1048576: true; the input reads as it did. -/
def fnExactWordsFaultUptoRow : OpenClaim := { program := "ytmlhnpggjkoinaadoor", sum := "65bcc4607677ed60d7f95c5c3021b7eeba88e37424ab69649618d3797c4ebade", func := "loop.example/g00044/laws.FnExactWordsFault", spec := "fnExactWordsFault", named := ["unicode/utf8.first", "unicode/utf8.acceptRanges"], apart := false, laid := [("unicode/utf8.acceptRanges", laid_unicode_utf8_acceptRanges), ("unicode/utf8.first", laid_unicode_utf8_first)], narrowed := true }
def FnExactWordsFaultUptoSaid : Prop := fnExactWordsFaultUptoRow.holds Tryd.pinned (OpenSpec.upto fnExactWordsFaultSpec)

/-- 'laws.FnExactFewestWords', WHERE WHAT IT READS IS OF BULK AT MOST 1048576: true; the input reads as it did. -/
def fnExactFewestWordsUptoRow : OpenClaim := { program := "ytmlhnpggjkoinaadoor", sum := "65bcc4607677ed60d7f95c5c3021b7eeba88e37424ab69649618d3797c4ebade", func := "loop.example/g00044/laws.FnExactFewestWords", spec := "fnExactFewestWords", named := ["unicode/utf8.first", "unicode/utf8.acceptRanges"], apart := false, laid := [("unicode/utf8.acceptRanges", laid_unicode_utf8_acceptRanges), ("unicode/utf8.first", laid_unicode_utf8_first)], narrowed := true }
def FnExactFewestWordsUptoSaid : Prop := fnExactFewestWordsUptoRow.holds Tryd.pinned (OpenSpec.upto fnExactFewestWordsSpec)

end Rows
end Go.Proofs.YtmlhnpggjkoinaaDoor

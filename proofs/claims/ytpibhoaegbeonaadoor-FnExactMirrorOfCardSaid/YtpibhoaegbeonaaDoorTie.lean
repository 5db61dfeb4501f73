/-
  DERIVED. GIVEN WITH THE SEED: THE PROGRAM's TIES (one call each: nine closed facts by the kernel) AND EACH ROW's TIE, after the 31st guide's Derived/Test/Toyas{Tie, Card}.lean. No idea stands in it: it is a product of the set-up. Laid BY PROGRAM, IN A SANDBOX (cutbox-door.mjs). By AI agents, Wed Nov 11 2026. No macro, syntax, notation, axiom, sorry.
-/
import Derived.Test.YtpibhoaegbeonaaDoorRows
import Derived.LaidByTextLater
import Derived.SevenTiedAt
import Derived.LaidSub
import Derived.LaidOnce
namespace Go.Proofs.YtpibhoaegbeonaaDoor
open Go
set_option maxRecDepth 100000
theorem seatTie1 : Tryd.prog.laidByTextLater [("loop.example/g00044/impl.digitRows", Rows.laid_loop_example_g00044_impl_digitRows), ("loop.example/g00044/impl.mirrors", Rows.laid_loop_example_g00044_impl_mirrors)] [.data, .mapped] true :=
  Program.laidByTextLater_by_one 59 8 8 (by kernel_rfl) (by kernel_rfl) (by kernel_rfl) (by kernel_rfl) (by kernel_rfl) (by kernel_rfl) (fun _ _ => by kernel_rfl)
theorem noOwnUnsafe : Tryd.pinned.checked.prog.headLifts.contains "ownunsafe" = false := by kernel_rfl
theorem tie : Tryd.prog.laidByTextLater [("loop.example/g00044/impl.mirrors", Rows.laid_loop_example_g00044_impl_mirrors)] [.mapped] true :=
  Program.laidByTextLater.sub seatTie1 ["loop.example/g00044/impl.mirrors"] (by kernel_rfl) (by kernel_rfl)
theorem fnExactMirrorOf_row_tie : Rows.fnExactMirrorOfRow.laidByTextAt .later Tryd.pinned [.mapped] true :=
  OpenClaim.laidByTextAt_later rfl rfl tie noOwnUnsafe
theorem tie2 : Tryd.prog.laidByTextLater [("loop.example/g00044/impl.digitRows", Rows.laid_loop_example_g00044_impl_digitRows)] [.data] true :=
  Program.laidByTextLater.sub seatTie1 ["loop.example/g00044/impl.digitRows"] (by kernel_rfl) (by kernel_rfl)
theorem fnExactDigitOf_row_tie : Rows.fnExactDigitOfRow.laidByTextAt .later Tryd.pinned [.data] true :=
  OpenClaim.laidByTextAt_later rfl rfl tie2 noOwnUnsafe
theorem fnExactMirrorOfUpto_row_tie : Rows.fnExactMirrorOfUptoRow.laidByTextAt .later Tryd.pinned [.mapped] true :=
  OpenClaim.laidByTextAt_later rfl rfl tie noOwnUnsafe
theorem fnExactDigitOfUpto_row_tie : Rows.fnExactDigitOfUptoRow.laidByTextAt .later Tryd.pinned [.data] true :=
  OpenClaim.laidByTextAt_later rfl rfl tie2 noOwnUnsafe
end Go.Proofs.YtpibhoaegbeonaaDoor

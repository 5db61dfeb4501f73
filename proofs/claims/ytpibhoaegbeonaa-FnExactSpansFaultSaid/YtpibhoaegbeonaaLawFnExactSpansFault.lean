/- The statement FnExactSpansFault, out of the pure statement and the walk. For every input the law answers true, and each argument reads afterwards as it read before. -/
import Derived.Test.YtpibhoaegbeonaaRows
import Derived.Test.YtpibhoaegbeonaaPFnExactSpansFaultx2
import Derived.Test.YtpibhoaegbeonaaPureFnExactSpansFault
import Derived.Test.YtpibhoaegbeonaaOpen
import Derived.WalkKit
import Derived.ProofKit
import Derived.OpenShut
import Derived.ShutString
import Derived.ChangeOld
import Derived.Below
import Derived.SizedLaws
import Derived.Test.YtpibhoaegbeonaaWSized
namespace Go.Proofs.Ytpibhoaegbeonaa.fnExactSpansFault
open Go.ChangeShapes Go.WideShapes Go.ChangeAt Go.RowKit Go.Proofs.Ytpibhoaegbeonaa.PFnExactSpansFault Go.Proofs.Ytpibhoaegbeonaa.Lib
open Go.ChangeMaps (open_string shut_string)
open Go.Proofs.YtpibhoaegbeonaaW.PrintWords Go.Proofs.YtpibhoaegbeonaaW.PrintLast Go.Proofs.YtpibhoaegbeonaaW.PrintMore
set_option linter.unusedVariables false
theorem own : ownKnob Try.prog.godebug = none := by kernel_rfl
theorem laidOut : laidOutB Try.prog = true := by kernel_rfl
theorem opens_k56 : Opens Try.prog k56 56 Q56 := opens_iso (fun x : S56 => (x.f0, x.f1, x.f2)) (fun p => ⟨p.1, p.2.1, p.2.2⟩) (fun _ => rfl) (opens_struct0 Try.underlying56 (by kernel_rfl) (by kernel_rfl) (opensFs_cons (opens_int Try.underlying2 (by kernel_rfl)) (opensFs_cons (opens_int Try.underlying2 (by kernel_rfl)) (opensFs_last (opens_int Try.underlying2 (by kernel_rfl))))))
set_option maxRecDepth 100000 in
theorem lifted (os : Os) (started : os.Started) (H : Type) (enc : TypeId × Value → H) :
    ReturnsInHanded {} Try.checked os 7 .any (Rows.fnExactSpansFaultSpec.pre6 enc Try.prog Try.f7 Rows.fnExactSpansFaultRow.domain false) (Rows.fnExactSpansFaultSpec.post enc Try.prog Try.f7 false true false false) := by
  refine returnsInHanded_of_change_sized (C := Try.checked) own started (by kernel_rfl) Try.func7
    (ChangeSpec.witness6 (enc := enc) (C := Try.checked) false ⟨#[], #[.slice none 0 0], []⟩ 8 (by kernel_rfl) (by kernel_rfl) (by kernel_rfl) (by kernel_rfl)) ?_
  intro W base args ds gs before hval0 hW hcnd hsz0 _
  have hsz : (DataW.weightsEach Try.prog (Try.f7.params.toList ++ Rows.fnExactSpansFaultSpec.plain.varTypes Try.prog) (ds ++ gs)).all (· ≤ reachBytes) = true := hsz0
  have hval : ∀ (j : Nat) t v, Try.f7.params[j]? = some t → args[j]? = some v → Value.okWide Try.prog W .any base t v := hval0
  have hW' := hW
  obtain ⟨p, q, hA0, hV, rfl, hfz, hnd⟩ := hW
  have hA : DataW.TrodAll enc Try.prog W 0 (fun _ => true) true Try.f7.params.toList args.toList ds p := hA0
  rw [Try.params7] at hA hval hsz
  obtain ⟨v0, vs0, d0, ds0, p0, q0, hargs, rfl, rfl, h0, r0⟩ := trodAll_cons hA
  obtain ⟨rfl, rfl, rfl⟩ := trodAll_nil r0
  obtain rfl : args = #[v0] := by cases args; simp_all
  obtain ⟨rfl, rfl⟩ := trodVars_none hV
  have k0 := h0
  have lt0 : ∀ x ∈ p0, x.block < W.heap.size := by obtain ⟨m, hm⟩ := k0; exact DataW.trod_lt m _ _ _ hm
  have ok0 := (hval 0 27 v0 rfl rfl)
  obtain ⟨A0, l0, c0, hv0, hc0, hr0, hq0⟩ := opens_arg_slice Try.underlying27 (opens_slice Try.underlying27 opens_k56 (by kernel_rfl)) ok0 h0
  subst hv0
  clear hA0 hval0 hsz0 hsz
  obtain ⟨k, h⟩ := Pure.FnExactSpansFault l0 hq0
  refine (laws_FnExactSpansFault.calls k _ _ l0 true W hr0 hc0 h).mono fun e W' ⟨he, hb⟩ => ?_
  have bel : Below W.heap.size W W' := hb
  subst he
  exact ⟨_, rfl, _, _, _, [], _, [], hW', trodAll_mk1 (shut_bool Try.underlying4 _), (trodAll_cons_mk (Below.trod laidOut (by kernel_rfl) (of_decide_eq_true (by kernel_rfl)) k0 bel lt0) trodAll_mk0), rfl, bel.frame _, fun h => by cases h⟩
theorem over : Rows.fnExactSpansFaultRow.holds Try.pinned (OpenSpec.ofChange Rows.fnExactSpansFaultSpec) :=
  OpenClaim.holds_of_wide 7 Try.f7 rfl rfl rfl rfl rfl rfl rfl ⟨rfl, rfl, rfl, rfl, rfl⟩ rfl rfl rfl rfl rfl (by kernel_rfl) Try.func7 (by kernel_rfl)
    (of_decide_eq_true (by kernel_rfl)) (by unfold Func.isWrapper; first | (rw [if_pos (by decide +kernel)]; kernel_rfl) | (rw [if_neg (by decide +kernel)]; exact ⟨rfl, rfl⟩))
    (fun os started H enc _ => lifted os started H enc)
theorem proved : Rows.FnExactSpansFaultSaid := over
#print axioms proved
end Go.Proofs.Ytpibhoaegbeonaa.fnExactSpansFault
namespace Go.Proofs.Ytpibhoaegbeonaa
/-- The row, under a short name, for the claim. -/
theorem fnExactSpansFault_holds : Rows.FnExactSpansFaultSaid := fnExactSpansFault.proved
end Go.Proofs.Ytpibhoaegbeonaa

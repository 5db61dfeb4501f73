/- The statement FnExactFontFault, out of the pure statement and the walk. For every input the law answers true, and each argument reads afterwards as it read before. -/
import Derived.Test.YtdagmhbockeleaaRows
import Derived.Test.YtdagmhbockeleaaPFnExactFontFaultx10
import Derived.Test.YtdagmhbockeleaaPureFnExactFontFault
import Derived.Test.YtdagmhbockeleaaOpen
import Derived.WalkKit
import Derived.ProofKit
import Derived.OpenShut
import Derived.ShutString
import Derived.ChangeOld
import Derived.Below
import Derived.SizedLaws
import Derived.Test.YtdagmhbockeleaaVFontFaultSized
namespace Go.Proofs.Ytdagmhbockeleaa.fnExactFontFault
open Go.ChangeShapes Go.WideShapes Go.ChangeAt Go.RowKit Go.Proofs.Ytdagmhbockeleaa.PFnExactFontFault Go.Proofs.Ytdagmhbockeleaa.Lib
open Go.ChangeMaps (open_string shut_string)
open Go.Proofs.YtdagmhbockeleaaW.PrintWords Go.Proofs.YtdagmhbockeleaaW.PrintLast Go.Proofs.YtdagmhbockeleaaW.PrintMore
set_option linter.unusedVariables false
theorem own : ownKnob Try.prog.godebug = none := by kernel_rfl
theorem laidOut : laidOutB Try.prog = true := by kernel_rfl
theorem opens_k83 : Opens Try.prog k83 83 Q83 := opens_iso (fun x : S83 => (x.f0, x.f1, x.f2)) (fun p => ⟨p.1, p.2.1, p.2.2⟩) (fun _ => rfl) (opens_struct0 Try.underlying83 (by kernel_rfl) (by kernel_rfl) (opensFs_cons (opens_int Try.underlying2 (by kernel_rfl)) (opensFs_cons (opens_int Try.underlying2 (by kernel_rfl)) (opensFs_last (opens_int Try.underlying2 (by kernel_rfl))))))
theorem opens_k76 : Opens Try.prog k76 76 Q76 := opens_iso (fun x : S76 => (x.f0, x.f1, x.f2, x.f3)) (fun p => ⟨p.1, p.2.1, p.2.2.1, p.2.2.2⟩) (fun _ => rfl) (opens_struct0 Try.underlying76 (by kernel_rfl) (by kernel_rfl) (opensFs_cons (opens_slice Try.underlying44 (opens_int Try.underlying2 (by kernel_rfl)) (by kernel_rfl)) (opensFs_cons (opens_slice Try.underlying44 (opens_int Try.underlying2 (by kernel_rfl)) (by kernel_rfl)) (opensFs_cons (opens_slice Try.underlying44 (opens_int Try.underlying2 (by kernel_rfl)) (by kernel_rfl)) (opensFs_last (opens_slice Try.underlying44 (opens_int Try.underlying2 (by kernel_rfl)) (by kernel_rfl)))))))
theorem opens_k86 : Opens Try.prog k86 86 Q86 := opens_iso (fun x : S86 => (x.f0, x.f1, x.f2)) (fun p => ⟨p.1, p.2.1, p.2.2⟩) (fun _ => rfl) (opens_struct0 Try.underlying86 (by kernel_rfl) (by kernel_rfl) (opensFs_cons (opens_int Try.underlying2 (by kernel_rfl)) (opensFs_cons (opens_int Try.underlying2 (by kernel_rfl)) (opensFs_last (opens_int Try.underlying2 (by kernel_rfl))))))
set_option maxRecDepth 100000 in
theorem lifted (os : Os) (started : os.Started) (H : Type) (enc : TypeId × Value → H) :
    ReturnsInHanded {} Try.checked os 9 .any (Rows.fnExactFontFaultSpec.pre6 enc Try.prog Try.f9 Rows.fnExactFontFaultRow.domain false) (Rows.fnExactFontFaultSpec.post enc Try.prog Try.f9 false true false false) := by
  refine returnsInHanded_of_change_sized (C := Try.checked) own started (by kernel_rfl) Try.func9
    (ChangeSpec.witness6 (enc := enc) (C := Try.checked) false ⟨#[], #[.agg #[.int .i64 0, .slice none 0 0, .slice none 0 0, .slice none 0 0, .slice none 0 0]], []⟩ 8 (by kernel_rfl) (by kernel_rfl) (by kernel_rfl) (by kernel_rfl)) ?_
  intro W base args ds gs before hval0 hW hcnd hsz0 _
  have hsz : (DataW.weightsEach Try.prog (Try.f9.params.toList ++ Rows.fnExactFontFaultSpec.plain.varTypes Try.prog) (ds ++ gs)).all (· ≤ reachBytes) = true := hsz0
  have hval : ∀ (j : Nat) t v, Try.f9.params[j]? = some t → args[j]? = some v → Value.okWide Try.prog W .any base t v := hval0
  have hW' := hW
  obtain ⟨p, q, hA0, hV, rfl, hfz, hnd⟩ := hW
  have hA : DataW.TrodAll enc Try.prog W 0 (fun _ => true) true Try.f9.params.toList args.toList ds p := hA0
  rw [Try.params9] at hA hval hsz
  obtain ⟨v0, vs0, d0, ds0, p0, q0, hargs, rfl, rfl, h0, r0⟩ := trodAll_cons hA
  obtain ⟨rfl, rfl, rfl⟩ := trodAll_nil r0
  obtain rfl : args = #[v0] := by cases args; simp_all
  obtain ⟨rfl, rfl⟩ := trodVars_none hV
  have k0 := h0
  have lt0 : ∀ x ∈ p0, x.block < W.heap.size := by obtain ⟨m, hm⟩ := k0; exact DataW.trod_lt m _ _ _ hm
  have ok0 := (hval 0 33 v0 rfl rfl)
  obtain ⟨cs0, x0, hv0, hK0, hQ0⟩ := opens_arg_struct Try.underlying33 (opens_struct0 Try.underlying33 (by kernel_rfl) (by kernel_rfl) (opensFs_cons (opens_int Try.underlying2 (by kernel_rfl)) (opensFs_cons (opens_slice Try.underlying29 opens_k83 (by kernel_rfl)) (opensFs_cons (opens_slice Try.underlying30 opens_k76 (by kernel_rfl)) (opensFs_cons (opens_slice Try.underlying31 opens_k86 (by kernel_rfl)) (opensFs_last (opens_slice Try.underlying29 opens_k83 (by kernel_rfl)))))))) ok0 h0
  obtain ⟨a0_0, l0_1, l0_2, l0_3, l0_4⟩ := x0
  obtain ⟨_, _, rfl, rfl, ⟨_, _, rfl, ⟨A0_1, c0_1, rfl, hc0_1, hr0_1⟩, ⟨_, _, rfl, ⟨A0_2, c0_2, rfl, hc0_2, hr0_2⟩, ⟨_, _, rfl, ⟨A0_3, c0_3, rfl, hc0_3, hr0_3⟩, ⟨A0_4, c0_4, rfl, hc0_4, hr0_4⟩⟩⟩⟩⟩ := hK0
  subst hv0
  clear hA0 hval0 hsz0 hsz
  obtain ⟨k, h⟩ := Pure.FnExactFontFault a0_0 l0_1 l0_2 l0_3 l0_4 hQ0.1 hQ0.2.1 hQ0.2.2.1 hQ0.2.2.2.1 hQ0.2.2.2.2
  refine (laws_FnExactFontFault.calls k a0_0 _ _ l0_1 _ _ l0_2 _ _ l0_3 _ _ l0_4 true W hr0_1 hc0_1 hr0_2 hc0_2 hr0_3 hc0_3 hr0_4 hc0_4 h).mono fun e W' ⟨he, hb⟩ => ?_
  have bel : Below W.heap.size W W' := hb
  subst he
  exact ⟨_, rfl, _, _, _, [], _, [], hW', trodAll_mk1 (shut_bool Try.underlying4 _), (trodAll_cons_mk (Below.trod laidOut (by kernel_rfl) (of_decide_eq_true (by kernel_rfl)) k0 bel lt0) trodAll_mk0), rfl, bel.frame _, fun h => by cases h⟩
theorem over : Rows.fnExactFontFaultRow.holds Try.pinned (OpenSpec.ofChange Rows.fnExactFontFaultSpec) :=
  OpenClaim.holds_of_wide 9 Try.f9 rfl rfl rfl rfl rfl rfl rfl ⟨rfl, rfl, rfl, rfl, rfl⟩ rfl rfl rfl rfl rfl (by kernel_rfl) Try.func9 (by kernel_rfl)
    (of_decide_eq_true (by kernel_rfl)) (by unfold Func.isWrapper; first | (rw [if_pos (by decide +kernel)]; kernel_rfl) | (rw [if_neg (by decide +kernel)]; exact ⟨rfl, rfl⟩))
    (fun os started H enc _ => lifted os started H enc)
theorem proved : Rows.FnExactFontFaultSaid := over
#print axioms proved
end Go.Proofs.Ytdagmhbockeleaa.fnExactFontFault
namespace Go.Proofs.Ytdagmhbockeleaa
/-- The row, under a short name, for the claim. -/
theorem fnExactFontFault_holds : Rows.FnExactFontFaultSaid := fnExactFontFault.proved
end Go.Proofs.Ytdagmhbockeleaa

/- The statement FnExactTrieAt, out of the pure statement and the walk. For every input the law answers true, and each argument reads afterwards as it read before. -/
import Derived.Test.YtogdmjcdfjnifaaRows
import Derived.Test.YtogdmjcdfjnifaaPFnExactTrieAtx3
import Derived.Test.YtogdmjcdfjnifaaPureFnExactTrieAt
import Derived.Test.YtogdmjcdfjnifaaOpen
import Derived.WalkKit
import Derived.ProofKit
import Derived.OpenShut
import Derived.ShutString
import Derived.ChangeOld
import Derived.Below
import Derived.SizedLaws
import Derived.Test.YtogdmjcdfjnifaaWSized
namespace Go.Proofs.Ytogdmjcdfjnifaa.fnExactTrieAt
open Go.ChangeShapes Go.WideShapes Go.ChangeAt Go.RowKit Go.Proofs.Ytogdmjcdfjnifaa.PFnExactTrieAt Go.Proofs.Ytogdmjcdfjnifaa.Lib
open Go.ChangeMaps (open_string shut_string)
open Go.Proofs.YtogdmjcdfjnifaaW.PrintWords Go.Proofs.YtogdmjcdfjnifaaW.PrintLast Go.Proofs.YtogdmjcdfjnifaaW.PrintMore
set_option linter.unusedVariables false
theorem own : ownKnob Try.prog.godebug = none := by kernel_rfl
theorem laidOut : laidOutB Try.prog = true := by kernel_rfl
set_option maxRecDepth 100000 in
theorem lifted (os : Os) (started : os.Started) (H : Type) (enc : TypeId × Value → H) :
    ReturnsInHanded {} Try.checked os 4 .any (Rows.fnExactTrieAtSpec.pre6 enc Try.prog Try.f4 Rows.fnExactTrieAtRow.domain false) (Rows.fnExactTrieAtSpec.post enc Try.prog Try.f4 false true false false) := by
  refine returnsInHanded_of_change_sized (C := Try.checked) own started (by kernel_rfl) Try.func4
    (ChangeSpec.witness6 (enc := enc) (C := Try.checked) false ⟨#[], #[.agg #[.slice none 0 0, .slice none 0 0], .int .i64 0], []⟩ 8 (by kernel_rfl) (by kernel_rfl) (by kernel_rfl) (by kernel_rfl)) ?_
  intro W base args ds gs before hval0 hW hcnd hsz0 _
  have hsz : (DataW.weightsEach Try.prog (Try.f4.params.toList ++ Rows.fnExactTrieAtSpec.plain.varTypes Try.prog) (ds ++ gs)).all (· ≤ reachBytes) = true := hsz0
  have hval : ∀ (j : Nat) t v, Try.f4.params[j]? = some t → args[j]? = some v → Value.okWide Try.prog W .any base t v := hval0
  have hW' := hW
  obtain ⟨p, q, hA0, hV, rfl, hfz, hnd⟩ := hW
  have hA : DataW.TrodAll enc Try.prog W 0 (fun _ => true) true Try.f4.params.toList args.toList ds p := hA0
  rw [Try.params4] at hA hval hsz
  obtain ⟨v0, vs0, d0, ds0, p0, q0, hargs, rfl, rfl, h0, r0⟩ := trodAll_cons hA
  obtain ⟨v1, vs1, d1, ds1, p1, q1, rfl, rfl, rfl, h1, r1⟩ := trodAll_cons r0
  obtain ⟨rfl, rfl, rfl⟩ := trodAll_nil r1
  obtain rfl : args = #[v0, v1] := by cases args; simp_all
  obtain ⟨rfl, rfl⟩ := trodVars_none hV
  have k0 := h0
  have lt0 : ∀ x ∈ p0, x.block < W.heap.size := by obtain ⟨m, hm⟩ := k0; exact DataW.trod_lt m _ _ _ hm
  have ok0 := (hval 0 24 v0 rfl rfl)
  obtain ⟨cs0, x0, hv0, hK0, hQ0⟩ := opens_arg_struct Try.underlying24 (opens_struct0 Try.underlying24 (by kernel_rfl) (by kernel_rfl) (opensFs_cons (opens_slice Try.underlying22 (opens_int Try.underlying2 (by kernel_rfl)) (by kernel_rfl)) (opensFs_last (opens_slice Try.underlying22 (opens_int Try.underlying2 (by kernel_rfl)) (by kernel_rfl))))) ok0 h0
  obtain ⟨l0_0, l0_1⟩ := x0
  obtain ⟨_, _, rfl, ⟨A0_0, c0_0, rfl, hc0_0, hr0_0⟩, ⟨A0_1, c0_1, rfl, hc0_1, hr0_1⟩⟩ := hK0
  subst hv0
  obtain ⟨a1, rfl, rfl, rfl, w1⟩ := open_int Try.underlying2 (hval 1 2 v1 rfl rfl) h1
  clear hA0 hval0 hsz0 hsz
  obtain ⟨k, h⟩ := Pure.FnExactTrieAt l0_0 l0_1 a1 hQ0.1 hQ0.2 w1
  refine (laws_FnExactTrieAt.calls k _ _ l0_0 _ _ l0_1 a1 true W hr0_0 hc0_0 hr0_1 hc0_1 h).mono fun e W' ⟨he, hb⟩ => ?_
  have bel : Below W.heap.size W W' := hb
  subst he
  exact ⟨_, rfl, _, _, _, [], _, [], hW', trodAll_mk1 (shut_bool Try.underlying4 _), (trodAll_cons_mk (Below.trod laidOut (by kernel_rfl) (of_decide_eq_true (by kernel_rfl)) k0 bel lt0) (trodAll_cons_mk (shut_int Try.underlying2 w1) trodAll_mk0)), rfl, bel.frame _, fun h => by cases h⟩
theorem over : Rows.fnExactTrieAtRow.holds Try.pinned (OpenSpec.ofChange Rows.fnExactTrieAtSpec) :=
  OpenClaim.holds_of_wide 4 Try.f4 rfl rfl rfl rfl rfl rfl rfl ⟨rfl, rfl, rfl, rfl, rfl⟩ rfl rfl rfl rfl rfl (by kernel_rfl) Try.func4 (by kernel_rfl)
    (of_decide_eq_true (by kernel_rfl)) (by unfold Func.isWrapper; first | (rw [if_pos (by decide +kernel)]; kernel_rfl) | (rw [if_neg (by decide +kernel)]; exact ⟨rfl, rfl⟩))
    (fun os started H enc _ => lifted os started H enc)
theorem proved : Rows.FnExactTrieAtSaid := over
#print axioms proved
end Go.Proofs.Ytogdmjcdfjnifaa.fnExactTrieAt
namespace Go.Proofs.Ytogdmjcdfjnifaa
/-- The row, under a short name, for the claim. -/
theorem fnExactTrieAt_holds : Rows.FnExactTrieAtSaid := fnExactTrieAt.proved
end Go.Proofs.Ytogdmjcdfjnifaa

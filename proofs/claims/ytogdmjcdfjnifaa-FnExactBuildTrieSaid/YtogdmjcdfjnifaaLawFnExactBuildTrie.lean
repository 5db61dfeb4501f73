/- The statement FnExactBuildTrie, out of the pure statement and the walk. For every input the law answers true, and each argument reads afterwards as it read before. -/
import Derived.Test.YtogdmjcdfjnifaaRows
import Derived.Test.YtogdmjcdfjnifaaPFnExactBuildTriex6
import Derived.Test.YtogdmjcdfjnifaaPureFnExactBuildTrie
import Derived.Test.YtogdmjcdfjnifaaOpen
import Derived.WalkKit
import Derived.ProofKit
import Derived.OpenShut
import Derived.ShutString
import Derived.ChangeOld
import Derived.Below
import Derived.SizedLaws
import Derived.Test.YtogdmjcdfjnifaaWSized
namespace Go.Proofs.Ytogdmjcdfjnifaa.fnExactBuildTrie
open Go.ChangeShapes Go.WideShapes Go.ChangeAt Go.RowKit Go.Proofs.Ytogdmjcdfjnifaa.PFnExactBuildTrie Go.Proofs.Ytogdmjcdfjnifaa.Lib
open Go.ChangeMaps (open_string shut_string)
open Go.Proofs.YtogdmjcdfjnifaaW.PrintWords Go.Proofs.YtogdmjcdfjnifaaW.PrintLast Go.Proofs.YtogdmjcdfjnifaaW.PrintMore
set_option linter.unusedVariables false
theorem own : ownKnob Try.prog.godebug = none := by kernel_rfl
theorem laidOut : laidOutB Try.prog = true := by kernel_rfl
set_option maxRecDepth 100000 in
theorem opens_k59 : Opens Try.prog k59 59 Q59 := opens_iso (fun x : S59 => (x.f0, x.f1, x.f2)) (fun p => ⟨p.1, p.2.1, p.2.2⟩) (fun _ => rfl) (opens_struct0 Try.underlying59 (by kernel_rfl) (by kernel_rfl) (opensFs_cons (opens_int Try.underlying2 (by kernel_rfl)) (opensFs_cons (opens_int Try.underlying2 (by kernel_rfl)) (opensFs_last (opens_int Try.underlying2 (by kernel_rfl))))))
set_option maxRecDepth 100000 in
theorem lifted (os : Os) (started : os.Started) (H : Type) (enc : TypeId × Value → H) :
    ReturnsInHanded {} Try.checked os 5 .any (Rows.fnExactBuildTrieSpec.pre6 enc Try.prog Try.f5 Rows.fnExactBuildTrieRow.domain false) (Rows.fnExactBuildTrieSpec.post enc Try.prog Try.f5 false true false false) := by
  refine returnsInHanded_of_change_sized (C := Try.checked) own started (by kernel_rfl) Try.func5
    (ChangeSpec.witness6 (enc := enc) (C := Try.checked) false ⟨#[], #[.slice none 0 0, .int .i64 0], []⟩ 8 (by kernel_rfl) (by kernel_rfl) (by kernel_rfl) (by kernel_rfl)) ?_
  intro W base args ds gs before hval0 hW hcnd hsz0 _
  have hsz : (DataW.weightsEach Try.prog (Try.f5.params.toList ++ Rows.fnExactBuildTrieSpec.plain.varTypes Try.prog) (ds ++ gs)).all (· ≤ reachBytes) = true := hsz0
  have hval : ∀ (j : Nat) t v, Try.f5.params[j]? = some t → args[j]? = some v → Value.okWide Try.prog W .any base t v := hval0
  have hW' := hW
  obtain ⟨p, q, hA0, hV, rfl, hfz, hnd⟩ := hW
  have hA : DataW.TrodAll enc Try.prog W 0 (fun _ => true) true Try.f5.params.toList args.toList ds p := hA0
  rw [Try.params5] at hA hval hsz
  obtain ⟨v0, vs0, d0, ds0, p0, q0, hargs, rfl, rfl, h0, r0⟩ := trodAll_cons hA
  obtain ⟨v1, vs1, d1, ds1, p1, q1, rfl, rfl, rfl, h1, r1⟩ := trodAll_cons r0
  obtain ⟨rfl, rfl, rfl⟩ := trodAll_nil r1
  obtain rfl : args = #[v0, v1] := by cases args; simp_all
  obtain ⟨rfl, rfl⟩ := trodVars_none hV
  have k0 := h0
  have lt0 : ∀ x ∈ p0, x.block < W.heap.size := by obtain ⟨m, hm⟩ := k0; exact DataW.trod_lt m _ _ _ hm
  have ok0 := (hval 0 33 v0 rfl rfl)
  obtain ⟨A0, l0, c0, hv0, hc0, hr0, hq0⟩ := opens_arg_slice Try.underlying33 (opens_slice Try.underlying33 opens_k59 (by kernel_rfl)) ok0 h0
  subst hv0
  obtain ⟨a1, rfl, rfl, rfl, w1⟩ := open_int Try.underlying2 (hval 1 2 v1 rfl rfl) h1
  clear hA0 hval0 hsz0 hsz
  obtain ⟨k, h⟩ := Pure.FnExactBuildTrie l0 a1 hq0 w1
  refine (laws_FnExactBuildTrie.calls k _ _ l0 a1 true W hr0 hc0 h).mono fun e W' ⟨he, hb⟩ => ?_
  have bel : Below W.heap.size W W' := hb
  subst he
  exact ⟨_, rfl, _, _, _, [], _, [], hW', trodAll_mk1 (shut_bool Try.underlying4 _), (trodAll_cons_mk (Below.trod laidOut (by kernel_rfl) (of_decide_eq_true (by kernel_rfl)) k0 bel lt0) (trodAll_cons_mk (shut_int Try.underlying2 w1) trodAll_mk0)), rfl, bel.frame _, fun h => by cases h⟩
theorem over : Rows.fnExactBuildTrieRow.holds Try.pinned (OpenSpec.ofChange Rows.fnExactBuildTrieSpec) :=
  OpenClaim.holds_of_wide 5 Try.f5 rfl rfl rfl rfl rfl rfl rfl ⟨rfl, rfl, rfl, rfl, rfl⟩ rfl rfl rfl rfl rfl (by kernel_rfl) Try.func5 (by kernel_rfl)
    (of_decide_eq_true (by kernel_rfl)) (by unfold Func.isWrapper; first | (rw [if_pos (by decide +kernel)]; kernel_rfl) | (rw [if_neg (by decide +kernel)]; exact ⟨rfl, rfl⟩))
    (fun os started H enc _ => lifted os started H enc)
theorem proved : Rows.FnExactBuildTrieSaid := over
#print axioms proved
end Go.Proofs.Ytogdmjcdfjnifaa.fnExactBuildTrie
namespace Go.Proofs.Ytogdmjcdfjnifaa
/-- The row, under a short name, for the claim. -/
theorem fnExactBuildTrie_holds : Rows.FnExactBuildTrieSaid := fnExactBuildTrie.proved
end Go.Proofs.Ytogdmjcdfjnifaa

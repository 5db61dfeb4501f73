/- The statement FnExactCollatorFault (a tied card), out of the pure statement and the walk. For every input the law answers true, and each argument reads afterwards as it read before. -/
import Derived.Test.YtnbedmihgnjdpaaDoorRows
import Derived.Test.YtnbedmihgnjdpaaDoorPFnExactCollatorFaultx16
import Derived.Test.YtnbedmihgnjdpaaDoorPureFnExactCollatorFault
import Derived.Test.YtnbedmihgnjdpaaDoorOpen
import Derived.Test.YtnbedmihgnjdpaaDoorCards
import Derived.Test.YtnbedmihgnjdpaaDoorTie
import Derived.Test.YtnbedmihgnjdpaaDoorGL
import Derived.Test.YtnbedmihgnjdpaaDoorGLR
import Derived.LaidMore
import Derived.Stop.Joined
import Derived.SevenTiedAt
import Derived.OpenVars
import Derived.Lay
import Derived.WalkKit
import Derived.ProofKit
import Derived.OpenShut
import Derived.ShutString
import Derived.ChangeOld
import Derived.Below
import Derived.SizedLaws
import Derived.Test.YtnbedmihgnjdpaaDoorVQC
namespace Go.Proofs.YtnbedmihgnjdpaaDoor.fnExactCollatorFault
open Go.ChangeShapes Go.WideShapes Go.ChangeAt Go.RowKit Go.Proofs.YtnbedmihgnjdpaaDoor.PFnExactCollatorFault Go.Proofs.YtnbedmihgnjdpaaDoor.Lib
open Go.ChangeMaps (open_string shut_string)
open Go.Proofs.YtnbedmihgnjdpaaDoorW.PrintWords Go.Proofs.YtnbedmihgnjdpaaDoorW.PrintLast Go.Proofs.YtnbedmihgnjdpaaDoorW.PrintMore
set_option linter.unusedVariables false
theorem own : ownKnob Tryd.prog.godebug = none := by kernel_rfl
theorem laidOut : laidOutB Tryd.prog = true := by kernel_rfl
set_option maxRecDepth 100000 in
theorem opens_k111 : Opens Tryd.prog k111 111 Q111 := opens_iso (fun x : S111 => (x.f0, x.f1, x.f2)) (fun p => ⟨p.1, p.2.1, p.2.2⟩) (fun _ => rfl) (opens_struct0 Tryd.underlying111 (by kernel_rfl) (by kernel_rfl) (opensFs_cons (opens_int Tryd.underlying2 (by kernel_rfl)) (opensFs_cons (opens_int Tryd.underlying2 (by kernel_rfl)) (opensFs_last (opens_int Tryd.underlying2 (by kernel_rfl))))))
set_option maxRecDepth 100000 in
theorem opens_k91 : Opens Tryd.prog k91 91 Q91 := opens_iso (fun x : S91 => (x.f0, x.f1)) (fun p => ⟨p.1, p.2⟩) (fun _ => rfl) (opens_struct0 Tryd.underlying91 (by kernel_rfl) (by kernel_rfl) (opensFs_cons (opens_string Tryd.underlying9 (by kernel_rfl)) (opensFs_last (opens_slice Tryd.underlying89 opens_k111 (by kernel_rfl)))))
theorem GL_of_laid {W : World} (h : laidMetH Tryd.prog Rows.fnExactCollatorFaultRow.laid W) : GL W := by
  rw [MakeChecks.laidMetH_plain _ _ _ (by kernel_rfl)] at h
  exact GL_of_reads (Go.Lib.laidMet.reads h (n := "unicode/utf8.first") (d := Rows.laid_unicode_utf8_first) (by simp [Rows.fnExactCollatorFaultRow])) (Go.Lib.laidMet.reads h (n := "unicode/utf8.acceptRanges") (d := Rows.laid_unicode_utf8_acceptRanges) (by simp [Rows.fnExactCollatorFaultRow]))
set_option maxRecDepth 100000 in
theorem lifted (os : Os) (started : os.Started) (H : Type) (enc : TypeId × Value → H) :
    ReturnsInHanded {} Tryd.checked os 11 .any (fun w args => (Rows.fnExactCollatorFaultSpec.pre enc Tryd.prog Tryd.f11 [] false w args ∧ laidMetH Tryd.prog Rows.fnExactCollatorFaultRow.laid w) ∧ sizedMet enc Tryd.prog Tryd.f11 (OpenSpec.ofChange Rows.fnExactCollatorFaultSpec) false w args) (Rows.fnExactCollatorFaultSpec.post enc Tryd.prog Tryd.f11 false true false false) := by
  refine returnsInHanded_of_change_and (C := Tryd.checked) (X := fun w _ => laidMetH Tryd.prog Rows.fnExactCollatorFaultRow.laid w) (fun _ _ _ hh h => h.of_heap hh) own started (by kernel_rfl) Tryd.func11
    (ChangeSpec.witness_shaped (enc := enc) (C := Tryd.checked) (os := os) (X := fun w _ => laidMetH Tryd.prog Rows.fnExactCollatorFaultRow.laid w) false (World.laidAll Tryd.prog os Rows.fnExactCollatorFaultRow.laid) #[.agg #[.slice none 0 0, .int .i64 0, .bool false]] 8 (World.laidAll_os _ _ _) (World.shaped_of_ZipB (by kernel_rfl) (by kernel_rfl)) (by kernel_rfl) (by kernel_rfl) (by kernel_rfl) (by rw [MakeChecks.laidMetH_plain _ _ _ (by kernel_rfl)]; exact laidMet_laidAll _ (by kernel_rfl) (by kernel_rfl))) ?_
  intro W base args ds gs before hval0 hW hcnd hsz0 hL _
  have hsz : (DataW.weightsEach Tryd.prog (Tryd.f11.params.toList ++ Rows.fnExactCollatorFaultSpec.plain.varTypes Tryd.prog) (ds ++ gs)).all (· ≤ reachBytes) = true := hsz0
  have hval : ∀ (j : Nat) t v, Tryd.f11.params[j]? = some t → args[j]? = some v → Value.okWide Tryd.prog W .any base t v := hval0
  have hW' := hW
  obtain ⟨p, q, hA0, hV, rfl, hfz, hnd⟩ := hW
  have hA : DataW.TrodAll enc Tryd.prog W 0 (fun _ => true) true Tryd.f11.params.toList args.toList ds p := hA0
  rw [Tryd.params11] at hA hval hsz
  obtain ⟨v0, vs0, d0, ds0, p0, q0, hargs, rfl, rfl, h0, r0⟩ := trodAll_cons hA
  obtain ⟨rfl, rfl, rfl⟩ := trodAll_nil r0
  obtain rfl : args = #[v0] := by cases args; simp_all
  obtain ⟨rfl, rfl⟩ := trodVars_none hV
  have k0 := h0
  have lt0 : ∀ x ∈ p0, x.block < W.heap.size := by obtain ⟨m, hm⟩ := k0; exact DataW.trod_lt m _ _ _ hm
  have ok0 := (hval 0 43 v0 rfl rfl)
  obtain ⟨cs0, x0, hv0, hK0, hQ0⟩ := opens_arg_struct Tryd.underlying43 (opens_struct0 Tryd.underlying43 (by kernel_rfl) (by kernel_rfl) (opensFs_cons (opens_slice Tryd.underlying41 opens_k91 (by kernel_rfl)) (opensFs_cons (opens_int Tryd.underlying2 (by kernel_rfl)) (opensFs_last (opens_bool Tryd.underlying4 (by kernel_rfl)))))) ok0 h0
  obtain ⟨l0_0, a0_1, a0_2⟩ := x0
  obtain ⟨_, _, rfl, ⟨A0_0, c0_0, rfl, hc0_0, hr0_0⟩, ⟨_, _, rfl, rfl, rfl⟩⟩ := hK0
  subst hv0
  have hG := GL_of_laid hL
  clear hA0 hval0 hsz0 hsz
  obtain ⟨k, h⟩ := Pure.FnExactCollatorFault l0_0 a0_1 a0_2 hQ0.1 hQ0.2.1
  refine (laws_FnExactCollatorFault.calls k _ _ l0_0 a0_1 a0_2 true W hr0_0 hc0_0 hG h).mono fun e W' ⟨he, hb⟩ => ?_
  have bel : Below W.heap.size W W' := hb
  subst he
  exact ⟨_, rfl, _, _, _, [], _, [], hW', trodAll_mk1 (shut_bool Tryd.underlying4 _), (trodAll_cons_mk (Below.trod laidOut (by kernel_rfl) (of_decide_eq_true (by kernel_rfl)) k0 bel lt0) trodAll_mk0), rfl, bel.frame _, fun h => by cases h⟩
theorem over : Rows.fnExactCollatorFaultRow.holds Tryd.pinned (OpenSpec.ofChange Rows.fnExactCollatorFaultSpec) :=
  OpenClaim.holds_of_wide 11 Tryd.f11 rfl rfl rfl rfl rfl rfl rfl ⟨rfl, rfl, rfl, rfl, rfl⟩ rfl rfl rfl rfl rfl (by kernel_rfl) Tryd.func11 (by kernel_rfl)
    (of_decide_eq_true (by kernel_rfl)) (by unfold Func.isWrapper; first | (rw [if_pos (by decide +kernel)]; kernel_rfl) | (rw [if_neg (by decide +kernel)]; exact ⟨rfl, rfl⟩))
    (fun os started H enc _ => lifted os started H enc)
theorem card_holds : Claim7.holds Tryd.pinned (.plain (OpenSpec.ofChange Rows.fnExactCollatorFaultSpec)) Rows.fnExactCollatorFaultCard :=
  Claim7.holds_tied_plain_at .later [] [.data, .pinned] true (true, "131c6240e264186e0b06ed1b40bbe30faef97d46f13ed2e8337daab975174b81") false
    over (fun _ h => by cases h) (by kernel_rfl) (fun _ h => by cases h) fnExactCollatorFault_row_tie rfl ⟨rfl, rfl⟩ (by kernel_rfl) rfl
    (fun f fn hf hfn => by
      obtain rfl : f = 11 := Option.some.inj ((show Tryd.prog.funcNamed "loop.example/g00044/laws.FnExactCollatorFault" = some 11 by kernel_rfl).symm.trans hf) |>.symm
      obtain rfl : fn = Tryd.f11 := (Option.some.inj (Tryd.func11.symm.trans hfn)).symm
      exact ⟨by kernel_rfl, fun j t ht => by
        rw [Tryd.params11] at ht
        have hm : t ∈ [43] := by simpa using Array.mem_of_getElem? ht
        have hall : ([43].all fun u => !Tryd.prog.wantsStandIn u) = true := by kernel_rfl
        exact (show Tryd.prog.wantsStandIn t = false by simpa using List.all_eq_true.1 hall t hm)⟩)
    (by kernel_rfl)
end Go.Proofs.YtnbedmihgnjdpaaDoor.fnExactCollatorFault
namespace Go.Proofs.YtnbedmihgnjdpaaDoor
/-- The card, under a short name, for the claim. -/
theorem fnExactCollatorFault_holds : Rows.FnExactCollatorFaultCardSaid := fnExactCollatorFault.card_holds
#print axioms fnExactCollatorFault_holds
end Go.Proofs.YtnbedmihgnjdpaaDoor

/- The statement FnExactPackTrie (a tied card), out of the pure statement and the walk. For every input the law answers true, and each argument reads afterwards as it read before. -/
import Derived.Test.YtogdmjcdfjnifaaDoorRows
import Derived.Test.YtogdmjcdfjnifaaDoorPFnExactPackTriex5
import Derived.Test.YtogdmjcdfjnifaaDoorPureFnExactPackTrie
import Derived.Test.YtogdmjcdfjnifaaDoorOpen
import Derived.Test.YtogdmjcdfjnifaaDoorCards
import Derived.Test.YtogdmjcdfjnifaaDoorTie
import Derived.Test.YtogdmjcdfjnifaaDoorGL
import Derived.Test.YtogdmjcdfjnifaaDoorGLR
import Derived.LaidMore
import Derived.Stop.Joined
import Derived.SevenTiedAt
import Derived.OpenVars
import Derived.Lay
import Derived.WalkKit
import Derived.ProofKit
import Derived.OpenShut
import Derived.ShutString
import Derived.ChangeOld
import Derived.Below
import Derived.SizedLaws
import Derived.Test.YtogdmjcdfjnifaaDoorWSized
namespace Go.Proofs.YtogdmjcdfjnifaaDoor.fnExactPackTrie
open Go.ChangeShapes Go.WideShapes Go.ChangeAt Go.RowKit Go.Proofs.YtogdmjcdfjnifaaDoor.PFnExactPackTrie Go.Proofs.YtogdmjcdfjnifaaDoor.Lib
open Go.ChangeMaps (open_string shut_string)
open Go.Proofs.YtogdmjcdfjnifaaDoorW.PrintWords Go.Proofs.YtogdmjcdfjnifaaDoorW.PrintLast Go.Proofs.YtogdmjcdfjnifaaDoorW.PrintMore
set_option linter.unusedVariables false
theorem own : ownKnob Tryd.prog.godebug = none := by kernel_rfl
theorem laidOut : laidOutB Tryd.prog = true := by kernel_rfl
theorem GL_of_laid {W : World} (h : laidMetH Tryd.prog Rows.fnExactPackTrieRow.laid W) : GL W := by
  rw [MakeChecks.laidMetH_plain _ _ _ (by kernel_rfl)] at h
  exact GL_of_reads (Go.Lib.laidMet.reads h (n := "math/bits.deBruijn32tab") (d := Rows.laid_math_bits_deBruijn32tab) (by simp [Rows.fnExactPackTrieRow])) (Go.Lib.laidMet.reads h (n := "math/bits.deBruijn64tab") (d := Rows.laid_math_bits_deBruijn64tab) (by simp [Rows.fnExactPackTrieRow])) (Go.Lib.laidMet.reads h (n := "internal/strconv.uint64pow10") (d := Rows.laid_internal_strconv_uint64pow10) (by simp [Rows.fnExactPackTrieRow]))
set_option maxRecDepth 100000 in
theorem lifted (os : Os) (started : os.Started) (H : Type) (enc : TypeId × Value → H) :
    ReturnsInHanded {} Tryd.checked os 3 .any (fun w args => (Rows.fnExactPackTrieSpec.pre enc Tryd.prog Tryd.f3 [] false w args ∧ laidMetH Tryd.prog Rows.fnExactPackTrieRow.laid w) ∧ sizedMet enc Tryd.prog Tryd.f3 (OpenSpec.ofChange Rows.fnExactPackTrieSpec) false w args) (Rows.fnExactPackTrieSpec.post enc Tryd.prog Tryd.f3 false true false false) := by
  refine returnsInHanded_of_change_and (C := Tryd.checked) (X := fun w _ => laidMetH Tryd.prog Rows.fnExactPackTrieRow.laid w) (fun _ _ _ hh h => h.of_heap hh) own started (by kernel_rfl) Tryd.func3
    (ChangeSpec.witness_shaped (enc := enc) (C := Tryd.checked) (os := os) (X := fun w _ => laidMetH Tryd.prog Rows.fnExactPackTrieRow.laid w) false (World.laidAll Tryd.prog os Rows.fnExactPackTrieRow.laid) #[.agg #[.slice none 0 0, .slice none 0 0]] 8 (World.laidAll_os _ _ _) (World.shaped_of_ZipB (by kernel_rfl) (by kernel_rfl)) (by kernel_rfl) (by kernel_rfl) (by kernel_rfl) (by rw [MakeChecks.laidMetH_plain _ _ _ (by kernel_rfl)]; exact laidMet_laidAll _ (by kernel_rfl) (by kernel_rfl))) ?_
  intro W base args ds gs before hval0 hW hcnd hsz0 hL _
  have hsz : (DataW.weightsEach Tryd.prog (Tryd.f3.params.toList ++ Rows.fnExactPackTrieSpec.plain.varTypes Tryd.prog) (ds ++ gs)).all (· ≤ reachBytes) = true := hsz0
  have hval : ∀ (j : Nat) t v, Tryd.f3.params[j]? = some t → args[j]? = some v → Value.okWide Tryd.prog W .any base t v := hval0
  have hW' := hW
  obtain ⟨p, q, hA0, hV, rfl, hfz, hnd⟩ := hW
  have hA : DataW.TrodAll enc Tryd.prog W 0 (fun _ => true) true Tryd.f3.params.toList args.toList ds p := hA0
  rw [Tryd.params3] at hA hval hsz
  obtain ⟨v0, vs0, d0, ds0, p0, q0, hargs, rfl, rfl, h0, r0⟩ := trodAll_cons hA
  obtain ⟨rfl, rfl, rfl⟩ := trodAll_nil r0
  obtain rfl : args = #[v0] := by cases args; simp_all
  obtain ⟨rfl, rfl⟩ := trodVars_none hV
  have k0 := h0
  have lt0 : ∀ x ∈ p0, x.block < W.heap.size := by obtain ⟨m, hm⟩ := k0; exact DataW.trod_lt m _ _ _ hm
  have ok0 := (hval 0 24 v0 rfl rfl)
  obtain ⟨cs0, x0, hv0, hK0, hQ0⟩ := opens_arg_struct Tryd.underlying24 (opens_struct0 Tryd.underlying24 (by kernel_rfl) (by kernel_rfl) (opensFs_cons (opens_slice Tryd.underlying22 (opens_int Tryd.underlying2 (by kernel_rfl)) (by kernel_rfl)) (opensFs_last (opens_slice Tryd.underlying22 (opens_int Tryd.underlying2 (by kernel_rfl)) (by kernel_rfl))))) ok0 h0
  obtain ⟨l0_0, l0_1⟩ := x0
  obtain ⟨_, _, rfl, ⟨A0_0, c0_0, rfl, hc0_0, hr0_0⟩, ⟨A0_1, c0_1, rfl, hc0_1, hr0_1⟩⟩ := hK0
  subst hv0
  have hG := GL_of_laid hL
  clear hA0 hval0 hsz0 hsz
  obtain ⟨k, h⟩ := Pure.FnExactPackTrie l0_0 l0_1 hQ0.1 hQ0.2
  refine (laws_FnExactPackTrie.calls k _ _ l0_0 _ _ l0_1 true W hr0_0 hc0_0 hr0_1 hc0_1 hG h).mono fun e W' ⟨he, hb⟩ => ?_
  have bel : Below W.heap.size W W' := hb
  subst he
  exact ⟨_, rfl, _, _, _, [], _, [], hW', trodAll_mk1 (shut_bool Tryd.underlying4 _), (trodAll_cons_mk (Below.trod laidOut (by kernel_rfl) (of_decide_eq_true (by kernel_rfl)) k0 bel lt0) trodAll_mk0), rfl, bel.frame _, fun h => by cases h⟩
theorem over : Rows.fnExactPackTrieRow.holds Tryd.pinned (OpenSpec.ofChange Rows.fnExactPackTrieSpec) :=
  OpenClaim.holds_of_wide 3 Tryd.f3 rfl rfl rfl rfl rfl rfl rfl ⟨rfl, rfl, rfl, rfl, rfl⟩ rfl rfl rfl rfl rfl (by kernel_rfl) Tryd.func3 (by kernel_rfl)
    (of_decide_eq_true (by kernel_rfl)) (by unfold Func.isWrapper; first | (rw [if_pos (by decide +kernel)]; kernel_rfl) | (rw [if_neg (by decide +kernel)]; exact ⟨rfl, rfl⟩))
    (fun os started H enc _ => lifted os started H enc)
theorem card_holds : Claim7.holds Tryd.pinned (.plain (OpenSpec.ofChange Rows.fnExactPackTrieSpec)) Rows.fnExactPackTrieCard :=
  Claim7.holds_tied_plain_at .later [] [.data, .data, .data] true (true, "4a9f8476f62e8c8afd71cdad3aafd0236ebb11fe98d4b6bc2422d536e72f8b72") false
    over (fun _ h => by cases h) (by kernel_rfl) (fun _ h => by cases h) fnExactPackTrie_row_tie rfl ⟨rfl, rfl⟩ (by kernel_rfl) rfl
    (fun f fn hf hfn => by
      obtain rfl : f = 3 := Option.some.inj ((show Tryd.prog.funcNamed "loop.example/g00044/laws.FnExactPackTrie" = some 3 by kernel_rfl).symm.trans hf) |>.symm
      obtain rfl : fn = Tryd.f3 := (Option.some.inj (Tryd.func3.symm.trans hfn)).symm
      exact ⟨by kernel_rfl, fun j t ht => by
        rw [Tryd.params3] at ht
        have hm : t ∈ [24] := by simpa using Array.mem_of_getElem? ht
        have hall : ([24].all fun u => !Tryd.prog.wantsStandIn u) = true := by kernel_rfl
        exact (show Tryd.prog.wantsStandIn t = false by simpa using List.all_eq_true.1 hall t hm)⟩)
    (by kernel_rfl)
end Go.Proofs.YtogdmjcdfjnifaaDoor.fnExactPackTrie
namespace Go.Proofs.YtogdmjcdfjnifaaDoor
/-- The card, under a short name, for the claim. -/
theorem fnExactPackTrie_holds : Rows.FnExactPackTrieCardSaid := fnExactPackTrie.card_holds
#print axioms fnExactPackTrie_holds
end Go.Proofs.YtogdmjcdfjnifaaDoor

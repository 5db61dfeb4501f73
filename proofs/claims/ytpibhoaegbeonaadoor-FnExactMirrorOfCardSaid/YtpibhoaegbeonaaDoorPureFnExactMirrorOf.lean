/- The program's MirrorOf returns what the reference's returns. For every input: the law answers true; each argument reads afterwards as it read before. -/
import Derived.Test.YtpibhoaegbeonaaDoorPFnExactMirrorOfx
import Derived.Test.YtpibhoaegbeonaaDoorLib
set_option linter.unusedSimpArgs false
set_option linter.unusedVariables false
namespace Go.Proofs.YtpibhoaegbeonaaDoor.Pure
open Go.RowKit Go.Proofs.YtpibhoaegbeonaaDoor.PFnExactMirrorOf Go.Proofs.YtpibhoaegbeonaaDoorW.PrintWords Go.Proofs.YtpibhoaegbeonaaDoorW.PrintLast Go.Proofs.YtpibhoaegbeonaaDoorW.PrintMore Go.Proofs.YtpibhoaegbeonaaDoor.Lib

abbrev fromB : ByteArray := ⟨#[40, 41, 60, 62, 91, 93, 123, 125]⟩
abbrev toB : ByteArray := ⟨#[41, 40, 62, 60, 93, 91, 125, 123]⟩
theorem step (K : Nat) (p j v u : Int) (h0 : 0 ≤ j) (h8 : j < 8) (hv : bt fromB j = v) (hu : bt toB j = u) (bv : 0 ≤ v ∧ v ≤ 255) (bu : 0 ≤ u ∧ u ≤ 255) :
    spec_MirrorOf.l0 (K + 1) p fromB toB j = if p = v then some u else spec_MirrorOf.l0 K p fromB toB (j + 1) := by
  have e1 : ((fromB.size : Nat) : Int) = 8 := rfl
  have e2 : ((toB.size : Nat) : Int) = 8 := rfl
  rw [spec_MirrorOf.l0, e1, e2, if_pos h8, if_pos h0, hv, hu, w64 (x := v) (by omega) (by omega), w64 (x := u) (by omega) (by omega), w64 (x := j + 1) (by omega) (by omega)]
  by_cases c : p = v
  · rw [if_pos c, if_pos c, if_pos h8]
  · rw [if_neg c, if_neg c]
theorem last (K : Nat) (p j : Int) (h8 : 8 ≤ j) : spec_MirrorOf.l0 (K + 1) p fromB toB j = (spec_l01IsPoint.f p).bind fun t => (if t = true then (some p) else (some 0)) := by
  have e1 : ((fromB.size : Nat) : Int) = 8 := rfl
  rw [spec_MirrorOf.l0, e1, if_neg (by omega)]
theorem spec_eq (p : Int) : spec_MirrorOf.f 9 p = if (mir p).2 = true then some (mir p).1 else (spec_l01IsPoint.f p).bind fun t => (if t = true then (some p) else (some 0)) := by
  unfold spec_MirrorOf.f
  rw [show spec_MirrorOf.l0 9 p (⟨#[40, 41, 60, 62, 91, 93, 123, 125]⟩ : ByteArray) (⟨#[41, 40, 62, 60, 93, 91, 125, 123]⟩ : ByteArray) 0 = spec_MirrorOf.l0 (8 + 1) p fromB toB 0 from rfl]
  rw [step 8 p 0 40 41 (by decide) (by decide) rfl rfl (by decide) (by decide), step 7 p (0 + 1) 41 40 (by decide) (by decide) rfl rfl (by decide) (by decide), step 6 p (0 + 1 + 1) 60 62 (by decide) (by decide) rfl rfl (by decide) (by decide),
    step 5 p (0 + 1 + 1 + 1) 62 60 (by decide) (by decide) rfl rfl (by decide) (by decide), step 4 p (0 + 1 + 1 + 1 + 1) 91 93 (by decide) (by decide) rfl rfl (by decide) (by decide), step 3 p (0 + 1 + 1 + 1 + 1 + 1) 93 91 (by decide) (by decide) rfl rfl (by decide) (by decide),
    step 2 p (0 + 1 + 1 + 1 + 1 + 1 + 1) 123 125 (by decide) (by decide) rfl rfl (by decide) (by decide), step 1 p (0 + 1 + 1 + 1 + 1 + 1 + 1 + 1) 125 123 (by decide) (by decide) rfl rfl (by decide) (by decide), last 0 p _ (by decide)]
  unfold mir
  by_cases c1 : p = 40
  · rw [if_pos c1, if_pos c1]; rfl
  rw [if_neg c1, if_neg c1]
  by_cases c2 : p = 41
  · rw [if_pos c2, if_pos c2]; rfl
  rw [if_neg c2, if_neg c2]
  by_cases c3 : p = 60
  · rw [if_pos c3, if_pos c3]; rfl
  rw [if_neg c3, if_neg c3]
  by_cases c4 : p = 62
  · rw [if_pos c4, if_pos c4]; rfl
  rw [if_neg c4, if_neg c4]
  by_cases c5 : p = 91
  · rw [if_pos c5, if_pos c5]; rfl
  rw [if_neg c5, if_neg c5]
  by_cases c6 : p = 93
  · rw [if_pos c6, if_pos c6]; rfl
  rw [if_neg c6, if_neg c6]
  by_cases c7 : p = 123
  · rw [if_pos c7, if_pos c7]; rfl
  rw [if_neg c7, if_neg c7]
  by_cases c8 : p = 125
  · rw [if_pos c8, if_pos c8]; rfl
  rw [if_neg c8, if_neg c8]; rfl
theorem point_some (p : Int) : ∃ t, impl_isPoint.f p = some t := by
  unfold impl_isPoint.f
  repeat' split
  all_goals exact ⟨_, rfl⟩
theorem FnExactMirrorOf : laws_FnExactMirrorOf.Pure := by
  intro p hp
  refine ⟨9, ?_⟩
  unfold laws_FnExactMirrorOf.f impl_MirrorOf.f
  rw [spec_eq p, if_pos hp]
  obtain ⟨t, ht⟩ := point_some p
  have hs : spec_l01IsPoint.f p = some t := ht
  rw [ht, hs]
  simp only [Option.bind_some]
  by_cases c : (mir p).2 = true
  · rw [if_pos c]; simp only [Option.bind_some, if_true]
  · rw [if_neg c]
    cases t <;> simp

end Go.Proofs.YtpibhoaegbeonaaDoor.Pure

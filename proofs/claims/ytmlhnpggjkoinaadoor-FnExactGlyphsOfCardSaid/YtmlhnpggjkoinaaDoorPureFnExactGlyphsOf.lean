/- The program's GlyphsOf returns what the reference's returns. For every input: the law answers true; each argument reads afterwards as it read before. -/
import Derived.Test.YtmlhnpggjkoinaaDoorPFnExactGlyphsOfx
import Derived.Test.YtmlhnpggjkoinaaDoorGlyphsGlyphsOf
set_option linter.unusedSimpArgs false
set_option linter.unusedVariables false
namespace Go.Proofs.YtmlhnpggjkoinaaDoor.Pure
open Go.RowKit Go.Proofs.YtmlhnpggjkoinaaDoor.PFnExactGlyphsOf Go.Proofs.YtmlhnpggjkoinaaDoorW.PrintWords Go.Proofs.YtmlhnpggjkoinaaDoorW.PrintLast Go.Proofs.YtmlhnpggjkoinaaDoorW.PrintMore Go.Proofs.YtmlhnpggjkoinaaDoor.Lib

def glyphsOf (s : ByteArray) : List Gl := if (s.size : Int) > 65536 then [] else glyphsP s
theorem spec_ev (s : ByteArray) (hs : s.size ≤ 1048576) : Ev (fun k => spec_GlyphsOf.f k s) (glyphsOf s) := by
  unfold glyphsOf
  by_cases c : (s.size : Int) > 65536
  · rw [if_pos c]
    exact ev_same (Ev.now _) fun k => by unfold spec_GlyphsOf.f; rw [if_pos c]
  · rw [if_neg c]
    refine ev_same (glyphs_spec s hs) fun k => ?_
    unfold spec_GlyphsOf.f
    rw [if_neg c]
    cases spec_l10Glyphs.f k s <;> rfl
theorem impl_ev (s : ByteArray) (hs : s.size ≤ 1048576) : Ev (fun k => impl_GlyphsOf.f k s) (glyphsOf s) := by
  unfold glyphsOf
  by_cases c : (s.size : Int) > 65536
  · rw [if_pos c]
    exact ev_same (Ev.now _) fun k => by unfold impl_GlyphsOf.f impl_long.f; rw [decide_eq_true c]; rfl
  · rw [if_neg c]
    refine ev_same (glyphs_impl s hs) fun k => ?_
    unfold impl_GlyphsOf.f impl_long.f
    rw [decide_eq_false c, Option.bind_some, if_neg (by decide)]
    cases impl_glyphs.f k s <;> rfl
theorem FnExactGlyphsOf : laws_FnExactGlyphsOf.Pure := by
  intro s _
  by_cases c : (s.size : Int) > 1048576
  · refine ⟨1, ?_⟩
    unfold laws_FnExactGlyphsOf.f
    rw [if_pos c]
  · have hs : s.size ≤ 1048576 := by omega
    obtain ⟨K1, h1⟩ := spec_ev s hs
    obtain ⟨K2, h2⟩ := impl_ev s hs
    replace h1 : ∀ k, K1 ≤ k → spec_GlyphsOf.f k s = some (glyphsOf s) := h1
    replace h2 : ∀ k, K2 ≤ k → impl_GlyphsOf.f k s = some (glyphsOf s) := h2
    have hl : (glyphsOf s).length ≤ 1048577 := by
      have := pts_len s
      unfold glyphsOf
      split
      · simp
      · rw [glyphsP_len]; omega
    refine ⟨K1 + K2 + 2097352, ?_⟩
    unfold laws_FnExactGlyphsOf.f
    rw [if_neg c, h1 _ (by omega), Option.bind_some, h2 _ (by omega), Option.bind_some]
    clear h1 h2
    generalize glyphsOf s = l at hl
    rw [eqGlyphO_eq l _ (by omega) (by omega), Option.bind_some, if_pos rfl, markGlyphS_eq l _ (by omega) (by omega), Option.bind_some, heldGlyphS_eq l.length _ (by omega) (by omega), Option.bind_some, if_neg (by omega), if_pos rfl, Option.bind_some, eqGlyphO_eq l _ (by omega) (by omega), Option.bind_some, if_pos rfl, Option.bind_some, if_neg (by omega), if_pos rfl]
end Go.Proofs.YtmlhnpggjkoinaaDoor.Pure

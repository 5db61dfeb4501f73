/- To what a point joins: both texts' JoinsTo come to the same. -/
import Derived.Test.YtmlhnpggjkoinaaDoorKindGlyphsOf
set_option linter.unusedSimpArgs false
set_option linter.unusedVariables false
namespace Go.Proofs.YtmlhnpggjkoinaaDoor.PFnExactGlyphsOf
open Go.RowKit Go.Proofs.YtmlhnpggjkoinaaDoorW.PrintWords Go.Proofs.YtmlhnpggjkoinaaDoorW.PrintLast Go.Proofs.YtmlhnpggjkoinaaDoorW.PrintMore Go.Proofs.YtmlhnpggjkoinaaDoor.Lib

/-- To what a point joins. -/
def jt (p : Int) : Int := if 1280 ≤ p ∧ p ≤ 1311 then rd [3, 2, 3, 0] (p % 4) else if p = 7936 then 3 else if (kindOf p).1 = 3 then -1 else 0
/-- Is a point a letter that joins? -/
def lt5 (p : Int) : Bool := decide (1280 ≤ p ∧ p ≤ 1311)
theorem jlet_cat (p : Int) (h0 : 1280 ≤ p) (h1 : p ≤ 1311) : (kindOf p).1 = 7 := by
  obtain ⟨n, rfl⟩ : ∃ n : Nat, p = (n : Int) + 1280 := ⟨(p - 1280).toNat, by omega⟩
  have key : ∀ m : Fin 32, (kindOf ((m.val : Int) + 1280)).1 = 7 := by decide +kernel
  exact key ⟨n, by omega⟩
theorem jlet_rd (p : Int) (h0 : 1280 ≤ p) : (if 0 ≤ (Int.tmod p 4) then (if (Int.tmod p 4) < ((([3, 2, 3, 0] : List Int).length : Nat) : Int) then (some (rd [3, 2, 3, 0] (Int.tmod p 4))) else (none)) else (none)) = some (rd [3, 2, 3, 0] (p % 4)) := by
  have m : Int.tmod p 4 = p % 4 := Int.tmod_eq_emod_of_nonneg (by omega)
  rw [m, if_pos (by omega), if_pos (by simp; omega)]
theorem jin (p a b : Int) : impl_in.f p a b = some (decide (a ≤ p ∧ p ≤ b)) := by
  unfold impl_in.f
  by_cases h : p ≥ a
  · rw [if_pos h]; congr 1; apply decide_eq_decide.2; omega
  · rw [if_neg h]; congr 1; symm; apply decide_eq_false; omega
theorem jletter (p : Int) : spec_l10Letter.f p = some (lt5 p) := by
  unfold spec_l10Letter.f lt5
  by_cases h : p ≥ 1280
  · rw [if_pos h]; congr 1; apply decide_eq_decide.2; omega
  · rw [if_neg h]; congr 1; symm; apply decide_eq_false; omega
theorem joins_impl (k : Nat) (hk : 42 ≤ k) (p : Int) (hb : -9223372036854775808 ≤ p ∧ p ≤ 9223372036854775807) : impl_JoinsTo.f k p = some (jt p) := by
  unfold impl_JoinsTo.f impl_isMark.f impl_Category.f jt
  rw [kind_eq k (by omega) p hb]
  simp only [Option.bind_some, jin, decide_eq_true_eq, beq_iff_eq]
  by_cases h : 1280 ≤ p ∧ p ≤ 1311
  · rw [if_pos h, if_pos h, jlet_rd p h.1]
  · rw [if_neg h, if_neg h]
    by_cases h2 : p = 7936
    · rw [if_pos h2, if_pos h2]
    · rw [if_neg h2, if_neg h2]
      by_cases c : (kindOf p).1 = 3
      · rw [if_pos c, if_pos c]
      · rw [if_neg c, if_neg c]
theorem joins_spec (k : Nat) (hk : 42 ≤ k) (p : Int) (hb : -9223372036854775808 ≤ p ∧ p ≤ 9223372036854775807) : spec_JoinsTo.f k p = some (jt p) := by
  unfold spec_JoinsTo.f spec_l01Cat.f jt
  rw [known_eq k (by omega) p hb]
  simp only [Option.bind_some, jletter, lt5, decide_eq_true_eq]
  by_cases h : 1280 ≤ p ∧ p ≤ 1311
  · have e := jlet_cat p h.1 h.2
    rw [if_pos h, e, if_neg (by decide), if_neg (by omega), if_pos h, jlet_rd p h.1]
  · by_cases h2 : p = 7936
    · subst h2
      have e : (kindOf 7936).1 = 11 := by decide +kernel
      rw [e]; simp
    · by_cases c : (kindOf p).1 = 3
      · simp only [if_neg h, if_neg h2, if_pos c]
      · simp only [if_neg h, if_neg h2, if_neg c]

end Go.Proofs.YtmlhnpggjkoinaaDoor.PFnExactGlyphsOf

/- What a point's parts are, and theirs to the last: impl.parts, impl.decompose; spec.l05Parts, spec.l05All: both are `dcm`. -/
import Derived.Test.YtnbedmihgnjdpaaDoorPFnExactNormerFaultx
import Derived.Test.YtnbedmihgnjdpaaDoorLib
set_option linter.unusedSimpArgs false
set_option linter.unusedVariables false
namespace Go.Proofs.YtnbedmihgnjdpaaDoor.PFnExactNormerFault
open Go.RowKit Go.Proofs.YtnbedmihgnjdpaaDoorW.PrintWords Go.Proofs.YtnbedmihgnjdpaaDoorW.PrintLast Go.Proofs.YtnbedmihgnjdpaaDoorW.PrintMore Go.Proofs.YtnbedmihgnjdpaaDoor.Lib

def ltr (i : Int) : Int := if i < 26 then 65 + i else 71 + i
/-- A point's parts; none: it has none. -/
def parts (p : Int) (b : Bool) : List Int :=
  if 8192 ≤ p ∧ p ≤ 9631 ∧ p % 512 < 416 then
    (if p < 8704 then [ltr (p % 512 / 8), 4096 + p % 512 % 8] else if p < 9216 then [ltr (p % 512 / 8), 4112 + p % 512 % 8] else [8704 + p % 512, 4096])
  else if 9728 ≤ p ∧ p ≤ 9753 then [p - 9663]
  else if 12288 ≤ p ∧ p ≤ 23459 then
    (if (p - 12288) % 28 > 0 then [p - (p - 12288) % 28, 1856 + (p - 12288) % 28] else [1792 + (p - 12288) / 588, 1824 + (p - 12288) / 28 % 21])
  else if b = true then
    (if 9984 ≤ p ∧ p ≤ 10009 then [p - 9919] else if 10016 ≤ p ∧ p ≤ 10025 then [p - 9968] else if p = 8064 ∨ p = 160 then [32]
     else if p = 10032 then [102, 102] else if p = 10033 then [102, 105] else if p = 10034 then [102, 108] else if p = 10035 then [115, 116] else [])
  else []
theorem dinF (a b c : Int) : impl_in.f a b c = some (decide (b ≤ a ∧ a ≤ c)) := by
  unfold impl_in.f
  by_cases h : a ≥ b
  · rw [if_pos h]; congr 1; by_cases h2 : a ≤ c <;> simp [h2, h]
  · rw [if_neg h]; congr 1; simp; omega
theorem ite_t {α : Type} {c : Bool} (h : c = true) (x y : α) : (if c = true then x else y) = x := if_pos h
theorem ite_f {α : Type} {c : Bool} (h : c = false) (x y : α) : (if c = true then x else y) = y := if_neg (by simp [h])
theorem ltr_impl (i : Int) (h0 : 0 ≤ i) (h1 : i < 100) : impl_letter.f i = some (ltr i) := by
  unfold impl_letter.f ltr
  by_cases c : i < 26
  · rw [if_pos c, if_pos c, w64 (by omega) (by omega)]
  · rw [if_neg c, if_neg c, w64 (x := 97 + i) (by omega) (by omega), w64 (by omega) (by omega)]; congr 1; omega
theorem ltr_spec (i : Int) (h0 : 0 ≤ i) (h1 : i < 100) : spec_l05Letter.f i = some (ltr i) := ltr_impl i h0 h1
theorem parts_impl (p : Int) (hp : -9223372036854775808 ≤ p ∧ p ≤ 9223372036854775807) (b : Bool) (k : Nat) : impl_parts.f (k + 2) p b = some (parts p b) := by
  unfold impl_parts.f parts
  rw [dinF, Option.bind_some]
  by_cases c1 : 8192 ≤ p ∧ p ≤ 9631 ∧ p % 512 < 416
  · have w : wrap64 (p - 8192) = p - 8192 := w64 (by omega) (by omega)
    have m : Int.tmod (p - 8192) 512 = p % 512 := by rw [Int.tmod_eq_emod_of_nonneg (by omega)]; omega
    have q : Int.tdiv (p - 8192) 512 = (p - 8192) / 512 := Int.tdiv_eq_ediv_of_nonneg (by omega)
    have q8 : Int.tdiv (p % 512) 8 = p % 512 / 8 := Int.tdiv_eq_ediv_of_nonneg (by omega)
    have m8 : Int.tmod (p % 512) 8 = p % 512 % 8 := Int.tmod_eq_emod_of_nonneg (by omega)
    have wq : wrap64 ((p - 8192) / 512) = (p - 8192) / 512 := w64 (by omega) (by omega)
    have wl : wrap64 (p % 512 / 8) = p % 512 / 8 := w64 (by omega) (by omega)
    rw [ite_t (by simp; omega), if_pos c1, w, m, impl_parts.j0, ite_t (by simp; omega), w, m, q, q8, m8, wq, wl, ltr_impl _ (by omega) (by omega), Option.bind_some, Option.bind_some]
    by_cases d0 : p < 8704
    · rw [if_pos (by omega), if_pos d0, w64 (by omega) (by omega)]
    · by_cases d1 : p < 9216
      · rw [if_neg (by omega), if_pos (by omega), if_neg d0, if_pos d1, w64 (by omega) (by omega)]
      · rw [if_neg (by omega), if_neg (by omega), if_neg d0, if_neg d1, w64 (by omega) (by omega)]
  · rw [if_neg c1]
    have j : impl_parts.j0 (k + 2) p b false = some (if 9728 ≤ p ∧ p ≤ 9753 then [p - 9663]
        else if 12288 ≤ p ∧ p ≤ 23459 then
          (if (p - 12288) % 28 > 0 then [p - (p - 12288) % 28, 1856 + (p - 12288) % 28] else [1792 + (p - 12288) / 588, 1824 + (p - 12288) / 28 % 21])
        else if b = true then
          (if 9984 ≤ p ∧ p ≤ 10009 then [p - 9919] else if 10016 ≤ p ∧ p ≤ 10025 then [p - 9968] else if p = 8064 ∨ p = 160 then [32]
           else if p = 10032 then [102, 102] else if p = 10033 then [102, 105] else if p = 10034 then [102, 108] else if p = 10035 then [115, 116] else [])
        else []) := by
      rw [impl_parts.j0, ite_f rfl, dinF, Option.bind_some]
      by_cases e1 : 9728 ≤ p ∧ p ≤ 9753
      · rw [ite_t (by simp; omega), if_pos e1, w64 (x := 65 + p) (by omega) (by omega), w64 (by omega) (by omega)]; congr 2; omega
      · rw [ite_f (by simp; omega), if_neg e1, dinF, Option.bind_some]
        by_cases e2 : 12288 ≤ p ∧ p ≤ 23459
        · have w : wrap64 (p - 12288) = p - 12288 := w64 (by omega) (by omega)
          have m : Int.tmod (p - 12288) 28 = (p - 12288) % 28 := Int.tmod_eq_emod_of_nonneg (by omega)
          have q : Int.tdiv (p - 12288) 28 = (p - 12288) / 28 := Int.tdiv_eq_ediv_of_nonneg (by omega)
          have wq : wrap64 ((p - 12288) / 28) = (p - 12288) / 28 := w64 (by omega) (by omega)
          have q2 : Int.tdiv ((p - 12288) / 28) 21 = (p - 12288) / 588 := by rw [Int.tdiv_eq_ediv_of_nonneg (by omega)]; omega
          have m2 : Int.tmod ((p - 12288) / 28) 21 = (p - 12288) / 28 % 21 := Int.tmod_eq_emod_of_nonneg (by omega)
          have wq2 : wrap64 ((p - 12288) / 588) = (p - 12288) / 588 := w64 (by omega) (by omega)
          rw [ite_t (by simp; omega), if_pos e2, w, m, q, wq, q2, m2, wq2]
          by_cases d : (p - 12288) % 28 > 0
          · rw [if_pos d, if_pos d, w64 (by omega) (by omega), w64 (by omega) (by omega)]
          · rw [if_neg d, if_neg d, w64 (by omega) (by omega), w64 (by omega) (by omega)]
        · rw [ite_f (by simp; omega), if_neg e2]
          cases b with
          | false => rw [ite_f rfl, ite_f rfl]
          | true =>
            rw [ite_t rfl, ite_t rfl, dinF, Option.bind_some]
            by_cases e3 : 9984 ≤ p ∧ p ≤ 10009
            · rw [ite_t (by simp; omega), if_pos e3, w64 (x := 65 + p) (by omega) (by omega), w64 (by omega) (by omega)]; congr 2; omega
            · rw [ite_f (by simp; omega), if_neg e3, dinF, Option.bind_some]
              by_cases e4 : 10016 ≤ p ∧ p ≤ 10025
              · rw [ite_t (by simp; omega), if_pos e4, w64 (x := 48 + p) (by omega) (by omega), w64 (by omega) (by omega)]; congr 2; omega
              · rw [ite_f (by simp; omega), if_neg e4]
                by_cases e5 : p = 8064
                · rw [if_pos e5, if_pos (Or.inl e5), impl_parts.j1, ite_t rfl]
                · rw [if_neg e5]
                  by_cases e6 : p = 160
                  · rw [if_pos (Or.inr e6), impl_parts.j1, ite_t (by simp [e6])]
                  · rw [if_neg (by omega), impl_parts.j1, ite_f (by simp [e6]), dinF, Option.bind_some]
                    by_cases e7 : 10032 ≤ p ∧ p ≤ 10035
                    · rw [ite_t (by simp; omega)]
                      obtain rfl | rfl | rfl | rfl : p = 10032 ∨ p = 10033 ∨ p = 10034 ∨ p = 10035 := by omega
                      all_goals decide +kernel
                    · rw [ite_f (by simp; omega), if_neg (by omega), if_neg (by omega), if_neg (by omega), if_neg (by omega)]
    by_cases c2 : 8192 ≤ p ∧ p ≤ 9631
    · have w : wrap64 (p - 8192) = p - 8192 := w64 (by omega) (by omega)
      have m : Int.tmod (p - 8192) 512 = p % 512 := by rw [Int.tmod_eq_emod_of_nonneg (by omega)]; omega
      rw [ite_t (by simp; omega), w, m, show decide (p % 512 < 416) = false by simp; omega, j]
    · rw [ite_f (by simp; omega), j]
theorem wide_tab (p : Int) (e : 10032 ≤ p ∧ p ≤ 10035) (k : Nat) : spec_l05Wide.j2 (k + 1) p false = some (if p = 10032 then [102, 102] else if p = 10033 then [102, 105] else if p = 10034 then [102, 108] else if p = 10035 then [115, 116] else []) := by
  obtain rfl | rfl | rfl | rfl : p = 10032 ∨ p = 10033 ∨ p = 10034 ∨ p = 10035 := by omega
  all_goals (rw [spec_l05Wide.j2]; decide +kernel)
theorem wide_spec (p : Int) (hp : -9223372036854775808 ≤ p ∧ p ≤ 9223372036854775807) (k : Nat) : spec_l05Wide.f (k + 3) p = some (if 9984 ≤ p ∧ p ≤ 10009 then [p - 9919] else if 10016 ≤ p ∧ p ≤ 10025 then [p - 9968] else if p = 8064 ∨ p = 160 then [32]
     else if p = 10032 then [102, 102] else if p = 10033 then [102, 105] else if p = 10034 then [102, 108] else if p = 10035 then [115, 116] else []) := by
  have j1 : ∀ K, ¬ (9984 ≤ p ∧ p ≤ 10009) → ¬ (10016 ≤ p ∧ p ≤ 10025) → spec_l05Wide.j1 (K + 2) p false = some (if p = 8064 ∨ p = 160 then [32]
     else if p = 10032 then [102, 102] else if p = 10033 then [102, 105] else if p = 10034 then [102, 108] else if p = 10035 then [115, 116] else []) := by
    intro K e3 e4
    rw [spec_l05Wide.j1, ite_f rfl]
    by_cases e5 : p = 8064
    · rw [if_pos e5, if_pos (Or.inl e5), spec_l05Wide.j2, ite_t rfl]
    · rw [if_neg e5]
      by_cases e6 : p = 160
      · rw [if_pos (Or.inr e6), spec_l05Wide.j2, ite_t (by simp [e6])]
      · rw [if_neg (by omega), show (p == 160) = false by simp [e6]]
        by_cases e7 : 10032 ≤ p ∧ p ≤ 10035
        · rw [wide_tab p e7]
        · rw [if_neg (show ¬ p = 10032 by omega), if_neg (show ¬ p = 10033 by omega), if_neg (show ¬ p = 10034 by omega), if_neg (show ¬ p = 10035 by omega), spec_l05Wide.j2, ite_f rfl]
          by_cases a : p ≥ 10032
          · rw [if_pos a, if_neg (by omega)]
          · rw [if_neg a]
  have j0 : ∀ K, ¬ (9984 ≤ p ∧ p ≤ 10009) → spec_l05Wide.j0 (K + 3) p false = some (if 10016 ≤ p ∧ p ≤ 10025 then [p - 9968] else if p = 8064 ∨ p = 160 then [32]
     else if p = 10032 then [102, 102] else if p = 10033 then [102, 105] else if p = 10034 then [102, 108] else if p = 10035 then [115, 116] else []) := by
    intro K e3
    rw [spec_l05Wide.j0, ite_f rfl]
    by_cases e4 : 10016 ≤ p ∧ p ≤ 10025
    · rw [if_pos e4, if_pos e4.1, decide_eq_true e4.2, spec_l05Wide.j1, ite_t rfl, w64 (x := p - 10016) (by omega) (by omega), w64 (by omega) (by omega)]; congr 2; omega
    · rw [if_neg e4]
      by_cases a : p ≥ 10016
      · rw [if_pos a, show decide (p ≤ 10025) = false by simp; omega, j1 K e3 e4]
      · rw [if_neg a, j1 K e3 e4]
  unfold spec_l05Wide.f
  by_cases e3 : 9984 ≤ p ∧ p ≤ 10009
  · rw [if_pos e3, if_pos e3.1, decide_eq_true e3.2, spec_l05Wide.j0, ite_t rfl, w64 (x := p - 9984) (by omega) (by omega), w64 (by omega) (by omega)]; congr 2; omega
  · rw [if_neg e3]
    by_cases a : p ≥ 9984
    · rw [if_pos a, show decide (p ≤ 10009) = false by simp; omega, j0 k e3]
    · rw [if_neg a, j0 k e3]
theorem parts_spec (p : Int) (hp : -9223372036854775808 ≤ p ∧ p ≤ 9223372036854775807) (b : Bool) (k : Nat) : spec_l05Parts.f (k + 6) p b = some (parts p b) := by
  have j2 : ∀ K, ¬ (12288 ≤ p ∧ p ≤ 23459) → spec_l05Parts.j2 (K + 4) p b false = some (if b = true then
          (if 9984 ≤ p ∧ p ≤ 10009 then [p - 9919] else if 10016 ≤ p ∧ p ≤ 10025 then [p - 9968] else if p = 8064 ∨ p = 160 then [32]
           else if p = 10032 then [102, 102] else if p = 10033 then [102, 105] else if p = 10034 then [102, 108] else if p = 10035 then [115, 116] else [])
        else []) := by
    intro K e
    rw [spec_l05Parts.j2, ite_f rfl]
    cases b with
    | false => rw [ite_f rfl, ite_f rfl]
    | true => rw [ite_t rfl, ite_t rfl, wide_spec p hp, Option.bind_some]
  have j1 : ∀ K, ¬ (9728 ≤ p ∧ p ≤ 9753) → spec_l05Parts.j1 (K + 5) p b false = some (if 12288 ≤ p ∧ p ≤ 23459 then
          (if (p - 12288) % 28 > 0 then [p - (p - 12288) % 28, 1856 + (p - 12288) % 28] else [1792 + (p - 12288) / 588, 1824 + (p - 12288) / 28 % 21])
        else if b = true then
          (if 9984 ≤ p ∧ p ≤ 10009 then [p - 9919] else if 10016 ≤ p ∧ p ≤ 10025 then [p - 9968] else if p = 8064 ∨ p = 160 then [32]
           else if p = 10032 then [102, 102] else if p = 10033 then [102, 105] else if p = 10034 then [102, 108] else if p = 10035 then [115, 116] else [])
        else []) := by
    intro K e
    rw [spec_l05Parts.j1, ite_f rfl]
    by_cases e2 : 12288 ≤ p ∧ p ≤ 23459
    · have w : wrap64 (p - 12288) = p - 12288 := w64 (by omega) (by omega)
      have m : Int.tmod (p - 12288) 28 = (p - 12288) % 28 := Int.tmod_eq_emod_of_nonneg (by omega)
      have q : Int.tdiv (p - 12288) 28 = (p - 12288) / 28 := Int.tdiv_eq_ediv_of_nonneg (by omega)
      have wq : wrap64 ((p - 12288) / 28) = (p - 12288) / 28 := w64 (by omega) (by omega)
      have q2 : Int.tdiv (p - 12288) 588 = (p - 12288) / 588 := Int.tdiv_eq_ediv_of_nonneg (by omega)
      have m2 : Int.tmod ((p - 12288) / 28) 21 = (p - 12288) / 28 % 21 := Int.tmod_eq_emod_of_nonneg (by omega)
      have wq2 : wrap64 ((p - 12288) / 588) = (p - 12288) / 588 := w64 (by omega) (by omega)
      rw [if_pos e2.1, if_pos e2, decide_eq_true e2.2, spec_l05Parts.j2, ite_t rfl, w, m, q, wq, q2, m2, wq2]
      by_cases d : (p - 12288) % 28 > 0
      · rw [if_pos d, if_pos d, w64 (by omega) (by omega), w64 (by omega) (by omega)]
      · rw [if_neg d, if_neg d, w64 (by omega) (by omega), w64 (by omega) (by omega)]
    · rw [if_neg e2]
      by_cases a : p ≥ 12288
      · rw [if_pos a, show decide (p ≤ 23459) = false by simp; omega, j2 K e2]
      · rw [if_neg a, j2 K e2]
  have j0 : ∀ K n, spec_l05Parts.j0 (K + 6) p b n false = some (if 9728 ≤ p ∧ p ≤ 9753 then [p - 9663] else if 12288 ≤ p ∧ p ≤ 23459 then
          (if (p - 12288) % 28 > 0 then [p - (p - 12288) % 28, 1856 + (p - 12288) % 28] else [1792 + (p - 12288) / 588, 1824 + (p - 12288) / 28 % 21])
        else if b = true then
          (if 9984 ≤ p ∧ p ≤ 10009 then [p - 9919] else if 10016 ≤ p ∧ p ≤ 10025 then [p - 9968] else if p = 8064 ∨ p = 160 then [32]
           else if p = 10032 then [102, 102] else if p = 10033 then [102, 105] else if p = 10034 then [102, 108] else if p = 10035 then [115, 116] else [])
        else []) := by
    intro K n
    rw [spec_l05Parts.j0, ite_f rfl]
    by_cases e1 : 9728 ≤ p ∧ p ≤ 9753
    · rw [if_pos e1.1, if_pos e1, decide_eq_true e1.2, spec_l05Parts.j1, ite_t rfl, w64 (x := p - 9728) (by omega) (by omega), w64 (by omega) (by omega)]; congr 2; omega
    · rw [if_neg e1]
      by_cases a : p ≥ 9728
      · rw [if_pos a, show decide (p ≤ 9753) = false by simp; omega, j1 K e1]
      · rw [if_neg a, j1 K e1]
  unfold spec_l05Parts.f parts
  by_cases c1 : 8192 ≤ p ∧ p ≤ 9631 ∧ p % 512 < 416
  · have m : Int.tmod p 512 = p % 512 := Int.tmod_eq_emod_of_nonneg (by omega)
    have q : Int.tdiv p 512 = p / 512 := Int.tdiv_eq_ediv_of_nonneg (by omega)
    have q8 : Int.tdiv (p % 512) 8 = p % 512 / 8 := Int.tdiv_eq_ediv_of_nonneg (by omega)
    have m8 : Int.tmod (p % 512) 8 = p % 512 % 8 := Int.tmod_eq_emod_of_nonneg (by omega)
    have wq : wrap64 (p / 512) = p / 512 := w64 (by omega) (by omega)
    have wl : wrap64 (p % 512 / 8) = p % 512 / 8 := w64 (by omega) (by omega)
    rw [if_pos c1.1, if_pos (by omega), if_pos c1, m, decide_eq_true c1.2.2, spec_l05Parts.j0, ite_t rfl, q, q8, m8, wq, wl, ltr_spec _ (by omega) (by omega), Option.bind_some, Option.bind_some]
    by_cases d0 : p < 8704
    · rw [if_pos (by omega), if_pos d0, w64 (by omega) (by omega)]
    · by_cases d1 : p < 9216
      · rw [if_neg (by omega), if_pos (by omega), if_neg d0, if_pos d1, w64 (by omega) (by omega)]
      · rw [if_neg (by omega), if_neg (by omega), if_neg d0, if_neg d1, w64 (by omega) (by omega)]
  · rw [if_neg c1]
    by_cases a : p ≥ 8192
    · rw [if_pos a]
      by_cases a2 : p < 9728
      · have m : Int.tmod p 512 = p % 512 := Int.tmod_eq_emod_of_nonneg (by omega)
        rw [if_pos a2, m, show decide (p % 512 < 416) = false by simp; omega, j0]
      · rw [if_neg a2, j0]
    · rw [if_neg a, j0]

/-! to the last -/
theorem parts_small (p : Int) (h : p < 8064) (h2 : p ≠ 160) (b : Bool) : parts p b = [] := by
  unfold parts
  rw [if_neg (by omega), if_neg (by omega), if_neg (by omega), if_neg (show ¬ (9984 ≤ p ∧ p ≤ 10009) by omega), if_neg (show ¬ (10016 ≤ p ∧ p ≤ 10025) by omega), if_neg (show ¬ (p = 8064 ∨ p = 160) by omega), if_neg (show ¬ p = 10032 by omega), if_neg (show ¬ p = 10033 by omega), if_neg (show ¬ p = 10034 by omega), if_neg (show ¬ p = 10035 by omega)]
  split <;> rfl
/-- One step, to the points that are no parts' parts. -/
def dcm1 (p : Int) (b : Bool) : List Int := if parts p b = [] then [p] else parts p b
/-- A point's parts to the last. -/
def dcm (p : Int) (b : Bool) : List Int := if parts p b = [] then [p] else (parts p b).flatMap (fun q => dcm1 q b)
theorem parts_len (p : Int) (b : Bool) : (parts p b).length ≤ 2 := by
  unfold parts
  repeat' split
  all_goals simp
theorem ltr_lt (i : Int) (h0 : 0 ≤ i) (h1 : i < 52) : 65 ≤ ltr i ∧ ltr i ≤ 122 := by unfold ltr; split <;> omega
/-- The parts' shape: no part's part has parts. -/
theorem parts_deep (p : Int) (b : Bool) : ∀ q ∈ parts p b, (0 ≤ q ∧ q ≤ 23459) ∧ ∀ r ∈ parts q b, (0 ≤ r ∧ r < 8064) ∧ r ≠ 160 := by
  have small : ∀ q : Int, q < 8064 → q ≠ 160 → 0 ≤ q → (0 ≤ q ∧ q ≤ 23459) ∧ ∀ r ∈ parts q b, (0 ≤ r ∧ r < 8064) ∧ r ≠ 160 := by
    intro q h1 h2 h0
    rw [parts_small q h1 h2]
    exact ⟨⟨h0, by omega⟩, fun r hr => absurd hr (by simp)⟩
  have two : ∀ {P : Int → Prop} {x y : Int}, P x → P y → ∀ q ∈ [x, y], P q := by
    intro P x y hx hy q hq
    simp only [List.mem_cons, List.not_mem_nil, or_false] at hq
    rcases hq with rfl | rfl <;> assumption
  have one : ∀ {P : Int → Prop} {x : Int}, P x → ∀ q ∈ [x], P q := by
    intro P x hx q hq
    simp only [List.mem_cons, List.not_mem_nil, or_false] at hq
    subst hq; assumption
  unfold parts
  by_cases c1 : 8192 ≤ p ∧ p ≤ 9631 ∧ p % 512 < 416
  · rw [if_pos c1]
    have hl := ltr_lt (p % 512 / 8) (by omega) (by omega)
    by_cases d0 : p < 8704
    · rw [if_pos d0]
      exact two (small _ (by omega) (by omega) (by omega)) (small _ (by omega) (by omega) (by omega))
    · rw [if_neg d0]
      by_cases d1 : p < 9216
      · rw [if_pos d1]
        exact two (small _ (by omega) (by omega) (by omega)) (small _ (by omega) (by omega) (by omega))
      · rw [if_neg d1]
        refine two ⟨⟨by omega, by omega⟩, ?_⟩ (small _ (by omega) (by omega) (by omega))
        have hl2 := ltr_lt ((8704 + p % 512) % 512 / 8) (by omega) (by omega)
        rw [if_pos (by omega), if_neg (by omega), if_pos (by omega)]
        exact two ⟨⟨by omega, by omega⟩, by omega⟩ ⟨⟨by omega, by omega⟩, by omega⟩
  · rw [if_neg c1]
    by_cases c2 : 9728 ≤ p ∧ p ≤ 9753
    · rw [if_pos c2]; exact one (small _ (by omega) (by omega) (by omega))
    · rw [if_neg c2]
      by_cases c3 : 12288 ≤ p ∧ p ≤ 23459
      · rw [if_pos c3]
        by_cases d : (p - 12288) % 28 > 0
        · rw [if_pos d]
          refine two ⟨⟨by omega, by omega⟩, ?_⟩ (small _ (by omega) (by omega) (by omega))
          have hm : (p - (p - 12288) % 28 - 12288) % 28 = 0 := by omega
          rw [if_neg (by omega), if_neg (by omega), if_pos (by omega), if_neg (by omega)]
          exact two ⟨⟨by omega, by omega⟩, by omega⟩ ⟨⟨by omega, by omega⟩, by omega⟩
        · rw [if_neg d]
          exact two (small _ (by omega) (by omega) (by omega)) (small _ (by omega) (by omega) (by omega))
      · rw [if_neg c3]
        have nil : ∀ q ∈ ([] : List Int), (0 ≤ q ∧ q ≤ 23459) ∧ ∀ r ∈ parts q b, (0 ≤ r ∧ r < 8064) ∧ r ≠ 160 := fun q hq => absurd hq (by simp)
        unfold parts at small nil
        by_cases hb : b = true
        · rw [if_pos hb]
          by_cases e1 : 9984 ≤ p ∧ p ≤ 10009
          · rw [if_pos e1]; exact one (small _ (by omega) (by omega) (by omega))
          · rw [if_neg e1]
            by_cases e2 : 10016 ≤ p ∧ p ≤ 10025
            · rw [if_pos e2]; exact one (small _ (by omega) (by omega) (by omega))
            · rw [if_neg e2]
              by_cases e3 : p = 8064 ∨ p = 160
              · rw [if_pos e3]; exact one (small _ (by omega) (by omega) (by omega))
              · rw [if_neg e3]
                by_cases e4 : p = 10032
                · rw [if_pos e4]; exact two (small _ (by omega) (by omega) (by omega)) (small _ (by omega) (by omega) (by omega))
                · rw [if_neg e4]
                  by_cases e5 : p = 10033
                  · rw [if_pos e5]; exact two (small _ (by omega) (by omega) (by omega)) (small _ (by omega) (by omega) (by omega))
                  · rw [if_neg e5]
                    by_cases e6 : p = 10034
                    · rw [if_pos e6]; exact two (small _ (by omega) (by omega) (by omega)) (small _ (by omega) (by omega) (by omega))
                    · rw [if_neg e6]
                      by_cases e7 : p = 10035
                      · rw [if_pos e7]; exact two (small _ (by omega) (by omega) (by omega)) (small _ (by omega) (by omega) (by omega))
                      · rw [if_neg e7]; exact nil
        · rw [if_neg hb]; exact nil
theorem dcm1_len (p : Int) (b : Bool) : 1 ≤ (dcm1 p b).length ∧ (dcm1 p b).length ≤ 2 := by
  unfold dcm1
  have := parts_len p b
  by_cases c : parts p b = []
  · rw [if_pos c]; simp
  · rw [if_neg c]
    have : (parts p b).length ≠ 0 := fun e => c (List.length_eq_zero_iff.1 e)
    omega
theorem shape (l : List Int) (h : l.length ≤ 2) : l = [] ∨ (∃ x, l = [x]) ∨ (∃ x y, l = [x, y]) := by
  match l, h with
  | [], _ => exact .inl rfl
  | [x], _ => exact .inr (.inl ⟨x, rfl⟩)
  | [x, y], _ => exact .inr (.inr ⟨x, y, rfl⟩)
  | x :: y :: z :: l, h => simp at h
theorem flat_len (l : List Int) (b : Bool) : ((l.flatMap (fun q => dcm1 q b))).length ≤ 2 * l.length := by
  induction l with
  | nil => simp
  | cons x l ih =>
    have := dcm1_len x b
    rw [List.flatMap_cons, List.length_append, List.length_cons]
    omega
theorem flat_pos (l : List Int) (b : Bool) (h : l ≠ []) : 1 ≤ ((l.flatMap (fun q => dcm1 q b))).length := by
  cases l with
  | nil => exact absurd rfl h
  | cons x l =>
    have := dcm1_len x b
    rw [List.flatMap_cons, List.length_append]
    omega
theorem dcm_len (p : Int) (b : Bool) : 1 ≤ (dcm p b).length ∧ (dcm p b).length ≤ 4 := by
  unfold dcm
  by_cases c : parts p b = []
  · rw [if_pos c]; simp
  · rw [if_neg c]
    have h1 := flat_len (parts p b) b
    have h2 := flat_pos (parts p b) b c
    have h3 := parts_len p b
    omega
/-- A loop over a point's parts, in either text: what each gives is appended. -/
theorem impl_loop (b : Bool) (g : Int → List Int) (hg : ∀ q, (g q).length ≤ 4) (l : List Int) (h : l.length ≤ 2) (K : Nat) (hf : ∀ q ∈ l, ∀ j, impl_decompose.f (K + j) q b = some (g q)) :
    impl_decompose.l0 (K + 4) b [] l (l.length : Int) 0 = some (l.flatMap g) := by
  have w1 : wrap64 (0 + 1) = 1 := w64 (by omega) (by omega)
  have w2 : wrap64 (1 + 1) = 2 := w64 (by omega) (by omega)
  rcases shape l h with rfl | ⟨x, rfl⟩ | ⟨x, y, rfl⟩
  · rw [impl_decompose.l0]; rfl
  · have hx := hg x
    rw [impl_decompose.l0, if_pos (by simp), if_pos (by decide), if_pos (by simp), show rd [x] 0 = x from rfl, hf x (by simp) 3, Option.bind_some, if_pos (by simp; omega), w1, impl_decompose.l0, if_neg (by simp)]
    simp
  · have hx := hg x
    have hy := hg y
    rw [impl_decompose.l0, if_pos (by simp), if_pos (by decide), if_pos (by simp), show rd [x, y] 0 = x from rfl, hf x (by simp) 3, Option.bind_some, if_pos (by simp; omega), w1, impl_decompose.l0, if_pos (by simp), if_pos (by decide), if_pos (by simp), show rd [x, y] 1 = y from rfl, hf y (by simp) 2, Option.bind_some, if_pos (by simp; omega), w2, impl_decompose.l0, if_neg (by simp)]
    simp
theorem spec_loop (b : Bool) (g : Int → List Int) (hg : ∀ q, (g q).length ≤ 4) (l : List Int) (h : l.length ≤ 2) (K : Nat) (hf : ∀ q ∈ l, ∀ j, spec_l05All.f (K + j) q b = some (g q)) :
    spec_l05All.l0 (K + 4) b l [] 0 = some (l.flatMap g) := by
  have w1 : wrap64 (0 + 1) = 1 := w64 (by omega) (by omega)
  have w2 : wrap64 (1 + 1) = 2 := w64 (by omega) (by omega)
  rcases shape l h with rfl | ⟨x, rfl⟩ | ⟨x, y, rfl⟩
  · rw [spec_l05All.l0]; rfl
  · have hx := hg x
    rw [spec_l05All.l0, if_pos (by simp), if_pos (by decide), show rd [x] 0 = x from rfl, hf x (by simp) 3, Option.bind_some, if_pos (by simp; omega), w1, spec_l05All.l0, if_neg (by simp)]
    simp
  · have hx := hg x
    have hy := hg y
    rw [spec_l05All.l0, if_pos (by simp), if_pos (by decide), show rd [x, y] 0 = x from rfl, hf x (by simp) 3, Option.bind_some, if_pos (by simp; omega), w1, spec_l05All.l0, if_pos (by simp), if_pos (by decide), show rd [x, y] 1 = y from rfl, hf y (by simp) 2, Option.bind_some, if_pos (by simp; omega), w2, spec_l05All.l0, if_neg (by simp)]
    simp
theorem in64 {q : Int} (h : 0 ≤ q ∧ q ≤ 23459) : -9223372036854775808 ≤ q ∧ q ≤ 9223372036854775807 := by omega
theorem impl_leaf (p : Int) (hp : -9223372036854775808 ≤ p ∧ p ≤ 9223372036854775807) (b : Bool) (h : parts p b = []) (k : Nat) : impl_decompose.f (k + 3) p b = some [p] := by
  rw [impl_decompose.f, parts_impl p hp b k, h]; rfl
theorem spec_leaf (p : Int) (hp : -9223372036854775808 ≤ p ∧ p ≤ 9223372036854775807) (b : Bool) (h : parts p b = []) (k : Nat) : spec_l05All.f (k + 7) p b = some [p] := by
  rw [spec_l05All.f, parts_spec p hp b k, h]; rfl
theorem flat_id (l : List Int) : l.flatMap (fun q => [q]) = l := by induction l with | nil => rfl | cons x l ih => rw [List.flatMap_cons, ih]; rfl
theorem len_ne {l : List Int} (h : l ≠ []) : ¬ ((l.length : Int) = 0) := by
  intro e
  exact h (List.length_eq_zero_iff.1 (by omega))
theorem impl_dcm1 (q : Int) (hq : -9223372036854775808 ≤ q ∧ q ≤ 9223372036854775807) (b : Bool) (hd : ∀ r ∈ parts q b, (0 ≤ r ∧ r < 8064) ∧ r ≠ 160) (k : Nat) : impl_decompose.f (k + 8) q b = some (dcm1 q b) := by
  unfold dcm1
  by_cases c : parts q b = []
  · rw [if_pos c, show k + 8 = (k + 5) + 3 from rfl, impl_leaf q hq b c]
  · rw [if_neg c, impl_decompose.f, parts_impl q hq b (k + 5), Option.bind_some, if_neg (len_ne c), impl_loop b (fun q => [q]) (by simp) _ (parts_len q b) (k + 3) (fun r hr j => ?_), flat_id]
    have := hd r hr
    rw [show k + 3 + j = (k + j) + 3 by omega, impl_leaf r (by omega) b (parts_small r (by omega) this.2 b)]
theorem spec_dcm1 (q : Int) (hq : -9223372036854775808 ≤ q ∧ q ≤ 9223372036854775807) (b : Bool) (hd : ∀ r ∈ parts q b, (0 ≤ r ∧ r < 8064) ∧ r ≠ 160) (k : Nat) : spec_l05All.f (k + 12) q b = some (dcm1 q b) := by
  unfold dcm1
  by_cases c : parts q b = []
  · rw [if_pos c, show k + 12 = (k + 5) + 7 from rfl, spec_leaf q hq b c]
  · rw [if_neg c, spec_l05All.f, parts_spec q hq b (k + 5), Option.bind_some, if_neg (len_ne c), spec_loop b (fun q => [q]) (by simp) _ (parts_len q b) (k + 7) (fun r hr j => ?_), flat_id]
    have := hd r hr
    rw [show k + 7 + j = (k + j) + 7 by omega, spec_leaf r (by omega) b (parts_small r (by omega) this.2 b)]
theorem dcm1_le (q : Int) (b : Bool) : (dcm1 q b).length ≤ 4 := by have := dcm1_len q b; omega
theorem impl_dcm (p : Int) (hp : -9223372036854775808 ≤ p ∧ p ≤ 9223372036854775807) (b : Bool) (k : Nat) : impl_decompose.f (k + 13) p b = some (dcm p b) := by
  unfold dcm
  by_cases c : parts p b = []
  · rw [if_pos c, show k + 13 = (k + 10) + 3 from rfl, impl_leaf p hp b c]
  · rw [if_neg c, impl_decompose.f, parts_impl p hp b (k + 10), Option.bind_some, if_neg (len_ne c), impl_loop b (fun q => dcm1 q b) (fun q => dcm1_le q b) _ (parts_len p b) (k + 8) (fun q hq j => ?_)]
    have := parts_deep p b q hq
    rw [show k + 8 + j = (k + j) + 8 by omega, impl_dcm1 q (in64 this.1) b this.2]
theorem spec_dcm (p : Int) (hp : -9223372036854775808 ≤ p ∧ p ≤ 9223372036854775807) (b : Bool) (k : Nat) : spec_l05All.f (k + 17) p b = some (dcm p b) := by
  unfold dcm
  by_cases c : parts p b = []
  · rw [if_pos c, show k + 17 = (k + 10) + 7 from rfl, spec_leaf p hp b c]
  · rw [if_neg c, spec_l05All.f, parts_spec p hp b (k + 10), Option.bind_some, if_neg (len_ne c), spec_loop b (fun q => dcm1 q b) (fun q => dcm1_le q b) _ (parts_len p b) (k + 12) (fun q hq j => ?_)]
    have := parts_deep p b q hq
    rw [show k + 12 + j = (k + j) + 12 by omega, spec_dcm1 q (in64 this.1) b this.2]

end Go.Proofs.YtnbedmihgnjdpaaDoor.PFnExactNormerFault

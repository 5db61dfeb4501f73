/- What a point's parts are, and theirs to the last: impl.parts, impl.decompose; spec.l05Parts, spec.l05All: both are `dcm`. -/
import Derived.Test.YtnbedmihgnjdpaaDoorPFnExactCollatorFaultx
import Derived.Test.YtnbedmihgnjdpaaDoorLib
import Derived.Test.YtnbedmihgnjdpaaDoorStabR
import Derived.Test.YtnbedmihgnjdpaaDoorPointsCollatorFault
import Derived.Test.YtnbedmihgnjdpaaDoorWellW
set_option linter.unusedSimpArgs false
set_option linter.unusedVariables false
namespace Go.Proofs.YtnbedmihgnjdpaaDoor.PFnExactCollatorFault
open Go.RowKit Go.Proofs.YtnbedmihgnjdpaaDoorW.PrintWords Go.Proofs.YtnbedmihgnjdpaaDoorW.PrintLast Go.Proofs.YtnbedmihgnjdpaaDoorW.PrintMore Go.Proofs.YtnbedmihgnjdpaaDoor.Lib
def ltr (i : Int) : Int := if i < 26 then 65 + i else 71 + i
def parts (p : Int) (b : Bool) : List Int :=
  if 8192 ≤ p ∧ p ≤ 9631 ∧ p % 512 < 416 then
    (if p < 8704 then [ltr (p % 512 / 8), 4096 + p % 512 % 8] else if p < 9216 then [ltr (p % 512 / 8), 4112 + p % 512 % 8] else [8704 + p % 512, 4096])
  else if 9728 ≤ p ∧ p ≤ 9753 then [p - 9663]
  else if 12288 ≤ p ∧ p ≤ 23459 then
    (if (p - 12288) % 28 > 0 then [p - (p - 12288) % 28, 1856 + (p - 12288) % 28] else [1792 + (p - 12288) / 588, 1824 + (p - 12288) / 28 % 21])
  else if b = true then
    (if 9984 ≤ p ∧ p ≤ 10009 then [p - 9919] else if 10016 ≤ p ∧ p ≤ 10025 then [p - 9968] else if p = 8064 ∨ p = 160 then [32]
     else if p = 10032 then [102, 102] else if p = 10033 then [102, 105] else if p = 10034 then [102, 108] else if p = 10035 then [115, 116] else [])
  else []
theorem dinF (a b c : Int) : impl_in.f a b c = some (decide (b ≤ a ∧ a ≤ c)) := by
  unfold impl_in.f
  by_cases h : a ≥ b
  · rw [if_pos h]; congr 1; by_cases h2 : a ≤ c <;> simp [h2, h]
  · rw [if_neg h]; congr 1; simp; omega
theorem ite_t {α : Type} {c : Bool} (h : c = true) (x y : α) : (if c = true then x else y) = x := if_pos h
theorem ite_f {α : Type} {c : Bool} (h : c = false) (x y : α) : (if c = true then x else y) = y := if_neg (by simp [h])
theorem ltr_impl (i : Int) (h0 : 0 ≤ i) (h1 : i < 100) : impl_letter.f i = some (ltr i) := by
  unfold impl_letter.f ltr
  by_cases c : i < 26
  · rw [if_pos c, if_pos c, w64 (by omega) (by omega)]
  · rw [if_neg c, if_neg c, w64 (x := 97 + i) (by omega) (by omega), w64 (by omega) (by omega)]; congr 1; omega
theorem ltr_spec (i : Int) (h0 : 0 ≤ i) (h1 : i < 100) : spec_l05Letter.f i = some (ltr i) := ltr_impl i h0 h1
theorem parts_impl (p : Int) (hp : -9223372036854775808 ≤ p ∧ p ≤ 9223372036854775807) (b : Bool) (k : Nat) : impl_parts.f (k + 2) p b = some (parts p b) := by
  unfold impl_parts.f parts
  rw [dinF, Option.bind_some]
  by_cases c1 : 8192 ≤ p ∧ p ≤ 9631 ∧ p % 512 < 416
  · have w : wrap64 (p - 8192) = p - 8192 := w64 (by omega) (by omega)
    have m : Int.tmod (p - 8192) 512 = p % 512 := by rw [Int.tmod_eq_emod_of_nonneg (by omega)]; omega
    have q : Int.tdiv (p - 8192) 512 = (p - 8192) / 512 := Int.tdiv_eq_ediv_of_nonneg (by omega)
    have q8 : Int.tdiv (p % 512) 8 = p % 512 / 8 := Int.tdiv_eq_ediv_of_nonneg (by omega)
    have m8 : Int.tmod (p % 512) 8 = p % 512 % 8 := Int.tmod_eq_emod_of_nonneg (by omega)
    have wq : wrap64 ((p - 8192) / 512) = (p - 8192) / 512 := w64 (by omega) (by omega)
    have wl : wrap64 (p % 512 / 8) = p % 512 / 8 := w64 (by omega) (by omega)
    rw [ite_t (by simp; omega), if_pos c1, w, m, impl_parts.j0, ite_t (by simp; omega), w, m, q, q8, m8, wq, wl, ltr_impl _ (by omega) (by omega), Option.bind_some, Option.bind_some]
    by_cases d0 : p < 8704
    · rw [if_pos (by omega), if_pos d0, w64 (by omega) (by omega)]
    · by_cases d1 : p < 9216
      · rw [if_neg (by omega), if_pos (by omega), if_neg d0, if_pos d1, w64 (by omega) (by omega)]
      · rw [if_neg (by omega), if_neg (by omega), if_neg d0, if_neg d1, w64 (by omega) (by omega)]
  · rw [if_neg c1]
    have j : impl_parts.j0 (k + 2) p b false = some (if 9728 ≤ p ∧ p ≤ 9753 then [p - 9663]
        else if 12288 ≤ p ∧ p ≤ 23459 then
          (if (p - 12288) % 28 > 0 then [p - (p - 12288) % 28, 1856 + (p - 12288) % 28] else [1792 + (p - 12288) / 588, 1824 + (p - 12288) / 28 % 21])
        else if b = true then
          (if 9984 ≤ p ∧ p ≤ 10009 then [p - 9919] else if 10016 ≤ p ∧ p ≤ 10025 then [p - 9968] else if p = 8064 ∨ p = 160 then [32]
           else if p = 10032 then [102, 102] else if p = 10033 then [102, 105] else if p = 10034 then [102, 108] else if p = 10035 then [115, 116] else [])
        else []) := by
      rw [impl_parts.j0, ite_f rfl, dinF, Option.bind_some]
      by_cases e1 : 9728 ≤ p ∧ p ≤ 9753
      · rw [ite_t (by simp; omega), if_pos e1, w64 (x := 65 + p) (by omega) (by omega), w64 (by omega) (by omega)]; congr 2; omega
      · rw [ite_f (by simp; omega), if_neg e1, dinF, Option.bind_some]
        by_cases e2 : 12288 ≤ p ∧ p ≤ 23459
        · have w : wrap64 (p - 12288) = p - 12288 := w64 (by omega) (by omega)
          have m : Int.tmod (p - 12288) 28 = (p - 12288) % 28 := Int.tmod_eq_emod_of_nonneg (by omega)
          have q : Int.tdiv (p - 12288) 28 = (p - 12288) / 28 := Int.tdiv_eq_ediv_of_nonneg (by omega)
          have wq : wrap64 ((p - 12288) / 28) = (p - 12288) / 28 := w64 (by omega) (by omega)
          have q2 : Int.tdiv ((p - 12288) / 28) 21 = (p - 12288) / 588 := by rw [Int.tdiv_eq_ediv_of_nonneg (by omega)]; omega
          have m2 : Int.tmod ((p - 12288) / 28) 21 = (p - 12288) / 28 % 21 := Int.tmod_eq_emod_of_nonneg (by omega)
          have wq2 : wrap64 ((p - 12288) / 588) = (p - 12288) / 588 := w64 (by omega) (by omega)
          rw [ite_t (by simp; omega), if_pos e2, w, m, q, wq, q2, m2, wq2]
          by_cases d : (p - 12288) % 28 > 0
          · rw [if_pos d, if_pos d, w64 (by omega) (by omega), w64 (by omega) (by omega)]
          · rw [if_neg d, if_neg d, w64 (by omega) (by omega), w64 (by omega) (by omega)]
        · rw [ite_f (by simp; omega), if_neg e2]
          cases b with
          | false => rw [ite_f rfl, ite_f rfl]
          | true =>
            rw [ite_t rfl, ite_t rfl, dinF, Option.bind_some]
            by_cases e3 : 9984 ≤ p ∧ p ≤ 10009
            · rw [ite_t (by simp; omega), if_pos e3, w64 (x := 65 + p) (by omega) (by omega), w64 (by omega) (by omega)]; congr 2; omega
            · rw [ite_f (by simp; omega), if_neg e3, dinF, Option.bind_some]
              by_cases e4 : 10016 ≤ p ∧ p ≤ 10025
              · rw [ite_t (by simp; omega), if_pos e4, w64 (x := 48 + p) (by omega) (by omega), w64 (by omega) (by omega)]; congr 2; omega
              · rw [ite_f (by simp; omega), if_neg e4]
                by_cases e5 : p = 8064
                · rw [if_pos e5, if_pos (Or.inl e5), impl_parts.j1, ite_t rfl]
                · rw [if_neg e5]
                  by_cases e6 : p = 160
                  · rw [if_pos (Or.inr e6), impl_parts.j1, ite_t (by simp [e6])]
                  · rw [if_neg (by omega), impl_parts.j1, ite_f (by simp [e6]), dinF, Option.bind_some]
                    by_cases e7 : 10032 ≤ p ∧ p ≤ 10035
                    · rw [ite_t (by simp; omega)]
                      obtain rfl | rfl | rfl | rfl : p = 10032 ∨ p = 10033 ∨ p = 10034 ∨ p = 10035 := by omega
                      all_goals decide +kernel
                    · rw [ite_f (by simp; omega), if_neg (by omega), if_neg (by omega), if_neg (by omega), if_neg (by omega)]
    by_cases c2 : 8192 ≤ p ∧ p ≤ 9631
    · have w : wrap64 (p - 8192) = p - 8192 := w64 (by omega) (by omega)
      have m : Int.tmod (p - 8192) 512 = p % 512 := by rw [Int.tmod_eq_emod_of_nonneg (by omega)]; omega
      rw [ite_t (by simp; omega), w, m, show decide (p % 512 < 416) = false by simp; omega, j]
    · rw [ite_f (by simp; omega), j]
theorem wide_tab (p : Int) (e : 10032 ≤ p ∧ p ≤ 10035) (k : Nat) : spec_l05Wide.j2 (k + 1) p false = some (if p = 10032 then [102, 102] else if p = 10033 then [102, 105] else if p = 10034 then [102, 108] else if p = 10035 then [115, 116] else []) := by
  obtain rfl | rfl | rfl | rfl : p = 10032 ∨ p = 10033 ∨ p = 10034 ∨ p = 10035 := by omega
  all_goals (rw [spec_l05Wide.j2]; decide +kernel)
theorem wide_spec (p : Int) (hp : -9223372036854775808 ≤ p ∧ p ≤ 9223372036854775807) (k : Nat) : spec_l05Wide.f (k + 3) p = some (if 9984 ≤ p ∧ p ≤ 10009 then [p - 9919] else if 10016 ≤ p ∧ p ≤ 10025 then [p - 9968] else if p = 8064 ∨ p = 160 then [32]
     else if p = 10032 then [102, 102] else if p = 10033 then [102, 105] else if p = 10034 then [102, 108] else if p = 10035 then [115, 116] else []) := by
  have j1 : ∀ K, ¬ (9984 ≤ p ∧ p ≤ 10009) → ¬ (10016 ≤ p ∧ p ≤ 10025) → spec_l05Wide.j1 (K + 2) p false = some (if p = 8064 ∨ p = 160 then [32]
     else if p = 10032 then [102, 102] else if p = 10033 then [102, 105] else if p = 10034 then [102, 108] else if p = 10035 then [115, 116] else []) := by
    intro K e3 e4
    rw [spec_l05Wide.j1, ite_f rfl]
    by_cases e5 : p = 8064
    · rw [if_pos e5, if_pos (Or.inl e5), spec_l05Wide.j2, ite_t rfl]
    · rw [if_neg e5]
      by_cases e6 : p = 160
      · rw [if_pos (Or.inr e6), spec_l05Wide.j2, ite_t (by simp [e6])]
      · rw [if_neg (by omega), show (p == 160) = false by simp [e6]]
        by_cases e7 : 10032 ≤ p ∧ p ≤ 10035
        · rw [wide_tab p e7]
        · rw [if_neg (show ¬ p = 10032 by omega), if_neg (show ¬ p = 10033 by omega), if_neg (show ¬ p = 10034 by omega), if_neg (show ¬ p = 10035 by omega), spec_l05Wide.j2, ite_f rfl]
          by_cases a : p ≥ 10032
          · rw [if_pos a, if_neg (by omega)]
          · rw [if_neg a]
  have j0 : ∀ K, ¬ (9984 ≤ p ∧ p ≤ 10009) → spec_l05Wide.j0 (K + 3) p false = some (if 10016 ≤ p ∧ p ≤ 10025 then [p - 9968] else if p = 8064 ∨ p = 160 then [32]
     else if p = 10032 then [102, 102] else if p = 10033 then [102, 105] else if p = 10034 then [102, 108] else if p = 10035 then [115, 116] else []) := by
    intro K e3
    rw [spec_l05Wide.j0, ite_f rfl]
    by_cases e4 : 10016 ≤ p ∧ p ≤ 10025
    · rw [if_pos e4, if_pos e4.1, decide_eq_true e4.2, spec_l05Wide.j1, ite_t rfl, w64 (x := p - 10016) (by omega) (by omega), w64 (by omega) (by omega)]; congr 2; omega
    · rw [if_neg e4]
      by_cases a : p ≥ 10016
      · rw [if_pos a, show decide (p ≤ 10025) = false by simp; omega, j1 K e3 e4]
      · rw [if_neg a, j1 K e3 e4]
  unfold spec_l05Wide.f
  by_cases e3 : 9984 ≤ p ∧ p ≤ 10009
  · rw [if_pos e3, if_pos e3.1, decide_eq_true e3.2, spec_l05Wide.j0, ite_t rfl, w64 (x := p - 9984) (by omega) (by omega), w64 (by omega) (by omega)]; congr 2; omega
  · rw [if_neg e3]
    by_cases a : p ≥ 9984
    · rw [if_pos a, show decide (p ≤ 10009) = false by simp; omega, j0 k e3]
    · rw [if_neg a, j0 k e3]
theorem parts_spec (p : Int) (hp : -9223372036854775808 ≤ p ∧ p ≤ 9223372036854775807) (b : Bool) (k : Nat) : spec_l05Parts.f (k + 6) p b = some (parts p b) := by
  have j2 : ∀ K, ¬ (12288 ≤ p ∧ p ≤ 23459) → spec_l05Parts.j2 (K + 4) p b false = some (if b = true then
          (if 9984 ≤ p ∧ p ≤ 10009 then [p - 9919] else if 10016 ≤ p ∧ p ≤ 10025 then [p - 9968] else if p = 8064 ∨ p = 160 then [32]
           else if p = 10032 then [102, 102] else if p = 10033 then [102, 105] else if p = 10034 then [102, 108] else if p = 10035 then [115, 116] else [])
        else []) := by
    intro K e
    rw [spec_l05Parts.j2, ite_f rfl]
    cases b with
    | false => rw [ite_f rfl, ite_f rfl]
    | true => rw [ite_t rfl, ite_t rfl, wide_spec p hp, Option.bind_some]
  have j1 : ∀ K, ¬ (9728 ≤ p ∧ p ≤ 9753) → spec_l05Parts.j1 (K + 5) p b false = some (if 12288 ≤ p ∧ p ≤ 23459 then
          (if (p - 12288) % 28 > 0 then [p - (p - 12288) % 28, 1856 + (p - 12288) % 28] else [1792 + (p - 12288) / 588, 1824 + (p - 12288) / 28 % 21])
        else if b = true then
          (if 9984 ≤ p ∧ p ≤ 10009 then [p - 9919] else if 10016 ≤ p ∧ p ≤ 10025 then [p - 9968] else if p = 8064 ∨ p = 160 then [32]
           else if p = 10032 then [102, 102] else if p = 10033 then [102, 105] else if p = 10034 then [102, 108] else if p = 10035 then [115, 116] else [])
        else []) := by
    intro K e
    rw [spec_l05Parts.j1, ite_f rfl]
    by_cases e2 : 12288 ≤ p ∧ p ≤ 23459
    · have w : wrap64 (p - 12288) = p - 12288 := w64 (by omega) (by omega)
      have m : Int.tmod (p - 12288) 28 = (p - 12288) % 28 := Int.tmod_eq_emod_of_nonneg (by omega)
      have q : Int.tdiv (p - 12288) 28 = (p - 12288) / 28 := Int.tdiv_eq_ediv_of_nonneg (by omega)
      have wq : wrap64 ((p - 12288) / 28) = (p - 12288) / 28 := w64 (by omega) (by omega)
      have q2 : Int.tdiv (p - 12288) 588 = (p - 12288) / 588 := Int.tdiv_eq_ediv_of_nonneg (by omega)
      have m2 : Int.tmod ((p - 12288) / 28) 21 = (p - 12288) / 28 % 21 := Int.tmod_eq_emod_of_nonneg (by omega)
      have wq2 : wrap64 ((p - 12288) / 588) = (p - 12288) / 588 := w64 (by omega) (by omega)
      rw [if_pos e2.1, if_pos e2, decide_eq_true e2.2, spec_l05Parts.j2, ite_t rfl, w, m, q, wq, q2, m2, wq2]
      by_cases d : (p - 12288) % 28 > 0
      · rw [if_pos d, if_pos d, w64 (by omega) (by omega), w64 (by omega) (by omega)]
      · rw [if_neg d, if_neg d, w64 (by omega) (by omega), w64 (by omega) (by omega)]
    · rw [if_neg e2]
      by_cases a : p ≥ 12288
      · rw [if_pos a, show decide (p ≤ 23459) = false by simp; omega, j2 K e2]
      · rw [if_neg a, j2 K e2]
  have j0 : ∀ K n, spec_l05Parts.j0 (K + 6) p b n false = some (if 9728 ≤ p ∧ p ≤ 9753 then [p - 9663] else if 12288 ≤ p ∧ p ≤ 23459 then
          (if (p - 12288) % 28 > 0 then [p - (p - 12288) % 28, 1856 + (p - 12288) % 28] else [1792 + (p - 12288) / 588, 1824 + (p - 12288) / 28 % 21])
        else if b = true then
          (if 9984 ≤ p ∧ p ≤ 10009 then [p - 9919] else if 10016 ≤ p ∧ p ≤ 10025 then [p - 9968] else if p = 8064 ∨ p = 160 then [32]
           else if p = 10032 then [102, 102] else if p = 10033 then [102, 105] else if p = 10034 then [102, 108] else if p = 10035 then [115, 116] else [])
        else []) := by
    intro K n
    rw [spec_l05Parts.j0, ite_f rfl]
    by_cases e1 : 9728 ≤ p ∧ p ≤ 9753
    · rw [if_pos e1.1, if_pos e1, decide_eq_true e1.2, spec_l05Parts.j1, ite_t rfl, w64 (x := p - 9728) (by omega) (by omega), w64 (by omega) (by omega)]; congr 2; omega
    · rw [if_neg e1]
      by_cases a : p ≥ 9728
      · rw [if_pos a, show decide (p ≤ 9753) = false by simp; omega, j1 K e1]
      · rw [if_neg a, j1 K e1]
  unfold spec_l05Parts.f parts
  by_cases c1 : 8192 ≤ p ∧ p ≤ 9631 ∧ p % 512 < 416
  · have m : Int.tmod p 512 = p % 512 := Int.tmod_eq_emod_of_nonneg (by omega)
    have q : Int.tdiv p 512 = p / 512 := Int.tdiv_eq_ediv_of_nonneg (by omega)
    have q8 : Int.tdiv (p % 512) 8 = p % 512 / 8 := Int.tdiv_eq_ediv_of_nonneg (by omega)
    have m8 : Int.tmod (p % 512) 8 = p % 512 % 8 := Int.tmod_eq_emod_of_nonneg (by omega)
    have wq : wrap64 (p / 512) = p / 512 := w64 (by omega) (by omega)
    have wl : wrap64 (p % 512 / 8) = p % 512 / 8 := w64 (by omega) (by omega)
    rw [if_pos c1.1, if_pos (by omega), if_pos c1, m, decide_eq_true c1.2.2, spec_l05Parts.j0, ite_t rfl, q, q8, m8, wq, wl, ltr_spec _ (by omega) (by omega), Option.bind_some, Option.bind_some]
    by_cases d0 : p < 8704
    · rw [if_pos (by omega), if_pos d0, w64 (by omega) (by omega)]
    · by_cases d1 : p < 9216
      · rw [if_neg (by omega), if_pos (by omega), if_neg d0, if_pos d1, w64 (by omega) (by omega)]
      · rw [if_neg (by omega), if_neg (by omega), if_neg d0, if_neg d1, w64 (by omega) (by omega)]
  · rw [if_neg c1]
    by_cases a : p ≥ 8192
    · rw [if_pos a]
      by_cases a2 : p < 9728
      · have m : Int.tmod p 512 = p % 512 := Int.tmod_eq_emod_of_nonneg (by omega)
        rw [if_pos a2, m, show decide (p % 512 < 416) = false by simp; omega, j0]
      · rw [if_neg a2, j0]
    · rw [if_neg a, j0]
theorem parts_small (p : Int) (h : p < 8064) (h2 : p ≠ 160) (b : Bool) : parts p b = [] := by
  unfold parts
  rw [if_neg (by omega), if_neg (by omega), if_neg (by omega), if_neg (show ¬ (9984 ≤ p ∧ p ≤ 10009) by omega), if_neg (show ¬ (10016 ≤ p ∧ p ≤ 10025) by omega), if_neg (show ¬ (p = 8064 ∨ p = 160) by omega), if_neg (show ¬ p = 10032 by omega), if_neg (show ¬ p = 10033 by omega), if_neg (show ¬ p = 10034 by omega), if_neg (show ¬ p = 10035 by omega)]
  split <;> rfl
def dcm1 (p : Int) (b : Bool) : List Int := if parts p b = [] then [p] else parts p b
def dcm (p : Int) (b : Bool) : List Int := if parts p b = [] then [p] else (parts p b).flatMap (fun q => dcm1 q b)
theorem parts_len (p : Int) (b : Bool) : (parts p b).length ≤ 2 := by
  unfold parts
  repeat' split
  all_goals simp
theorem ltr_lt (i : Int) (h0 : 0 ≤ i) (h1 : i < 52) : 65 ≤ ltr i ∧ ltr i ≤ 122 := by unfold ltr; split <;> omega
theorem parts_deep (p : Int) (b : Bool) : ∀ q ∈ parts p b, (0 ≤ q ∧ q ≤ 23459) ∧ ∀ r ∈ parts q b, (0 ≤ r ∧ r < 8064) ∧ r ≠ 160 := by
  have small : ∀ q : Int, q < 8064 → q ≠ 160 → 0 ≤ q → (0 ≤ q ∧ q ≤ 23459) ∧ ∀ r ∈ parts q b, (0 ≤ r ∧ r < 8064) ∧ r ≠ 160 := by
    intro q h1 h2 h0
    rw [parts_small q h1 h2]
    exact ⟨⟨h0, by omega⟩, fun r hr => absurd hr (by simp)⟩
  have two : ∀ {P : Int → Prop} {x y : Int}, P x → P y → ∀ q ∈ [x, y], P q := by
    intro P x y hx hy q hq
    simp only [List.mem_cons, List.not_mem_nil, or_false] at hq
    rcases hq with rfl | rfl <;> assumption
  have one : ∀ {P : Int → Prop} {x : Int}, P x → ∀ q ∈ [x], P q := by
    intro P x hx q hq
    simp only [List.mem_cons, List.not_mem_nil, or_false] at hq
    subst hq; assumption
  unfold parts
  by_cases c1 : 8192 ≤ p ∧ p ≤ 9631 ∧ p % 512 < 416
  · rw [if_pos c1]
    have hl := ltr_lt (p % 512 / 8) (by omega) (by omega)
    by_cases d0 : p < 8704
    · rw [if_pos d0]
      exact two (small _ (by omega) (by omega) (by omega)) (small _ (by omega) (by omega) (by omega))
    · rw [if_neg d0]
      by_cases d1 : p < 9216
      · rw [if_pos d1]
        exact two (small _ (by omega) (by omega) (by omega)) (small _ (by omega) (by omega) (by omega))
      · rw [if_neg d1]
        refine two ⟨⟨by omega, by omega⟩, ?_⟩ (small _ (by omega) (by omega) (by omega))
        have hl2 := ltr_lt ((8704 + p % 512) % 512 / 8) (by omega) (by omega)
        rw [if_pos (by omega), if_neg (by omega), if_pos (by omega)]
        exact two ⟨⟨by omega, by omega⟩, by omega⟩ ⟨⟨by omega, by omega⟩, by omega⟩
  · rw [if_neg c1]
    by_cases c2 : 9728 ≤ p ∧ p ≤ 9753
    · rw [if_pos c2]; exact one (small _ (by omega) (by omega) (by omega))
    · rw [if_neg c2]
      by_cases c3 : 12288 ≤ p ∧ p ≤ 23459
      · rw [if_pos c3]
        by_cases d : (p - 12288) % 28 > 0
        · rw [if_pos d]
          refine two ⟨⟨by omega, by omega⟩, ?_⟩ (small _ (by omega) (by omega) (by omega))
          have hm : (p - (p - 12288) % 28 - 12288) % 28 = 0 := by omega
          rw [if_neg (by omega), if_neg (by omega), if_pos (by omega), if_neg (by omega)]
          exact two ⟨⟨by omega, by omega⟩, by omega⟩ ⟨⟨by omega, by omega⟩, by omega⟩
        · rw [if_neg d]
          exact two (small _ (by omega) (by omega) (by omega)) (small _ (by omega) (by omega) (by omega))
      · rw [if_neg c3]
        have nil : ∀ q ∈ ([] : List Int), (0 ≤ q ∧ q ≤ 23459) ∧ ∀ r ∈ parts q b, (0 ≤ r ∧ r < 8064) ∧ r ≠ 160 := fun q hq => absurd hq (by simp)
        unfold parts at small nil
        by_cases hb : b = true
        · rw [if_pos hb]
          by_cases e1 : 9984 ≤ p ∧ p ≤ 10009
          · rw [if_pos e1]; exact one (small _ (by omega) (by omega) (by omega))
          · rw [if_neg e1]
            by_cases e2 : 10016 ≤ p ∧ p ≤ 10025
            · rw [if_pos e2]; exact one (small _ (by omega) (by omega) (by omega))
            · rw [if_neg e2]
              by_cases e3 : p = 8064 ∨ p = 160
              · rw [if_pos e3]; exact one (small _ (by omega) (by omega) (by omega))
              · rw [if_neg e3]
                by_cases e4 : p = 10032
                · rw [if_pos e4]; exact two (small _ (by omega) (by omega) (by omega)) (small _ (by omega) (by omega) (by omega))
                · rw [if_neg e4]
                  by_cases e5 : p = 10033
                  · rw [if_pos e5]; exact two (small _ (by omega) (by omega) (by omega)) (small _ (by omega) (by omega) (by omega))
                  · rw [if_neg e5]
                    by_cases e6 : p = 10034
                    · rw [if_pos e6]; exact two (small _ (by omega) (by omega) (by omega)) (small _ (by omega) (by omega) (by omega))
                    · rw [if_neg e6]
                      by_cases e7 : p = 10035
                      · rw [if_pos e7]; exact two (small _ (by omega) (by omega) (by omega)) (small _ (by omega) (by omega) (by omega))
                      · rw [if_neg e7]; exact nil
        · rw [if_neg hb]; exact nil
theorem dcm1_len (p : Int) (b : Bool) : 1 ≤ (dcm1 p b).length ∧ (dcm1 p b).length ≤ 2 := by
  unfold dcm1
  have := parts_len p b
  by_cases c : parts p b = []
  · rw [if_pos c]; simp
  · rw [if_neg c]
    have : (parts p b).length ≠ 0 := fun e => c (List.length_eq_zero_iff.1 e)
    omega
theorem shape (l : List Int) (h : l.length ≤ 2) : l = [] ∨ (∃ x, l = [x]) ∨ (∃ x y, l = [x, y]) := by
  match l, h with
  | [], _ => exact .inl rfl
  | [x], _ => exact .inr (.inl ⟨x, rfl⟩)
  | [x, y], _ => exact .inr (.inr ⟨x, y, rfl⟩)
  | x :: y :: z :: l, h => simp at h
theorem flat_len (l : List Int) (b : Bool) : ((l.flatMap (fun q => dcm1 q b))).length ≤ 2 * l.length := by
  induction l with
  | nil => simp
  | cons x l ih =>
    have := dcm1_len x b
    rw [List.flatMap_cons, List.length_append, List.length_cons]
    omega
theorem flat_pos (l : List Int) (b : Bool) (h : l ≠ []) : 1 ≤ ((l.flatMap (fun q => dcm1 q b))).length := by
  cases l with
  | nil => exact absurd rfl h
  | cons x l =>
    have := dcm1_len x b
    rw [List.flatMap_cons, List.length_append]
    omega
theorem dcm_len (p : Int) (b : Bool) : 1 ≤ (dcm p b).length ∧ (dcm p b).length ≤ 4 := by
  unfold dcm
  by_cases c : parts p b = []
  · rw [if_pos c]; simp
  · rw [if_neg c]
    have h1 := flat_len (parts p b) b
    have h2 := flat_pos (parts p b) b c
    have h3 := parts_len p b
    omega
theorem impl_loop (b : Bool) (g : Int → List Int) (hg : ∀ q, (g q).length ≤ 4) (l : List Int) (h : l.length ≤ 2) (K : Nat) (hf : ∀ q ∈ l, ∀ j, impl_decompose.f (K + j) q b = some (g q)) :
    impl_decompose.l0 (K + 4) b [] l (l.length : Int) 0 = some (l.flatMap g) := by
  have w1 : wrap64 (0 + 1) = 1 := w64 (by omega) (by omega)
  have w2 : wrap64 (1 + 1) = 2 := w64 (by omega) (by omega)
  rcases shape l h with rfl | ⟨x, rfl⟩ | ⟨x, y, rfl⟩
  · rw [impl_decompose.l0]; rfl
  · have hx := hg x
    rw [impl_decompose.l0, if_pos (by simp), if_pos (by decide), if_pos (by simp), show rd [x] 0 = x from rfl, hf x (by simp) 3, Option.bind_some, if_pos (by simp; omega), w1, impl_decompose.l0, if_neg (by simp)]
    simp
  · have hx := hg x
    have hy := hg y
    rw [impl_decompose.l0, if_pos (by simp), if_pos (by decide), if_pos (by simp), show rd [x, y] 0 = x from rfl, hf x (by simp) 3, Option.bind_some, if_pos (by simp; omega), w1, impl_decompose.l0, if_pos (by simp), if_pos (by decide), if_pos (by simp), show rd [x, y] 1 = y from rfl, hf y (by simp) 2, Option.bind_some, if_pos (by simp; omega), w2, impl_decompose.l0, if_neg (by simp)]
    simp
theorem spec_loop (b : Bool) (g : Int → List Int) (hg : ∀ q, (g q).length ≤ 4) (l : List Int) (h : l.length ≤ 2) (K : Nat) (hf : ∀ q ∈ l, ∀ j, spec_l05All.f (K + j) q b = some (g q)) :
    spec_l05All.l0 (K + 4) b l [] 0 = some (l.flatMap g) := by
  have w1 : wrap64 (0 + 1) = 1 := w64 (by omega) (by omega)
  have w2 : wrap64 (1 + 1) = 2 := w64 (by omega) (by omega)
  rcases shape l h with rfl | ⟨x, rfl⟩ | ⟨x, y, rfl⟩
  · rw [spec_l05All.l0]; rfl
  · have hx := hg x
    rw [spec_l05All.l0, if_pos (by simp), if_pos (by decide), show rd [x] 0 = x from rfl, hf x (by simp) 3, Option.bind_some, if_pos (by simp; omega), w1, spec_l05All.l0, if_neg (by simp)]
    simp
  · have hx := hg x
    have hy := hg y
    rw [spec_l05All.l0, if_pos (by simp), if_pos (by decide), show rd [x, y] 0 = x from rfl, hf x (by simp) 3, Option.bind_some, if_pos (by simp; omega), w1, spec_l05All.l0, if_pos (by simp), if_pos (by decide), show rd [x, y] 1 = y from rfl, hf y (by simp) 2, Option.bind_some, if_pos (by simp; omega), w2, spec_l05All.l0, if_neg (by simp)]
    simp
theorem in64 {q : Int} (h : 0 ≤ q ∧ q ≤ 23459) : -9223372036854775808 ≤ q ∧ q ≤ 9223372036854775807 := by omega
theorem impl_leaf (p : Int) (hp : -9223372036854775808 ≤ p ∧ p ≤ 9223372036854775807) (b : Bool) (h : parts p b = []) (k : Nat) : impl_decompose.f (k + 3) p b = some [p] := by
  rw [impl_decompose.f, parts_impl p hp b k, h]; rfl
theorem spec_leaf (p : Int) (hp : -9223372036854775808 ≤ p ∧ p ≤ 9223372036854775807) (b : Bool) (h : parts p b = []) (k : Nat) : spec_l05All.f (k + 7) p b = some [p] := by
  rw [spec_l05All.f, parts_spec p hp b k, h]; rfl
theorem flat_id (l : List Int) : l.flatMap (fun q => [q]) = l := by induction l with | nil => rfl | cons x l ih => rw [List.flatMap_cons, ih]; rfl
theorem len_ne {l : List Int} (h : l ≠ []) : ¬ ((l.length : Int) = 0) := by
  intro e
  exact h (List.length_eq_zero_iff.1 (by omega))
theorem impl_dcm1 (q : Int) (hq : -9223372036854775808 ≤ q ∧ q ≤ 9223372036854775807) (b : Bool) (hd : ∀ r ∈ parts q b, (0 ≤ r ∧ r < 8064) ∧ r ≠ 160) (k : Nat) : impl_decompose.f (k + 8) q b = some (dcm1 q b) := by
  unfold dcm1
  by_cases c : parts q b = []
  · rw [if_pos c, show k + 8 = (k + 5) + 3 from rfl, impl_leaf q hq b c]
  · rw [if_neg c, impl_decompose.f, parts_impl q hq b (k + 5), Option.bind_some, if_neg (len_ne c), impl_loop b (fun q => [q]) (by simp) _ (parts_len q b) (k + 3) (fun r hr j => ?_), flat_id]
    have := hd r hr
    rw [show k + 3 + j = (k + j) + 3 by omega, impl_leaf r (by omega) b (parts_small r (by omega) this.2 b)]
theorem spec_dcm1 (q : Int) (hq : -9223372036854775808 ≤ q ∧ q ≤ 9223372036854775807) (b : Bool) (hd : ∀ r ∈ parts q b, (0 ≤ r ∧ r < 8064) ∧ r ≠ 160) (k : Nat) : spec_l05All.f (k + 12) q b = some (dcm1 q b) := by
  unfold dcm1
  by_cases c : parts q b = []
  · rw [if_pos c, show k + 12 = (k + 5) + 7 from rfl, spec_leaf q hq b c]
  · rw [if_neg c, spec_l05All.f, parts_spec q hq b (k + 5), Option.bind_some, if_neg (len_ne c), spec_loop b (fun q => [q]) (by simp) _ (parts_len q b) (k + 7) (fun r hr j => ?_), flat_id]
    have := hd r hr
    rw [show k + 7 + j = (k + j) + 7 by omega, spec_leaf r (by omega) b (parts_small r (by omega) this.2 b)]
theorem dcm1_le (q : Int) (b : Bool) : (dcm1 q b).length ≤ 4 := by have := dcm1_len q b; omega
theorem impl_dcm (p : Int) (hp : -9223372036854775808 ≤ p ∧ p ≤ 9223372036854775807) (b : Bool) (k : Nat) : impl_decompose.f (k + 13) p b = some (dcm p b) := by
  unfold dcm
  by_cases c : parts p b = []
  · rw [if_pos c, show k + 13 = (k + 10) + 3 from rfl, impl_leaf p hp b c]
  · rw [if_neg c, impl_decompose.f, parts_impl p hp b (k + 10), Option.bind_some, if_neg (len_ne c), impl_loop b (fun q => dcm1 q b) (fun q => dcm1_le q b) _ (parts_len p b) (k + 8) (fun q hq j => ?_)]
    have := parts_deep p b q hq
    rw [show k + 8 + j = (k + j) + 8 by omega, impl_dcm1 q (in64 this.1) b this.2]
theorem spec_dcm (p : Int) (hp : -9223372036854775808 ≤ p ∧ p ≤ 9223372036854775807) (b : Bool) (k : Nat) : spec_l05All.f (k + 17) p b = some (dcm p b) := by
  unfold dcm
  by_cases c : parts p b = []
  · rw [if_pos c, show k + 17 = (k + 10) + 7 from rfl, spec_leaf p hp b c]
  · rw [if_neg c, spec_l05All.f, parts_spec p hp b (k + 10), Option.bind_some, if_neg (len_ne c), spec_loop b (fun q => dcm1 q b) (fun q => dcm1_le q b) _ (parts_len p b) (k + 12) (fun q hq j => ?_)]
    have := parts_deep p b q hq
    rw [show k + 12 + j = (k + j) + 12 by omega, spec_dcm1 q (in64 this.1) b this.2]
end Go.Proofs.YtnbedmihgnjdpaaDoor.PFnExactCollatorFault
/- A point's class, whether it is a second part, whether it is safe in a form: both texts say the same. -/
namespace Go.Proofs.YtnbedmihgnjdpaaDoor.PFnExactCollatorFault
open Go.RowKit Go.Proofs.YtnbedmihgnjdpaaDoorW.PrintWords Go.Proofs.YtnbedmihgnjdpaaDoorW.PrintLast Go.Proofs.YtnbedmihgnjdpaaDoorW.PrintMore Go.Proofs.YtnbedmihgnjdpaaDoor.Lib
def cls (x : Int) : Int := if x = 1584 then 9 else if x = 1585 then 7 else if 4096 ≤ x ∧ x ≤ 4159 then (if x < 4112 then 230 else if x < 4128 then 220 else if x < 4136 then 202 else if x < 4144 then 1 else if x < 4152 then 232 else 0) else 0
def sec (x : Int) : Bool := decide ((4096 ≤ x ∧ x ≤ 4103) ∨ (4112 ≤ x ∧ x ≤ 4119) ∨ (1824 ≤ x ∧ x ≤ 1844) ∨ (1857 ≤ x ∧ x ≤ 1883))
theorem cls_range (x : Int) : 0 ≤ cls x ∧ cls x ≤ 232 := by
  unfold cls
  repeat' split
  all_goals omega
theorem cls_impl (x : Int) : impl_MarkClass.f x = some (cls x) := by
  unfold impl_MarkClass.f cls
  by_cases a : x = 1584
  · rw [if_pos a, if_pos a]
  · rw [if_neg a, if_neg a]
    by_cases b : x = 1585
    · rw [if_pos b, if_pos b]
    · rw [if_neg b, if_neg b, dinF, Option.bind_some]
      by_cases c : 4096 ≤ x ∧ x ≤ 4159
      · rw [ite_t (decide_eq_true c), if_pos c]
        repeat' split
        all_goals rfl
      · rw [ite_f (decide_eq_false c), if_neg c]
theorem cls_spec (x : Int) (k : Nat) : spec_l01Class.f (k + 1) x = some (cls x) := by
  unfold spec_l01Class.f cls
  by_cases a : x = 1584
  · rw [if_pos a, if_pos a]
  · rw [if_neg a, if_neg a]
    by_cases b : x = 1585
    · rw [if_pos b, if_pos b]
    · rw [if_neg b, if_neg b]
      by_cases c : x < 4096
      · rw [if_pos c, if_neg (by omega), spec_l01Class.j0, ite_t rfl]
      · rw [if_neg c]
        by_cases d : x > 4159
        · rw [decide_eq_true d, if_neg (by omega), spec_l01Class.j0, ite_t rfl]
        · rw [decide_eq_false d, if_pos (by omega), spec_l01Class.j0, ite_f rfl, w64 (x := x - 4096) (by omega) (by omega)]
          by_cases e1 : x < 4112
          · rw [if_pos (by omega), if_pos e1]
          · rw [if_neg (by omega), if_neg e1]
            by_cases e2 : x < 4128
            · rw [if_pos (by omega), if_pos e2]
            · rw [if_neg (by omega), if_neg e2]
              by_cases e3 : x < 4136
              · rw [if_pos (by omega), if_pos e3]
              · rw [if_neg (by omega), if_neg e3]
                by_cases e4 : x < 4144
                · rw [if_pos (by omega), if_pos e4]
                · rw [if_neg (by omega), if_neg e4]
                  by_cases e5 : x < 4152
                  · rw [if_pos (by omega), if_pos e5]
                  · rw [if_neg (by omega), if_neg e5]
end Go.Proofs.YtnbedmihgnjdpaaDoor.PFnExactCollatorFault
/- What the program's Compose and the reference's l05Pair come to. -/
namespace Go.Proofs.YtnbedmihgnjdpaaDoor.PFnExactCollatorFault
open Go.RowKit Go.Proofs.YtnbedmihgnjdpaaDoorW.PrintWords Go.Proofs.YtnbedmihgnjdpaaDoorW.PrintLast Go.Proofs.YtnbedmihgnjdpaaDoor.Lib
def letterAt (a : Int) : Int := if 65 ≤ a ∧ a ≤ 90 then a - 65 else if 97 ≤ a ∧ a ≤ 122 then a - 71 else -1
theorem letterAt_range (a : Int) : -1 ≤ letterAt a ∧ letterAt a ≤ 51 := by unfold letterAt; split <;> (try split) <;> omega
def c5 (a b : Int) : Int := if 12288 ≤ a ∧ a ≤ 23459 ∧ (a - 12288) % 28 = 0 ∧ 1857 ≤ b ∧ b ≤ 1883 then a + b - 1856 else -1
def c4 (a b : Int) : Int := if 1792 ≤ a ∧ a ≤ 1810 ∧ 1824 ≤ b ∧ b ≤ 1844 then 12288 + ((a - 1792) * 21 + b - 1824) * 28 else c5 a b
def c3 (a b : Int) : Int := if 8704 ≤ a ∧ a ≤ 9119 ∧ b = 4096 then a + 512 else c4 a b
def c2 (a b i : Int) : Int := if 0 ≤ i ∧ 4112 ≤ b ∧ b ≤ 4119 then 4592 + 8 * i + b else c3 a b
def c1 (a b i : Int) : Int := if 0 ≤ i ∧ 4096 ≤ b ∧ b ≤ 4103 then 4096 + 8 * i + b else c2 a b i
theorem spec_letter (k : Nat) (a : Int) : spec_l05LetterAt.f (k + 1) a = some (letterAt a) := by
  unfold spec_l05LetterAt.f letterAt
  simp only [spec_l05LetterAt.j0]
  by_cases h1 : a ≥ 65
  · by_cases h2 : a ≤ 90
    · rw [if_pos h1, if_pos (decide_eq_true h2), if_pos (show 65 ≤ a ∧ a ≤ 90 from ⟨h1, h2⟩), w64 (by omega) (by omega)]
    · rw [if_pos h1, if_neg (show ¬ decide (a ≤ 90) = true by simpa using h2), if_neg (show ¬ (65 ≤ a ∧ a ≤ 90) by omega)]
      by_cases h3 : a ≥ 97
      · by_cases h4 : a ≤ 122
        · rw [if_pos h3, if_pos h4, if_pos (show 97 ≤ a ∧ a ≤ 122 from ⟨h3, h4⟩), w64 (x := a - 97) (by omega) (by omega), w64 (by omega) (by omega)]
          congr 1; omega
        · rw [if_pos h3, if_neg h4, if_neg (show ¬ (97 ≤ a ∧ a ≤ 122) by omega)]
      · rw [if_neg h3, if_neg (show ¬ (97 ≤ a ∧ a ≤ 122) by omega)]
  · rw [if_neg h1, if_neg (by simp), if_neg (show ¬ a ≥ 97 by omega), if_neg (show ¬ (65 ≤ a ∧ a ≤ 90) by omega), if_neg (show ¬ (97 ≤ a ∧ a ≤ 122) by omega)]
section
variable (a b : Int)
theorem s3 (k : Nat) (ha : -9223372036854775808 ≤ a ∧ a ≤ 9223372036854775807) (c : Bool) (hc : c = decide (1792 ≤ a ∧ a ≤ 1810 ∧ 1824 ≤ b ∧ b ≤ 1844)) : spec_l05Pair.j3 (k + 1) a b c = some (c4 a b) := by
  simp only [spec_l05Pair.j3]
  unfold c4 c5
  by_cases h : 1792 ≤ a ∧ a ≤ 1810 ∧ 1824 ≤ b ∧ b ≤ 1844
  · rw [if_pos h, if_pos (by rw [hc]; simpa using h)]
    congr 1; unfold wrap64; omega
  · rw [if_neg h, if_neg (by rw [hc]; simpa using h)]
    by_cases h1 : a ≥ 12288
    · by_cases h2 : a ≤ 23459
      · have e : Int.tmod (wrap64 (a - 12288)) 28 = (a - 12288) % 28 := by rw [w64 (by omega) (by omega)]; exact Int.tmod_eq_emod_of_nonneg (by omega)
        rw [if_pos h1, if_pos h2, e]
        by_cases h3 : (a - 12288) % 28 = 0
        · rw [if_pos h3]
          by_cases h4 : b ≥ 1857
          · by_cases h5 : b ≤ 1883
            · rw [if_pos h4, if_pos h5, if_pos (by omega)]
              congr 1; unfold wrap64; omega
            · rw [if_pos h4, if_neg h5, if_neg (by omega)]
          · rw [if_neg h4, if_neg (by omega)]
        · rw [if_neg h3, if_neg (by omega)]
      · rw [if_pos h1, if_neg h2, if_neg (by omega)]
    · rw [if_neg h1, if_neg (by omega)]
theorem s2 (k : Nat) (ha : -9223372036854775808 ≤ a ∧ a ≤ 9223372036854775807) (c : Bool) (hc : c = decide (8704 ≤ a ∧ a ≤ 9119 ∧ b = 4096)) : spec_l05Pair.j2 (k + 2) a b c = some (c3 a b) := by
  simp only [spec_l05Pair.j2]
  unfold c3
  by_cases h : 8704 ≤ a ∧ a ≤ 9119 ∧ b = 4096
  · rw [if_pos h, if_pos (by rw [hc]; simpa using h)]
    congr 1; unfold wrap64; omega
  · rw [if_neg h, if_neg (by rw [hc]; simpa using h)]
    by_cases h1 : a ≥ 1792
    · by_cases h2 : a ≤ 1810
      · by_cases h3 : b ≥ 1824
        · rw [if_pos h1, if_pos h2, if_pos h3]
          exact s3 a b k ha _ (by first | exact decide_eq_decide.2 (by omega) | exact (decide_eq_false (by omega)).symm)
        · rw [if_pos h1, if_pos h2, if_neg h3]
          exact s3 a b k ha _ (by first | exact decide_eq_decide.2 (by omega) | exact (decide_eq_false (by omega)).symm)
      · rw [if_pos h1, if_neg h2]
        exact s3 a b k ha _ (by first | exact decide_eq_decide.2 (by omega) | exact (decide_eq_false (by omega)).symm)
    · rw [if_neg h1]
      exact s3 a b k ha _ (by first | exact decide_eq_decide.2 (by omega) | exact (decide_eq_false (by omega)).symm)
theorem s1 (k : Nat) (ha : -9223372036854775808 ≤ a ∧ a ≤ 9223372036854775807) (c : Bool) (i : Int) (hi : -1 ≤ i ∧ i ≤ 51) (hc : c = decide (0 ≤ i ∧ 4112 ≤ b ∧ b ≤ 4119)) : spec_l05Pair.j1 (k + 3) a b i c = some (c2 a b i) := by
  simp only [spec_l05Pair.j1]
  unfold c2
  by_cases h : 0 ≤ i ∧ 4112 ≤ b ∧ b ≤ 4119
  · rw [if_pos h, if_pos (by rw [hc]; simpa using h)]
    congr 1; unfold wrap64; omega
  · rw [if_neg h, if_neg (by rw [hc]; simpa using h)]
    by_cases h1 : a ≥ 8704
    · by_cases h2 : a < 9120
      · rw [if_pos h1, if_pos h2]
        exact s2 a b k ha _ (by first | exact decide_eq_decide.2 (by omega) | exact (decide_eq_false (by omega)).symm)
      · rw [if_pos h1, if_neg h2]
        exact s2 a b k ha _ (by first | exact decide_eq_decide.2 (by omega) | exact (decide_eq_false (by omega)).symm)
    · rw [if_neg h1]
      exact s2 a b k ha _ (by first | exact decide_eq_decide.2 (by omega) | exact (decide_eq_false (by omega)).symm)
theorem s0 (k : Nat) (ha : -9223372036854775808 ≤ a ∧ a ≤ 9223372036854775807) (c : Bool) (i : Int) (hi : -1 ≤ i ∧ i ≤ 51) (hc : c = decide (0 ≤ i ∧ 4096 ≤ b ∧ b ≤ 4103)) : spec_l05Pair.j0 (k + 4) a b i c = some (c1 a b i) := by
  simp only [spec_l05Pair.j0]
  unfold c1
  by_cases h : 0 ≤ i ∧ 4096 ≤ b ∧ b ≤ 4103
  · rw [if_pos h, if_pos (by rw [hc]; simpa using h)]
    congr 1; unfold wrap64; omega
  · rw [if_neg h, if_neg (by rw [hc]; simpa using h)]
    by_cases h1 : i ≥ 0
    · by_cases h2 : b ≥ 4112
      · rw [if_pos h1, if_pos h2]
        exact s1 a b k ha _ i hi (by first | exact decide_eq_decide.2 (by omega) | exact (decide_eq_false (by omega)).symm)
      · rw [if_pos h1, if_neg h2]
        exact s1 a b k ha _ i hi (by first | exact decide_eq_decide.2 (by omega) | exact (decide_eq_false (by omega)).symm)
    · rw [if_neg h1]
      exact s1 a b k ha _ i hi (by first | exact decide_eq_decide.2 (by omega) | exact (decide_eq_false (by omega)).symm)
theorem pair_spec (k : Nat) (ha : -9223372036854775808 ≤ a ∧ a ≤ 9223372036854775807) : spec_l05Pair.f (k + 4) a b = some (c1 a b (letterAt a)) := by
  have hi := letterAt_range a
  unfold spec_l05Pair.f
  rw [spec_letter]
  simp only [Option.bind_some]
  by_cases h1 : letterAt a ≥ 0
  · by_cases h2 : b ≥ 4096
    · rw [if_pos h1, if_pos h2, s0 a b k ha _ _ hi (by first | exact decide_eq_decide.2 (by omega) | exact (decide_eq_false (by omega)).symm)]
    · rw [if_pos h1, if_neg h2, s0 a b k ha _ _ hi (by first | exact decide_eq_decide.2 (by omega) | exact (decide_eq_false (by omega)).symm)]
  · rw [if_neg h1, s0 a b k ha _ _ hi (by first | exact decide_eq_decide.2 (by omega) | exact (decide_eq_false (by omega)).symm)]
theorem in_eqP (p x y : Int) : impl_in.f p x y = some (decide (x ≤ p ∧ p ≤ y)) := by
  unfold impl_in.f
  by_cases h : p ≥ x
  · rw [if_pos h]; congr 1; simp; omega
  · rw [if_neg h]; congr 1; simp; omega
theorem i5 (k : Nat) (ha : -9223372036854775808 ≤ a ∧ a ≤ 9223372036854775807) (c : Bool) (hc : c = decide (1792 ≤ a ∧ a ≤ 1810 ∧ 1824 ≤ b ∧ b ≤ 1844)) : impl_Compose.j5 (k + 1) a b c = some (c4 a b) := by
  simp only [impl_Compose.j5]
  unfold c4 c5
  by_cases h : 1792 ≤ a ∧ a ≤ 1810 ∧ 1824 ≤ b ∧ b ≤ 1844
  · rw [if_pos h, if_pos (by rw [hc]; simpa using h)]
    congr 1; unfold wrap64; omega
  · rw [if_neg h, if_neg (by rw [hc]; simpa using h)]
    unfold impl_isOpen.f impl_isSyllable.f
    rw [in_eqP, in_eqP]
    simp only [Option.bind_some, decide_eq_true_eq]
    by_cases h1 : 12288 ≤ a ∧ a ≤ 23459
    · have e : Int.tmod (wrap64 (a - 12288)) 28 = (a - 12288) % 28 := by rw [w64 (by omega) (by omega)]; exact Int.tmod_eq_emod_of_nonneg (by omega)
      rw [if_pos h1, e]
      simp only [Option.bind_some, beq_iff_eq]
      by_cases h3 : (a - 12288) % 28 = 0
      · rw [if_pos h3]
        by_cases h4 : 1857 ≤ b ∧ b ≤ 1883
        · rw [if_pos h4, if_pos (by omega)]
          congr 1; unfold wrap64; omega
        · rw [if_neg h4, if_neg (by omega)]
      · rw [if_neg h3, if_neg (by omega)]
    · rw [if_neg h1, if_neg (show ¬ (12288 ≤ a ∧ a ≤ 23459 ∧ (a - 12288) % 28 = 0 ∧ 1857 ≤ b ∧ b ≤ 1883) by omega)]; rfl
theorem i4 (k : Nat) (ha : -9223372036854775808 ≤ a ∧ a ≤ 9223372036854775807) (c : Bool) (hc : c = decide (8704 ≤ a ∧ a ≤ 9119 ∧ b = 4096)) : impl_Compose.j4 (k + 2) a b c = some (c3 a b) := by
  simp only [impl_Compose.j4, in_eqP, Option.bind_some, decide_eq_true_eq]
  unfold c3
  by_cases h : 8704 ≤ a ∧ a ≤ 9119 ∧ b = 4096
  · rw [if_pos h, if_pos (by rw [hc]; simpa using h)]
    congr 1; unfold wrap64; omega
  · rw [if_neg h, if_neg (by rw [hc]; simpa using h)]
    by_cases h1 : 1792 ≤ a ∧ a ≤ 1810
    · rw [if_pos h1]
      exact i5 a b k ha _ (by first | exact decide_eq_decide.2 (by omega) | exact (decide_eq_false (by omega)).symm)
    · rw [if_neg h1]
      exact i5 a b k ha _ (by first | exact decide_eq_decide.2 (by omega) | exact (decide_eq_false (by omega)).symm)
theorem i3 (k : Nat) (ha : -9223372036854775808 ≤ a ∧ a ≤ 9223372036854775807) (c : Bool) (i : Int) (hi : -1 ≤ i ∧ i ≤ 51) (hc : c = decide (0 ≤ i ∧ 4112 ≤ b ∧ b ≤ 4119)) : impl_Compose.j3 (k + 3) a b i c = some (c2 a b i) := by
  simp only [impl_Compose.j3, in_eqP, Option.bind_some, decide_eq_true_eq]
  unfold c2
  by_cases h : 0 ≤ i ∧ 4112 ≤ b ∧ b ≤ 4119
  · rw [if_pos h, if_pos (by rw [hc]; simpa using h)]
    congr 1; unfold wrap64; omega
  · rw [if_neg h, if_neg (by rw [hc]; simpa using h)]
    by_cases h1 : 8704 ≤ a ∧ a ≤ 9119
    · rw [if_pos h1]
      exact i4 a b k ha _ (by first | exact decide_eq_decide.2 (by omega) | exact (decide_eq_false (by omega)).symm)
    · rw [if_neg h1]
      exact i4 a b k ha _ (by first | exact decide_eq_decide.2 (by omega) | exact (decide_eq_false (by omega)).symm)
theorem i2 (k : Nat) (ha : -9223372036854775808 ≤ a ∧ a ≤ 9223372036854775807) (c : Bool) (i : Int) (hi : -1 ≤ i ∧ i ≤ 51) (hc : c = decide (0 ≤ i ∧ 4096 ≤ b ∧ b ≤ 4103)) : impl_Compose.j2 (k + 4) a b i c = some (c1 a b i) := by
  simp only [impl_Compose.j2, in_eqP, Option.bind_some]
  unfold c1
  by_cases h : 0 ≤ i ∧ 4096 ≤ b ∧ b ≤ 4103
  · rw [if_pos h, if_pos (by rw [hc]; simpa using h)]
    congr 1; unfold wrap64; omega
  · rw [if_neg h, if_neg (by rw [hc]; simpa using h)]
    by_cases h1 : i ≥ 0
    · rw [if_pos h1]
      exact i3 a b k ha _ i hi (by first | exact decide_eq_decide.2 (by omega) | exact (decide_eq_false (by omega)).symm)
    · rw [if_neg h1]
      exact i3 a b k ha _ i hi (by first | exact decide_eq_decide.2 (by omega) | exact (decide_eq_false (by omega)).symm)
theorem i1 (k : Nat) (ha : -9223372036854775808 ≤ a ∧ a ≤ 9223372036854775807) (i : Int) (hi : -1 ≤ i ∧ i ≤ 51) : impl_Compose.j1 (k + 5) a b i = some (c1 a b i) := by
  simp only [impl_Compose.j1, in_eqP, Option.bind_some]
  by_cases h1 : i ≥ 0
  · rw [if_pos h1]
    exact i2 a b k ha _ i hi (by first | exact decide_eq_decide.2 (by omega) | exact (decide_eq_false (by omega)).symm)
  · rw [if_neg h1]
    exact i2 a b k ha _ i hi (by first | exact decide_eq_decide.2 (by omega) | exact (decide_eq_false (by omega)).symm)
theorem pair_impl (k : Nat) (ha : -9223372036854775808 ≤ a ∧ a ≤ 9223372036854775807) : impl_Compose.f (k + 6) a b = some (c1 a b (letterAt a)) := by
  unfold impl_Compose.f
  have hi := letterAt_range a
  simp only [impl_Compose.j0, in_eqP, Option.bind_some, decide_eq_true_eq]
  by_cases h1 : 65 ≤ a ∧ a ≤ 90
  · rw [if_pos h1, if_neg (by omega), i1 a b k ha _ (by rw [w64 (by omega) (by omega)]; omega)]
    unfold letterAt; rw [if_pos h1, w64 (by omega) (by omega)]
  · rw [if_neg h1]
    by_cases h2 : 97 ≤ a ∧ a ≤ 122
    · have e : wrap64 (wrap64 (a - 97) + 26) = a - 71 := by rw [w64 (x := a - 97) (by omega) (by omega), w64 (by omega) (by omega)]; omega
      rw [if_pos h2, e, i1 a b k ha _ (by omega)]
      unfold letterAt; rw [if_neg h1, if_pos h2]
    · rw [if_neg h2, i1 a b k ha _ (by omega)]
      unfold letterAt; rw [if_neg h1, if_neg h2]
end
end Go.Proofs.YtnbedmihgnjdpaaDoor.PFnExactCollatorFault
/- What the program's normal and the reference's l05Norm come to: one list of points. -/
namespace Go.Proofs.YtnbedmihgnjdpaaDoor.PFnExactCollatorFault
open Go.RowKit Go.Proofs.YtnbedmihgnjdpaaDoorW.PrintWords Go.Proofs.YtnbedmihgnjdpaaDoorW.PrintLast Go.Proofs.YtnbedmihgnjdpaaDoorW.PrintMore Go.Proofs.YtnbedmihgnjdpaaDoor.Lib
open Go.Proofs.YtnbedmihgnjdpaaDoor.Stab (Srt Sam srtL stCut)
theorem Ev.succ {α : Type} {g : Nat → Option α} {r : α} (h : Ev (fun k => g (k + 1)) r) : Ev g r := by
  obtain ⟨K, hK⟩ := h
  refine ⟨K + 1, fun k hk => ?_⟩
  obtain ⟨m, rfl⟩ : ∃ m, k = m + 1 := ⟨k - 1, by omega⟩
  exact hK m (by omega)
theorem Ev.at_ {α : Type} {g : Nat → Option α} {r : α} (K : Nat) (h : ∀ k, g (k + K) = some r) : Ev g r := ⟨K, fun k hk => by
  obtain ⟨m, rfl⟩ : ∃ m, k = m + K := ⟨k - K, by omega⟩
  exact h m⟩
theorem mc_cls : mc = cls := by
  funext x
  unfold mc
  rw [cls_impl]; rfl
def dAll (b : Bool) (l : List Int) : List Int := l.flatMap (fun p => dcm p b)
def okI (p : Int) : Prop := 0 ≤ p ∧ p ≤ 1114111
theorem okI_64 {p : Int} (h : okI p) : -9223372036854775808 ≤ p ∧ p ≤ 9223372036854775807 := by unfold okI at h; omega
theorem dcm_ok (p : Int) (b : Bool) (hp : okI p) : ∀ q ∈ dcm p b, okI q := by
  intro q hq
  unfold dcm at hq
  split at hq
  · rw [List.mem_singleton.1 hq]; exact hp
  · obtain ⟨r, hr, hq⟩ := List.mem_flatMap.1 hq
    have hd := parts_deep p b r hr
    unfold dcm1 at hq
    split at hq
    · rw [List.mem_singleton.1 hq]; unfold okI; omega
    · have := hd.2 q hq; unfold okI; omega
theorem dAll_ok (b : Bool) (l : List Int) (h : ∀ p ∈ l, okI p) : ∀ q ∈ dAll b l, okI q := by
  intro q hq
  obtain ⟨p, hp, hq⟩ := List.mem_flatMap.1 hq
  exact dcm_ok p b (h p hp) q hq
theorem dAll_len (b : Bool) : ∀ l : List Int, (dAll b l).length ≤ 4 * l.length
  | [] => by simp [dAll]
  | p :: l => by
    have h1 := dAll_len b l
    have h2 := dcm_len p b
    have e : dAll b (p :: l) = dcm p b ++ dAll b l := rfl
    rw [e, List.length_append, List.length_cons]; omega
theorem rd_at (l : List Int) (n : Nat) (h : n < l.length) : rd l (n : Int) = l[n] := by
  simp [rd, List.getD_eq_getElem?_getD, List.getElem?_eq_getElem h]
theorem rd_mid (A B : List Int) (x : Int) (n : Int) (h : n = A.length) : rd (A ++ x :: B) n = x := by
  subst h
  rw [rd_at _ _ (by simp)]
  simp
theorem dAll_drop (b : Bool) (l : List Int) (n : Nat) (h : n < l.length) : dAll b (l.drop n) = dcm l[n] b ++ dAll b (l.drop (n + 1)) := by
  rw [List.drop_eq_getElem_cons h]; rfl
theorem impl_all (f : Int) (l : List Int) (hl : l.length ≤ 100000000) (hp : ∀ p ∈ l, okI p) (R : List Int) : ∀ (d n : Nat) (x : List Int), n + d = l.length → x.length ≤ 4 * n →
    Ev (fun k => impl_normal.l1 k f (x ++ dAll (decide (f ≥ 3)) (l.drop n)) 0) R → Ev (fun k => impl_normal.l0 k f x l (l.length : Int) (n : Int)) R := by
  intro d
  induction d with
  | zero =>
    intro n x hn hx h
    rw [List.drop_eq_nil_of_le (by omega)] at h
    refine Ev.succ ?_
    simp only [impl_normal.l0, if_neg (show ¬ (n : Int) < (l.length : Int) by omega)]
    simpa [dAll] using h
  | succ d ih =>
    intro n x hn hx h
    have hlt : n < l.length := by omega
    refine Ev.succ ?_
    simp only [impl_normal.l0, if_pos (show (n : Int) < (l.length : Int) by omega), if_pos (show (0 : Int) ≤ (n : Int) by omega), rd_at l n hlt]
    have h4 := dcm_len l[n] (decide (f ≥ 3))
    refine Ev.bind (a := dcm l[n] (decide (f ≥ 3))) (Ev.at_ 13 (fun k => impl_dcm _ (okI_64 (hp _ (List.getElem_mem hlt))) _ k)) ?_
    have hc : x.length + (dcm l[n] (decide (f ≥ 3))).length < 17592186044416 := by omega
    simp only [if_pos hc]
    rw [show wrap64 ((n : Int) + 1) = ((n + 1 : Nat) : Int) from by rw [w64 (by omega) (by omega)]; omega]
    refine ih (n + 1) _ (by omega) (by rw [List.length_append]; omega) ?_
    rw [dAll_drop _ l n hlt, ← List.append_assoc] at h
    exact h
theorem spec_all (f : Int) (l : List Int) (hl : l.length ≤ 100000000) (hp : ∀ p ∈ l, okI p) (R : List Int) : ∀ (d n : Nat) (x : List Int), n + d = l.length → x.length ≤ 4 * n →
    Ev (fun k => (spec_l05Ordered.f k (x ++ dAll (decide (f ≥ 3)) (l.drop n))).bind fun t207 => ((spec_l05C.f f).bind fun t210 => (if t210 = true then ((spec_l05Composed.f k t207).bind fun t211 => (some t211)) else (some t207)))) R → Ev (fun k => spec_l05Norm.l0 k f l x (n : Int)) R := by
  intro d
  induction d with
  | zero =>
    intro n x hn hx h
    rw [List.drop_eq_nil_of_le (by omega)] at h
    refine Ev.succ ?_
    simp only [spec_l05Norm.l0, if_neg (show ¬ (n : Int) < (l.length : Int) by omega)]
    simpa [dAll] using h
  | succ d ih =>
    intro n x hn hx h
    have hlt : n < l.length := by omega
    refine Ev.succ ?_
    simp only [spec_l05Norm.l0, if_pos (show (n : Int) < (l.length : Int) by omega), if_pos (show (0 : Int) ≤ (n : Int) by omega), rd_at l n hlt, spec_l05K.f, Option.bind_some]
    have h4 := dcm_len l[n] (decide (f ≥ 3))
    refine Ev.bind (a := dcm l[n] (decide (f ≥ 3))) (Ev.at_ 17 (fun k => spec_dcm _ (okI_64 (hp _ (List.getElem_mem hlt))) _ k)) ?_
    have hc : x.length + (dcm l[n] (decide (f ≥ 3))).length < 17592186044416 := by omega
    simp only [if_pos hc]
    rw [show wrap64 ((n : Int) + 1) = ((n + 1 : Nat) : Int) from by rw [w64 (by omega) (by omega)]; omega]
    refine ih (n + 1) _ (by omega) (by rw [List.length_append]; omega) ?_
    rw [dAll_drop _ l n hlt, ← List.append_assoc] at h
    exact h
def insR (x : Int) : List Int → List Int
  | [] => [x]
  | y :: r => if cls y > cls x then y :: insR x r else x :: y :: r
def pushO (acc : List Int) (x : Int) : List Int := if cls x = 0 then acc ++ [x] else (insR x acc.reverse).reverse
def ord (l : List Int) : List Int := l.foldl pushO []
theorem insR_length (x : Int) : ∀ r : List Int, (insR x r).length = r.length + 1
  | [] => rfl
  | y :: r => by rw [insR]; split <;> simp [insR_length x r]
theorem insR_mem (x : Int) : ∀ (r : List Int) (z : Int), z ∈ insR x r → z = x ∨ z ∈ r
  | [], z, h => by simpa [insR] using h
  | y :: r, z, h => by
    rw [insR] at h
    split at h
    · rcases List.mem_cons.1 h with rfl | h
      · simp
      · rcases insR_mem x r z h with h | h <;> simp [h]
    · simpa using h
theorem pushO_length (acc : List Int) (x : Int) : (pushO acc x).length = acc.length + 1 := by
  unfold pushO; split
  · simp
  · simp [insR_length]
theorem pushO_zero (acc : List Int) (x : Int) (h : cls x = 0) : pushO acc x = acc ++ [x] := by unfold pushO; rw [if_pos h]
theorem pushO_mem (acc : List Int) (x z : Int) (h : z ∈ pushO acc x) : z = x ∨ z ∈ acc := by
  unfold pushO at h; split at h
  · rcases List.mem_append.1 h with h | h
    · exact .inr h
    · exact .inl (List.mem_singleton.1 h)
  · rcases insR_mem x _ z (List.mem_reverse.1 h) with h | h
    · exact .inl h
    · exact .inr (List.mem_reverse.1 h)
theorem fold_length : ∀ (l acc : List Int), (l.foldl pushO acc).length = acc.length + l.length
  | [], _ => rfl
  | x :: l, acc => by rw [List.foldl_cons, fold_length l, pushO_length, List.length_cons]; omega
theorem fold_mem : ∀ (l acc : List Int) (z : Int), z ∈ l.foldl pushO acc → z ∈ acc ∨ z ∈ l
  | [], _, _, h => .inl h
  | x :: l, acc, z, h => by
    rcases fold_mem l _ z h with h | h
    · rcases pushO_mem _ _ _ h with rfl | h
      · exact .inr (by simp)
      · exact .inl h
    · exact .inr (by simp [h])
theorem ord_length (l : List Int) : (ord l).length = l.length := by unfold ord; rw [fold_length]; simp
theorem insR_srt (x : Int) (A : List Int) (hA : A = [] ∨ ∃ B z, A = B ++ [z] ∧ cls z = 0) (hx : cls x ≠ 0) : ∀ r : List Int, Srt cls r.reverse →
    ∃ s, (insR x (r ++ A.reverse)).reverse = A ++ s ∧ Srt cls s ∧ Sam cls (r.reverse ++ [x]) s
  | [], _ => by
    refine ⟨[x], ?_, by simp [Srt], Sam.refl _⟩
    rcases hA with rfl | ⟨B, z, rfl, hz⟩
    · simp [insR]
    · have := (cls_range x).1
      simp [insR, if_neg (show ¬ cls z > cls x by omega)]
  | y :: r, h => by
    rw [List.reverse_cons] at h
    rw [List.cons_append, insR]
    by_cases hlt : cls y > cls x
    · rw [if_pos hlt]
      obtain ⟨s, h1, h2, h3⟩ := insR_srt x A hA hx r h.left
      refine ⟨s ++ [y], by rw [List.reverse_cons, h1, List.append_assoc], h2.app (by simp [Srt]) (fun a ha b hb => ?_), ?_⟩
      · rw [List.mem_singleton.1 hb]
        rcases List.mem_append.1 (h3.symm.len_mem a ha) with ha | ha
        · exact h.last a ha
        · rw [List.mem_singleton.1 ha]; omega
      · have h4 : Sam cls ([y] ++ [x]) ([x] ++ [y]) := Sam.swap (fun a ha b hb => by rw [List.mem_singleton.1 ha, List.mem_singleton.1 hb]; exact hlt)
        have h5 := (Sam.refl (c := cls) r.reverse).app h4
        have h6 := h3.app (Sam.refl (c := cls) [y])
        rw [List.reverse_cons]
        have e1 : r.reverse ++ [y] ++ [x] = r.reverse ++ ([y] ++ [x]) := by simp
        have e2 : r.reverse ++ [x] ++ [y] = r.reverse ++ ([x] ++ [y]) := by simp
        rw [e1]; rw [e2] at h6
        exact h5.trans h6
    · rw [if_neg hlt]
      refine ⟨r.reverse ++ [y] ++ [x], by simp, h.app (by simp [Srt]) (fun a ha b hb => ?_), by rw [List.reverse_cons]; exact Sam.refl _⟩
      rw [List.mem_singleton.1 hb]
      rcases List.mem_append.1 ha with ha | ha
      · have := h.last a ha; omega
      · rw [List.mem_singleton.1 ha]; omega
theorem fold_run (A : List Int) (hA : A = [] ∨ ∃ B z, A = B ++ [z] ∧ cls z = 0) : ∀ (u s : List Int), (∀ x ∈ u, cls x ≠ 0) → Srt cls s →
    ∃ s', u.foldl pushO (A ++ s) = A ++ s' ∧ Srt cls s' ∧ Sam cls (s ++ u) s'
  | [], s, _, hs => ⟨s, rfl, hs, by rw [List.append_nil]; exact Sam.refl _⟩
  | x :: u, s, hu, hs => by
    have hx := hu x (by simp)
    obtain ⟨s1, h1, h2, h3⟩ := insR_srt x A hA hx s.reverse (by rw [List.reverse_reverse]; exact hs)
    rw [List.reverse_reverse] at h3
    obtain ⟨s', h4, h5, h6⟩ := fold_run A hA u s1 (fun y hy => hu y (by simp [hy])) h2
    refine ⟨s', ?_, h5, ?_⟩
    · rw [List.foldl_cons, ← h4]
      congr 1
      unfold pushO
      rw [if_neg hx, List.reverse_append, h1]
    · have h7 := (h3.app (Sam.refl (c := cls) u)).trans h6
      have e : s ++ x :: u = s ++ [x] ++ u := by simp
      rw [e]; exact h7
theorem fold_srt (A u : List Int) (hA : A = [] ∨ ∃ B z, A = B ++ [z] ∧ cls z = 0) (hu : ∀ x ∈ u, cls x ≠ 0) : u.foldl pushO A = A ++ srtL cls u := by
  obtain ⟨s', h1, h2, h3⟩ := fold_run A hA u [] hu List.Pairwise.nil
  rw [List.append_nil] at h1
  rw [h1, Srt.uniq h2 (Stab.srtL_srt u) (h3.symm.trans (Stab.srtL_sam u))]
theorem spec_inner (x : Int) (R : List Int) : ∀ (r B : List Int) (i : Int), r.length + B.length ≤ 1000000000 →
    Ev (fun k => spec_l05Ordered.l0 k ((insR x r).reverse ++ B) (wrap64 (i + 1))) R → Ev (fun k => spec_l05Ordered.l1 k (r.reverse ++ x :: B) i (r.length : Int)) R
  | [], B, i, _, h => by
    refine Ev.succ ?_
    simp only [spec_l05Ordered.l1, List.length_nil, if_neg (show ¬ ((0 : Nat) : Int) > 0 by omega)]
    simpa [insR] using h
  | y :: r, B, i, hb, h => by
    have hlen : ((y :: r).length : Int) = (r.length : Int) + 1 := by simp
    rw [List.length_cons] at hb
    refine Ev.succ ?_
    have e2 : wrap64 ((r.length : Int) + 1 - 1) = (r.length : Int) := by rw [w64 (by omega) (by omega)]; omega
    have hll : (((y :: r).reverse ++ x :: B).length : Int) = (r.length : Int) + 1 + (B.length : Int) + 1 := by simp; omega
    have g1 : rd ((y :: r).reverse ++ x :: B) (r.length : Int) = y := by
      have := rd_mid r.reverse (x :: B) y (r.length : Int) (by simp)
      simpa using this
    have g2 : rd ((y :: r).reverse ++ x :: B) ((y :: r).length : Int) = x := rd_mid _ _ _ _ (by simp)
    simp only [spec_l05Ordered.l1, hlen, e2, if_pos (show (r.length : Int) + 1 > 0 by omega), if_pos (show (0 : Int) ≤ (r.length : Int) by omega), hll, if_pos (show (r.length : Int) < (r.length : Int) + 1 + (B.length : Int) + 1 by omega), g1]
    refine Ev.bind (a := cls y) (Ev.at_ (g := fun k => spec_l01Class.f k y) 1 (fun k => cls_spec y k)) ?_
    rw [hlen] at g2
    simp only [if_pos (show (0 : Int) ≤ (r.length : Int) + 1 by omega), if_pos (show (r.length : Int) + 1 < (r.length : Int) + 1 + (B.length : Int) + 1 by omega), g2]
    refine Ev.bind (a := cls x) (Ev.at_ (g := fun k => spec_l01Class.f k x) 1 (fun k => cls_spec x k)) ?_
    rw [insR] at h
    by_cases hlt : cls y > cls x
    · rw [if_pos hlt] at h
      simp only [if_pos hlt, e2, g1]
      have hs : ((((y :: r).reverse ++ x :: B).set ((r.length : Int) + 1).toNat y).set ((r.length : Int)).toNat x) = r.reverse ++ x :: (y :: B) := by
        rw [show ((r.length : Int) + 1).toNat = r.length + 1 from by omega, show ((r.length : Int)).toNat = r.length from by omega]
        simp [List.set_append]
      rw [hs]
      exact spec_inner x R r (y :: B) i (by rw [List.length_cons]; omega) (by simpa using h)
    · rw [if_neg hlt] at h
      simp only [if_neg hlt]
      simpa using h
theorem spec_ord (l : List Int) (hl : l.length ≤ 400000000) : ∀ (d n : Nat), n + d = l.length → Ev (fun k => spec_l05Ordered.l0 k (ord (l.take n) ++ l.drop n) (n : Int)) (ord l) := by
  intro d
  induction d with
  | zero =>
    intro n hn
    refine Ev.succ ?_
    rw [List.drop_eq_nil_of_le (by omega), List.take_of_length_le (by omega), List.append_nil]
    simp only [spec_l05Ordered.l0, ord_length, if_neg (show ¬ (n : Int) < (l.length : Int) by omega)]
    exact Ev.now _
  | succ d ih =>
    intro n hn
    have hlt : n < l.length := by omega
    have hol : (ord (l.take n)).length = n := by rw [ord_length, List.length_take]; omega
    have hlen : ((ord (l.take n) ++ l.drop n).length : Int) = (l.length : Int) := by rw [List.length_append, hol, List.length_drop]; omega
    have hd := List.drop_eq_getElem_cons hlt
    have hg : rd (ord (l.take n) ++ l.drop n) (n : Int) = l[n] := by rw [hd]; exact rd_mid _ _ _ _ (by rw [hol])
    have hw : wrap64 ((n : Int) + 1) = ((n + 1 : Nat) : Int) := by rw [w64 (by omega) (by omega)]; omega
    have hnext := ih (n + 1) (by omega)
    have hto : ord (l.take (n + 1)) = pushO (ord (l.take n)) l[n] := by
      rw [List.take_succ_eq_append_getElem hlt]; unfold ord; rw [List.foldl_append]; rfl
    refine Ev.succ ?_
    simp only [spec_l05Ordered.l0, hlen, if_pos (show (n : Int) < (l.length : Int) by omega), if_pos (show (0 : Int) ≤ (n : Int) by omega), hg]
    refine Ev.bind (a := cls l[n]) (Ev.at_ 1 (fun k => cls_spec _ k)) ?_
    rw [hto] at hnext
    unfold pushO at hnext
    by_cases hc : cls l[n] = 0
    · simp only [if_pos hc, hw]
      rw [if_pos hc] at hnext
      rw [hd]
      simpa using hnext
    · simp only [if_neg hc]
      rw [if_neg hc] at hnext
      have := spec_inner l[n] (ord l) (ord (l.take n)).reverse (l.drop (n + 1)) (n : Int) (by rw [List.length_reverse, hol, List.length_drop]; omega) (by rw [hw]; exact hnext)
      rw [List.reverse_reverse, List.length_reverse, hol] at this
      rw [hd]; exact this
theorem spec_ordered (l : List Int) (hl : l.length ≤ 400000000) : Ev (fun k => spec_l05Ordered.f k l) (ord l) := by
  unfold spec_l05Ordered.f
  simp only [Option.bind_some, List.nil_append, List.length_nil, if_pos (show 0 + l.length < 17592186044416 by omega)]
  exact spec_ord l hl l.length 0 (by omega)
theorem impl_scan (f : Int) (P u v : List Int) (R : List Int) (hu : ∀ x ∈ u, cls x ≠ 0) (hv : v = [] ∨ ∃ y w, v = y :: w ∧ cls y = 0) (hne : u ++ v ≠ []) (hb : (P ++ u ++ v).length ≤ 400000000)
    (h : Ev (fun k => impl_normal.l1 k f (P ++ srtL cls u ++ v) (mx ((P.length + u.length : Nat) : Int) ((P.length + 1 : Nat) : Int))) R) :
    ∀ (d n : Nat), n + d = u.length → Ev (fun k => impl_normal.l2 k f (P ++ u ++ v) (P.length : Int) ((P.length + n : Nat) : Int)) R := by
  have hlen : ((P ++ u ++ v).length : Int) = ((P.length + u.length + v.length : Nat) : Int) := by simp; omega
  have hlb : P.length + u.length + v.length ≤ 400000000 := by simpa [Nat.add_assoc] using hb
  have hpos : 0 < u.length + v.length := by
    have := List.length_pos_iff.2 hne
    rwa [List.length_append] at this
  have hst : stCut mc (P ++ u ++ v) (P.length : Int) ((P.length + u.length : Nat) : Int) = P ++ srtL cls u ++ v := by rw [mc_cls]; exact Stab.stCut_eq cls P u v _ _ rfl (by omega)
  have hw : wrap64 ((P.length : Int) + 1) = ((P.length + 1 : Nat) : Int) := by rw [w64 (by omega) (by omega)]; omega
  have hbig : (P.length : Int) < ((P.length + u.length + v.length : Nat) : Int) ∧ (P.length : Int) ≤ ((P.length + u.length : Nat) : Int) ∧ ((P.length + u.length : Nat) : Int) ≤ ((P.length + u.length + v.length : Nat) : Int) ∧ ((P.length + u.length + v.length : Nat) : Int) ≤ 1152921504606846975 := by omega
  intro d
  induction d with
  | zero =>
    intro n hn
    have hn2 : n = u.length := by omega
    subst hn2
    refine Ev.succ ?_
    rcases hv with rfl | ⟨y, w, rfl, hy⟩
    · simp only [List.length_nil, Nat.add_zero] at hlen hbig
      simp only [impl_normal.l2, hlen, if_neg (show ¬ ((P.length + u.length : Nat) : Int) < ((P.length + u.length : Nat) : Int) by omega), if_pos (show (0 : Int) ≤ (P.length : Int) by omega), if_pos hbig, hst, hw]
      exact h
    · have hg : rd (P ++ u ++ y :: w) ((P.length + u.length : Nat) : Int) = y := rd_mid _ _ _ _ (by simp)
      have hlt : ((P.length + u.length : Nat) : Int) < ((P.length + u.length + (y :: w).length : Nat) : Int) := by rw [List.length_cons]; omega
      simp only [impl_normal.l2, hlen, if_pos hlt, if_pos (show (0 : Int) ≤ ((P.length + u.length : Nat) : Int) by omega), hg, cls_impl, Option.bind_some, if_pos hy, if_pos (show (0 : Int) ≤ (P.length : Int) by omega), if_pos hbig, hst, hw]
      exact h
  | succ d ih =>
    intro n hn
    have hn2 : n < u.length := by omega
    have hg : rd (P ++ u ++ v) ((P.length + n : Nat) : Int) = u[n] := by
      rw [rd_at _ _ (by simp; omega)]
      simp [List.getElem_append, hn2]
    have hw2 : wrap64 (((P.length + n : Nat) : Int) + 1) = ((P.length + (n + 1) : Nat) : Int) := by rw [w64 (by omega) (by omega)]; omega
    refine Ev.succ ?_
    simp only [impl_normal.l2, hlen, if_pos (show ((P.length + n : Nat) : Int) < ((P.length + u.length + v.length : Nat) : Int) by omega), if_pos (show (0 : Int) ≤ ((P.length + n : Nat) : Int) by omega), hg, cls_impl, Option.bind_some, if_neg (hu _ (List.getElem_mem hn2)), hw2]
    exact ih (n + 1) (by omega)
theorem mx_nat (a b : Nat) : mx (a : Int) (b : Int) = ((max a b : Nat) : Int) := by unfold mx; split <;> omega
theorem part_marks : ∀ l : List Int, ∃ u v, l = u ++ v ∧ (∀ x ∈ u, cls x ≠ 0) ∧ (v = [] ∨ ∃ y w, v = y :: w ∧ cls y = 0)
  | [] => ⟨[], [], rfl, by simp, .inl rfl⟩
  | x :: l => by
    by_cases h : cls x = 0
    · exact ⟨[], x :: l, rfl, by simp, .inr ⟨x, l, rfl, h⟩⟩
    · obtain ⟨u, v, rfl, h1, h2⟩ := part_marks l
      exact ⟨x :: u, v, rfl, fun y hy => by
        rcases List.mem_cons.1 hy with rfl | hy
        · exact h
        · exact h1 y hy, h2⟩
theorem impl_ord (f : Int) (R : List Int) : ∀ (d : Nat) (A r : List Int), r.length ≤ d → (A = [] ∨ ∃ B z, A = B ++ [z] ∧ cls z = 0) → (A ++ r).length ≤ 400000000 →
    Ev (fun k => impl_normal.l1 k f (r.foldl pushO A) ((A.length + r.length : Nat) : Int)) R → Ev (fun k => impl_normal.l1 k f (A ++ r) (A.length : Int)) R := by
  intro d
  induction d with
  | zero =>
    intro A r hr hA hb h
    have : r = [] := List.eq_nil_of_length_eq_zero (by omega)
    subst this
    simpa using h
  | succ d ih =>
    intro A r hr hA hb h
    by_cases h0 : r = []
    · subst h0; simpa using h
    obtain ⟨u, v, rfl, hu, hv⟩ := part_marks r
    rw [List.length_append] at hb
    have hpos := List.length_pos_iff.2 h0
    rw [List.length_append] at hpos hr hb
    refine Ev.succ ?_
    have hlt : (A.length : Int) < ((A ++ (u ++ v)).length : Int) := by simp; omega
    simp only [impl_normal.l1, if_pos hlt]
    have hsc := impl_scan f A u v R hu hv h0 (by simp; omega) ?_ u.length 0 (by omega)
    · rw [Nat.add_zero, List.append_assoc] at hsc; exact hsc
    · rw [mx_nat]
      rw [List.foldl_append, fold_srt A u hA hu] at h
      rcases hv with rfl | ⟨y, w, rfl, hy⟩
      · -- nothing behind
        simp only [List.length_nil, Nat.add_zero] at hpos
        rw [show max (A.length + u.length) (A.length + 1) = A.length + u.length from by omega, List.append_nil]
        simpa using h
      · -- what is no mark stands behind: the next round, or the one behind it
        have hend : ∀ X : List Int, (X ++ srtL cls u) = (X ++ srtL cls u) := fun _ => rfl
        by_cases hu0 : u = []
        · subst hu0
          rw [show max (A.length + ([] : List Int).length) (A.length + 1) = (A ++ [y]).length from by simp]
          have e : A ++ srtL cls [] ++ y :: w = (A ++ [y]) ++ w := by simp [srtL]
          rw [e]
          refine ih (A ++ [y]) w (by simp at hr; omega) (.inr ⟨A, y, rfl, hy⟩) (by simp at hb ⊢; omega) ?_
          have e2 : (A ++ srtL cls []) = A := by simp [srtL]
          rw [e2, List.foldl_cons, pushO_zero _ _ hy] at h
          have e3 : (A ++ [y]).length + w.length = A.length + ([] ++ y :: w).length := by simp; omega
          rw [e3]
          exact h
        · have hul := List.length_pos_iff.2 hu0
          rw [show max (A.length + u.length) (A.length + 1) = (A ++ srtL cls u).length from by rw [List.length_append, Stab.srtL_length]; omega]
          -- one idle round at y
          have hidle := impl_scan f (A ++ srtL cls u) [] (y :: w) R (by simp) (.inr ⟨y, w, rfl, hy⟩) (by simp) (by simp [Stab.srtL_length] at hb ⊢; omega) ?_ 0 0 rfl
          · refine Ev.succ ?_
            have hlt2 : ((A ++ srtL cls u).length : Int) < ((A ++ srtL cls u ++ y :: w).length : Int) := by simp; omega
            simp only [impl_normal.l1, if_pos hlt2]
            simpa using hidle
          · rw [mx_nat, show max ((A ++ srtL cls u).length + ([] : List Int).length) ((A ++ srtL cls u).length + 1) = (A ++ srtL cls u ++ [y]).length from by simp; omega]
            have e : A ++ srtL cls u ++ srtL cls [] ++ y :: w = (A ++ srtL cls u ++ [y]) ++ w := by simp [srtL]
            rw [e]
            refine ih (A ++ srtL cls u ++ [y]) w (by simp at hr; omega) (.inr ⟨_, y, rfl, hy⟩) (by simp [Stab.srtL_length] at hb ⊢; omega) ?_
            rw [List.foldl_cons, pushO_zero _ _ hy] at h
            have e3 : (A ++ srtL cls u ++ [y]).length + w.length = A.length + (u ++ y :: w).length := by simp [Stab.srtL_length]; omega
            rw [e3]
            exact h
end Go.Proofs.YtnbedmihgnjdpaaDoor.PFnExactCollatorFault
/- What the program's normal and the reference's l05Norm come to: the composing, and all of it. -/
namespace Go.Proofs.YtnbedmihgnjdpaaDoor.PFnExactCollatorFault
open Go.RowKit Go.Proofs.YtnbedmihgnjdpaaDoorW.PrintWords Go.Proofs.YtnbedmihgnjdpaaDoorW.PrintLast Go.Proofs.YtnbedmihgnjdpaaDoorW.PrintMore Go.Proofs.YtnbedmihgnjdpaaDoor.Lib
def pr (a b : Int) : Int := c1 a b (letterAt a)
theorem pr_small (a b : Int) (ha : okI a) (h : pr a b ≥ 0) : pr a b ≤ 50000 := by
  have hl := letterAt_range a
  unfold okI at ha
  unfold pr c1 c2 c3 c4 c5 at h ⊢
  repeat' split
  all_goals (first | omega | skip)
theorem pr_ok (a b : Int) (ha : okI a) (h : pr a b ≥ 0) : okI (pr a b) := by
  have := pr_small a b ha h
  unfold okI; omega
def lst (M : List Int) : Int := cls (M.getLast?.getD 0)
theorem lst_snoc (M : List Int) (p : Int) : lst (M ++ [p]) = cls p := by unfold lst; simp
def fin (P : List Int) (s : Int) (M : List Int) : List Int → List Int
  | [] => P ++ s :: M
  | p :: l => if (M = [] ∨ lst M < cls p) ∧ pr s p ≥ 0 then fin P (pr s p) M l else if cls p = 0 then fin (P ++ s :: M) p [] l else fin P s (M ++ [p]) l
def fin0 (P : List Int) : List Int → List Int
  | [] => P
  | p :: l => if cls p = 0 then fin P p [] l else fin0 (P ++ [p]) l
theorem fin_length : ∀ (l P : List Int) (s : Int) (M : List Int), (fin P s M l).length ≤ P.length + 1 + M.length + l.length
  | [], P, s, M => by simp [fin]; omega
  | p :: l, P, s, M => by
    rw [fin]
    split
    · have := fin_length l P (pr s p) M; simp; omega
    · split
      · have := fin_length l (P ++ s :: M) p []; simp at this ⊢; omega
      · have := fin_length l P s (M ++ [p]); simp at this ⊢; omega
theorem fin0_length : ∀ (l P : List Int), (fin0 P l).length ≤ P.length + l.length
  | [], P => by simp [fin0]
  | p :: l, P => by
    rw [fin0]
    split
    · have := fin_length l P p []; simp at this ⊢; omega
    · have := fin0_length l (P ++ [p]); simp at this ⊢; omega
theorem set_at (P : List Int) (s x : Int) (M : List Int) : (P ++ s :: M).set ((P.length : Int)).toNat x = P ++ x :: M := by
  rw [show ((P.length : Int)).toNat = P.length from by omega]; simp
theorem impl_fin (l : List Int) (hl : l.length ≤ 400000000) (hp : ∀ p ∈ l, okI p) : ∀ (d n : Nat) (P : List Int) (s : Int) (M : List Int) (last : Int), n + d = l.length → P.length + 1 + M.length ≤ n → okI s → (M ≠ [] → last = lst M ∧ last ≠ 0) →
    Ev (fun k => impl_normal.l3 k (P ++ s :: M) (P.length : Int) last l (l.length : Int) (n : Int)) (fin P s M (l.drop n)) := by
  intro d
  induction d with
  | zero =>
    intro n P s M last hn hb hs hM
    rw [List.drop_eq_nil_of_le (by omega)]
    refine Ev.succ ?_
    simp only [impl_normal.l3, if_neg (show ¬ (n : Int) < (l.length : Int) by omega)]
    exact Ev.now _
  | succ d ih =>
    intro n P s M last hn hb hs hM
    have hlt : n < l.length := by omega
    have hd := List.drop_eq_getElem_cons hlt
    have hpp := hp _ (List.getElem_mem hlt)
    have hw : wrap64 ((n : Int) + 1) = ((n + 1 : Nat) : Int) := by rw [w64 (by omega) (by omega)]; omega
    have hlen : ((P ++ s :: M).length : Int) = ((P.length + 1 + M.length : Nat) : Int) := by simp; omega
    have hw1 : wrap64 (((P.length + 1 + M.length : Nat) : Int) - 1) = ((P.length + M.length : Nat) : Int) := by rw [w64 (by omega) (by omega)]; omega
    have hgs : rd (P ++ s :: M) (P.length : Int) = s := rd_mid _ _ _ _ rfl
    have hap : ∀ p : Int, P ++ s :: M ++ [p] = (P ++ s :: M) ++ p :: [] := fun p => by simp
    have hap2 : ∀ p : Int, P ++ s :: M ++ [p] = P ++ s :: (M ++ [p]) := fun p => by simp
    have hlen2 : ∀ p : Int, ((P ++ s :: M ++ [p]).length : Int) = ((P.length + 1 + M.length + 1 : Nat) : Int) := fun p => by simp; omega
    have hw2 : wrap64 (((P.length + 1 + M.length + 1 : Nat) : Int) - 1) = ((P ++ s :: M).length : Int) := by rw [w64 (by omega) (by omega), hlen]; omega
    have hlen3 : (P ++ s :: M).length < 17592186044416 := by simp; omega
    -- what is put behind
    have put : Ev (fun k => if cls l[n] = 0 then impl_normal.l3 k (P ++ s :: M ++ [l[n]]) (((P ++ s :: M).length : Int)) (cls l[n]) l (l.length : Int) (wrap64 ((n : Int) + 1)) else impl_normal.l3 k (P ++ s :: M ++ [l[n]]) (P.length : Int) (cls l[n]) l (l.length : Int) (wrap64 ((n : Int) + 1)))
        (if cls l[n] = 0 then fin (P ++ s :: M) l[n] [] (l.drop (n + 1)) else fin P s (M ++ [l[n]]) (l.drop (n + 1))) := by
      by_cases hc : cls l[n] = 0
      · simp only [if_pos hc, hw]
        rw [hap]
        exact ih (n + 1) (P ++ s :: M) l[n] [] (cls l[n]) (by omega) (by simp; omega) hpp (fun h => absurd rfl h)
      · simp only [if_neg hc, hw]
        rw [hap2]
        exact ih (n + 1) P s (M ++ [l[n]]) (cls l[n]) (by omega) (by simp; omega) hs (fun _ => ⟨(lst_snoc _ _).symm, hc⟩)
    have free : Ev (fun k => impl_normal.j5 k (P ++ s :: M) (P.length : Int) last l[n] (cls l[n]) true l (l.length : Int) (n : Int)) (if pr s l[n] ≥ 0 then fin P (pr s l[n]) M (l.drop (n + 1)) else if cls l[n] = 0 then fin (P ++ s :: M) l[n] [] (l.drop (n + 1)) else fin P s (M ++ [l[n]]) (l.drop (n + 1))) := by
      refine Ev.succ ?_
      simp only [impl_normal.j5, if_true, if_pos (show (0 : Int) ≤ (P.length : Int) by omega), hlen, if_pos (show (P.length : Int) < ((P.length + 1 + M.length : Nat) : Int) by omega), hgs]
      refine Ev.bind (g := fun k => impl_Compose.f k s l[n]) (a := pr s l[n]) (Ev.at_ 6 (fun k => pair_impl _ _ k (okI_64 hs))) ?_
      by_cases hc : pr s l[n] ≥ 0
      · simp only [if_pos hc, set_at, hw]
        exact ih (n + 1) P (pr s l[n]) M last (by omega) (by omega) (pr_ok _ _ hs hc) hM
      · simp only [if_neg hc, if_pos hlen3, Option.bind_some, hlen2, hw2]
        exact put
    have held : Ev (fun k => impl_normal.j5 k (P ++ s :: M) (P.length : Int) last l[n] (cls l[n]) false l (l.length : Int) (n : Int)) (if cls l[n] = 0 then fin (P ++ s :: M) l[n] [] (l.drop (n + 1)) else fin P s (M ++ [l[n]]) (l.drop (n + 1))) := by
      refine Ev.succ ?_
      simp only [impl_normal.j5, Bool.false_eq_true, if_false, if_pos hlen3, Option.bind_some, hlen2, hw2]
      exact put
    rw [hd, fin]
    refine Ev.succ ?_
    simp only [impl_normal.l3, if_pos (show (n : Int) < (l.length : Int) by omega), if_pos (show (0 : Int) ≤ (n : Int) by omega), rd_at l n hlt, cls_impl, Option.bind_some, if_pos (show (P.length : Int) ≥ 0 by omega), hlen, hw1]
    by_cases hM0 : M = []
    · subst hM0
      simp only [List.length_nil, Nat.add_zero, if_true]
      by_cases hc : pr s l[n] ≥ 0
      · rw [if_pos ⟨.inl (by first | rfl | trivial), hc⟩]; rw [if_pos hc] at free; exact free
      · rw [if_neg (fun h => hc h.2)]; rw [if_neg hc] at free; exact free
    · have hpos := List.length_pos_iff.2 hM0
      obtain ⟨hlast, hl0⟩ := hM hM0
      simp only [if_neg (show ¬ ((P.length + M.length : Nat) : Int) = (P.length : Int) by omega), if_neg hl0]
      by_cases hf : last < cls l[n]
      · simp only [decide_eq_true hf]
        rw [hlast] at hf
        by_cases hc : pr s l[n] ≥ 0
        · rw [if_pos ⟨.inr hf, hc⟩]; rw [if_pos hc] at free; exact free
        · rw [if_neg (fun h => hc h.2)]; rw [if_neg hc] at free; exact free
      · simp only [decide_eq_false hf]
        rw [hlast] at hf
        rw [if_neg (fun h => by rcases h.1 with h | h; exact hM0 h; exact hf h)]
        exact held
theorem impl_fin0 (l : List Int) (hl : l.length ≤ 400000000) (hp : ∀ p ∈ l, okI p) : ∀ (d n : Nat) (P : List Int) (last : Int), n + d = l.length → P.length ≤ n →
    Ev (fun k => impl_normal.l3 k P (-1) last l (l.length : Int) (n : Int)) (fin0 P (l.drop n)) := by
  intro d
  induction d with
  | zero =>
    intro n P last hn hb
    rw [List.drop_eq_nil_of_le (by omega)]
    refine Ev.succ ?_
    simp only [impl_normal.l3, if_neg (show ¬ (n : Int) < (l.length : Int) by omega)]
    exact Ev.now _
  | succ d ih =>
    intro n P last hn hb
    have hlt : n < l.length := by omega
    have hd := List.drop_eq_getElem_cons hlt
    have hw : wrap64 ((n : Int) + 1) = ((n + 1 : Nat) : Int) := by rw [w64 (by omega) (by omega)]; omega
    have hlen2 : ((P ++ [l[n]]).length : Int) = ((P.length + 1 : Nat) : Int) := by simp
    have hw2 : wrap64 (((P.length + 1 : Nat) : Int) - 1) = (P.length : Int) := by rw [w64 (by omega) (by omega)]; omega
    rw [hd, fin0]
    refine Ev.succ ?_
    simp only [impl_normal.l3, if_pos (show (n : Int) < (l.length : Int) by omega), if_pos (show (0 : Int) ≤ (n : Int) by omega), rd_at l n hlt, cls_impl, Option.bind_some, if_neg (show ¬ (-1 : Int) ≥ 0 by omega), if_pos (show P.length < 17592186044416 by omega), hlen2, hw2, hw]
    by_cases hc : cls l[n] = 0
    · simp only [if_pos hc]
      exact impl_fin l hl hp d (n + 1) P l[n] [] (cls l[n]) (by omega) (by simp; omega) (hp _ (List.getElem_mem hlt)) (fun h => absurd rfl h)
    · simp only [if_neg hc]
      exact ih (n + 1) (P ++ [l[n]]) (cls l[n]) (by omega) (by simp; omega)
def allLt (kc : Int) (M : List Int) : Bool := M.all (fun y => decide (cls y ≠ 0) && decide (cls y < kc))
theorem spec_scan (l : List Int) (P : List Int) (s : Int) (M : List Int) (n : Int) (p kc : Int) (R : List Int) (hb : P.length + M.length ≤ 1000000000) : ∀ (d j : Nat), j + d = M.length →
    (∀ z, Ev (fun k => spec_l05Composed.j2 k l (P ++ s :: M) (P.length : Int) n p kc (allLt kc (M.drop j)) z false) R) →
    Ev (fun k => spec_l05Composed.l1 k l (P ++ s :: M) (P.length : Int) n p kc true ((P.length + 1 + j : Nat) : Int)) R := by
  have hlen : ((P ++ s :: M).length : Int) = ((P.length + 1 + M.length : Nat) : Int) := by simp; omega
  intro d
  induction d with
  | zero =>
    intro j hj h
    refine Ev.succ ?_
    simp only [spec_l05Composed.l1, if_true, hlen, decide_eq_false (show ¬ ((P.length + 1 + j : Nat) : Int) < ((P.length + 1 + M.length : Nat) : Int) by omega)]
    have h := h ((P.length + 1 + j : Nat) : Int)
    rw [List.drop_eq_nil_of_le (by omega)] at h
    exact h
  | succ d ih =>
    intro j hj h
    have hlt : j < M.length := by omega
    have hg : rd (P ++ s :: M) ((P.length + 1 + j : Nat) : Int) = M[j] := by
      rw [rd_at _ _ (by simp; omega)]
      have e : P ++ s :: M = (P ++ [s]) ++ M := by simp
      simp only [e]
      rw [List.getElem_append_right (by simp)]
      simp
    have hw : wrap64 (((P.length + 1 + j : Nat) : Int) + 1) = ((P.length + 1 + (j + 1) : Nat) : Int) := by rw [w64 (by omega) (by omega)]; omega
    have hd := List.drop_eq_getElem_cons hlt
    refine Ev.succ ?_
    simp only [spec_l05Composed.l1, if_true, hlen, decide_eq_true (show ((P.length + 1 + j : Nat) : Int) < ((P.length + 1 + M.length : Nat) : Int) by omega)]
    refine Ev.succ ?_
    simp only [spec_l05Composed.j2, if_true, hlen, if_pos (show (0 : Int) ≤ ((P.length + 1 + j : Nat) : Int) by omega), if_pos (show ((P.length + 1 + j : Nat) : Int) < ((P.length + 1 + M.length : Nat) : Int) by omega), hg, hw]
    refine Ev.bind (g := fun k => spec_l01Class.f k M[j]) (a := cls M[j]) (Ev.at_ 1 (fun k => cls_spec _ k)) ?_
    have stop : allLt kc (M.drop j) = false → Ev (fun k => spec_l05Composed.l1 k l (P ++ s :: M) (P.length : Int) n p kc false ((P.length + 1 + (j + 1) : Nat) : Int)) R := fun he => by
      refine Ev.succ ?_
      simp only [spec_l05Composed.l1, Bool.false_eq_true, if_false]
      have h := h ((P.length + 1 + (j + 1) : Nat) : Int)
      rw [he] at h
      exact h
    by_cases hc : cls M[j] = 0
    · simp only [if_pos hc]
      exact stop (by unfold allLt; rw [hd, List.all_cons]; simp [hc])
    · simp only [if_neg hc]
      refine Ev.bind (g := fun k => spec_l01Class.f k M[j]) (a := cls M[j]) (Ev.at_ 1 (fun k => cls_spec _ k)) ?_
      by_cases hf : cls M[j] < kc
      · simp only [decide_eq_true hf]
        refine ih (j + 1) (by omega) (fun z => ?_)
        have h := h z
        have e : allLt kc (M.drop j) = allLt kc (M.drop (j + 1)) := by unfold allLt; rw [hd, List.all_cons]; simp [hc, hf]
        rw [e] at h
        exact h
      · simp only [decide_eq_false hf]
        exact stop (by unfold allLt; rw [hd, List.all_cons]; simp [hf])
def chF : List Int → Prop
  | [] => True
  | x :: l => (∀ y r, l = y :: r → cls y ≠ 0 → cls x ≤ cls y) ∧ chF l
def okM (M : List Int) : Prop := ∀ y ∈ M, cls y ≠ 0 ∧ cls y ≤ lst M
theorem lst_mem (M : List Int) (h : M ≠ []) : ∃ y ∈ M, lst M = cls y := by
  refine ⟨M.getLast h, List.getLast_mem h, ?_⟩
  unfold lst
  rw [List.getLast?_eq_some_getLast h]; rfl
theorem allLt_eq (kc : Int) (M : List Int) (h : okM M) : allLt kc M = decide (M = [] ∨ lst M < kc) := by
  by_cases h0 : M = []
  · subst h0; simp [allLt]
  · by_cases hk : lst M < kc
    · rw [decide_eq_true (.inr hk)]
      unfold allLt
      rw [List.all_eq_true]
      intro y hy
      have := h y hy
      simp only [Bool.and_eq_true, decide_eq_true_eq]
      exact ⟨this.1, by omega⟩
    · rw [decide_eq_false (fun h => by rcases h with h | h; exact h0 h; exact hk h)]
      obtain ⟨y, hy, he⟩ := lst_mem M h0
      unfold allLt
      rw [List.all_eq_false]
      exact ⟨y, hy, by simp; intro _; omega⟩
theorem okM_snoc (M : List Int) (p : Int) (h : okM M) (hp : cls p ≠ 0) (hq : M ≠ [] → lst M ≤ cls p) : okM (M ++ [p]) := by
  intro y hy
  rw [lst_snoc]
  rcases List.mem_append.1 hy with hy | hy
  · have h1 := h y hy
    have h2 := hq (List.ne_nil_of_mem hy)
    exact ⟨h1.1, by omega⟩
  · rw [List.mem_singleton.1 hy]; exact ⟨hp, by omega⟩
theorem spec_fin (l : List Int) (hl : l.length ≤ 400000000) (hp : ∀ p ∈ l, okI p) : ∀ (d n : Nat) (P : List Int) (s : Int) (M : List Int), n + d = l.length → P.length + 1 + M.length ≤ n → okI s → okM M → (M ≠ [] → ∀ y r, l.drop n = y :: r → cls y ≠ 0 → lst M ≤ cls y) → chF (l.drop n) →
    Ev (fun k => spec_l05Composed.l0 k l (P ++ s :: M) (P.length : Int) (n : Int)) (fin P s M (l.drop n)) := by
  intro d
  induction d with
  | zero =>
    intro n P s M hn hb hs hM hq hch
    rw [List.drop_eq_nil_of_le (by omega)]
    refine Ev.succ ?_
    simp only [spec_l05Composed.l0, if_neg (show ¬ (n : Int) < (l.length : Int) by omega)]
    exact Ev.now _
  | succ d ih =>
    intro n P s M hn hb hs hM hq hch
    have hlt : n < l.length := by omega
    have hd := List.drop_eq_getElem_cons hlt
    rw [hd] at hq hch
    have hpp := hp _ (List.getElem_mem hlt)
    have hw : wrap64 ((n : Int) + 1) = ((n + 1 : Nat) : Int) := by rw [w64 (by omega) (by omega)]; omega
    have hw0 : wrap64 ((P.length : Int) + 1) = ((P.length + 1 + 0 : Nat) : Int) := by rw [w64 (by omega) (by omega)]; omega
    have hlen : ((P ++ s :: M).length : Int) = ((P.length + 1 + M.length : Nat) : Int) := by simp; omega
    have hgs : rd (P ++ s :: M) (P.length : Int) = s := rd_mid _ _ _ _ rfl
    have hap : ∀ p : Int, P ++ s :: M ++ [p] = (P ++ s :: M) ++ p :: [] := fun p => by simp
    have hap2 : ∀ p : Int, P ++ s :: M ++ [p] = P ++ s :: (M ++ [p]) := fun p => by simp
    have hlen2 : ∀ p : Int, ((P ++ s :: M ++ [p]).length : Int) = ((P.length + 1 + M.length + 1 : Nat) : Int) := fun p => by simp; omega
    have hw2 : wrap64 (((P.length + 1 + M.length + 1 : Nat) : Int) - 1) = ((P ++ s :: M).length : Int) := by rw [w64 (by omega) (by omega), hlen]; omega
    have hlen3 : (P ++ s :: M).length < 17592186044416 := by simp; omega
    have put : Ev (fun k => if cls l[n] = 0 then spec_l05Composed.l0 k l (P ++ s :: M ++ [l[n]]) (((P ++ s :: M).length : Int)) (wrap64 ((n : Int) + 1)) else spec_l05Composed.l0 k l (P ++ s :: M ++ [l[n]]) (P.length : Int) (wrap64 ((n : Int) + 1)))
        (if cls l[n] = 0 then fin (P ++ s :: M) l[n] [] (l.drop (n + 1)) else fin P s (M ++ [l[n]]) (l.drop (n + 1))) := by
      by_cases hc : cls l[n] = 0
      · simp only [if_pos hc, hw]
        rw [hap]
        exact ih (n + 1) (P ++ s :: M) l[n] [] (by omega) (by simp; omega) hpp (fun y hy => by cases hy) (fun h => absurd rfl h) hch.2
      · simp only [if_neg hc, hw]
        rw [hap2]
        exact ih (n + 1) P s (M ++ [l[n]]) (by omega) (by simp; omega) hs (okM_snoc M _ hM hc (fun h => hq h _ _ rfl hc)) (fun _ y r hy hy0 => by rw [lst_snoc]; exact hch.1 y r hy hy0) hch.2
    have done : ∀ z, Ev (fun k => spec_l05Composed.j2 k l (P ++ s :: M) (P.length : Int) (n : Int) l[n] (cls l[n]) (allLt (cls l[n]) (M.drop 0)) z false) (fin P s M (l[n] :: l.drop (n + 1))) := fun z => by
      rw [List.drop_zero, allLt_eq _ _ hM, fin]
      refine Ev.succ ?_
      by_cases hf : M = [] ∨ lst M < cls l[n]
      · simp only [spec_l05Composed.j2, Bool.false_eq_true, if_false, decide_eq_true hf, if_true, if_pos (show (0 : Int) ≤ (P.length : Int) by omega), hlen, if_pos (show (P.length : Int) < ((P.length + 1 + M.length : Nat) : Int) by omega), hgs]
        refine Ev.bind (g := fun k => spec_l05Pair.f k s l[n]) (a := pr s l[n]) (Ev.at_ 4 (fun k => pair_spec _ _ k (okI_64 hs))) ?_
        by_cases hc : pr s l[n] ≥ 0
        · rw [if_pos ⟨hf, hc⟩]
          simp only [if_pos hc, set_at, hw]
          refine ih (n + 1) P (pr s l[n]) M (by omega) (by omega) (pr_ok _ _ hs hc) hM (fun h y r hy hy0 => ?_) hch.2
          have h1 := hch.1 y r hy hy0
          rcases hf with hf | hf
          · exact absurd hf h
          · omega
        · rw [if_neg (fun h => hc h.2)]
          simp only [if_neg hc, if_pos hlen3, Option.bind_some, hlen2, hw2]
          exact put
      · rw [if_neg (fun h => hf h.1)]
        simp only [spec_l05Composed.j2, Bool.false_eq_true, if_false, decide_eq_false hf, if_pos hlen3, Option.bind_some, hlen2, hw2]
        exact put
    rw [hd]
    refine Ev.succ ?_
    simp only [spec_l05Composed.l0, if_pos (show (n : Int) < (l.length : Int) by omega), if_pos (show (0 : Int) ≤ (n : Int) by omega), rd_at l n hlt, decide_eq_true (show (P.length : Int) ≥ 0 by omega), hw0]
    refine Ev.bind (g := fun k => spec_l01Class.f k l[n]) (a := cls l[n]) (Ev.at_ 1 (fun k => cls_spec _ k)) ?_
    exact spec_scan l P s M (n : Int) l[n] (cls l[n]) _ (by omega) M.length 0 (by omega) done
theorem spec_fin0 (l : List Int) (hl : l.length ≤ 400000000) (hp : ∀ p ∈ l, okI p) : ∀ (d n : Nat) (P : List Int), n + d = l.length → P.length ≤ n → chF (l.drop n) →
    Ev (fun k => spec_l05Composed.l0 k l P (-1) (n : Int)) (fin0 P (l.drop n)) := by
  intro d
  induction d with
  | zero =>
    intro n P hn hb hch
    rw [List.drop_eq_nil_of_le (by omega)]
    refine Ev.succ ?_
    simp only [spec_l05Composed.l0, if_neg (show ¬ (n : Int) < (l.length : Int) by omega)]
    exact Ev.now _
  | succ d ih =>
    intro n P hn hb hch
    have hlt : n < l.length := by omega
    have hd := List.drop_eq_getElem_cons hlt
    rw [hd] at hch
    have hw : wrap64 ((n : Int) + 1) = ((n + 1 : Nat) : Int) := by rw [w64 (by omega) (by omega)]; omega
    have hlen2 : ((P ++ [l[n]]).length : Int) = ((P.length + 1 : Nat) : Int) := by simp
    have hw2 : wrap64 (((P.length + 1 : Nat) : Int) - 1) = (P.length : Int) := by rw [w64 (by omega) (by omega)]; omega
    rw [hd, fin0]
    refine Ev.succ ?_
    simp only [spec_l05Composed.l0, if_pos (show (n : Int) < (l.length : Int) by omega), if_pos (show (0 : Int) ≤ (n : Int) by omega), rd_at l n hlt, decide_eq_false (show ¬ (-1 : Int) ≥ 0 by omega)]
    refine Ev.bind (g := fun k => spec_l01Class.f k l[n]) (a := cls l[n]) (Ev.at_ 1 (fun k => cls_spec _ k)) ?_
    refine Ev.succ ?_
    simp only [spec_l05Composed.l1, Bool.false_eq_true, if_false]
    refine Ev.succ ?_
    simp only [spec_l05Composed.j2, Bool.false_eq_true, if_false, if_pos (show P.length < 17592186044416 by omega), Option.bind_some, hlen2, hw2, hw]
    by_cases hc : cls l[n] = 0
    · simp only [if_pos hc]
      exact spec_fin l hl hp d (n + 1) P l[n] [] (by omega) (by simp; omega) (hp _ (List.getElem_mem hlt)) (fun y hy => by cases hy) (fun h => absurd rfl h) hch.2
    · simp only [if_neg hc]
      exact ih (n + 1) (P ++ [l[n]]) (by omega) (by simp; omega) hch.2
def chR : List Int → Prop
  | [] => True
  | y :: r => (cls y ≠ 0 → ∀ z q, r = z :: q → cls z ≤ cls y) ∧ chR r
theorem chR_ins (x : Int) (hx : cls x ≠ 0) : ∀ r : List Int, chR r → chR (insR x r)
  | [], _ => ⟨fun _ z q h => (by cases h), trivial⟩
  | y :: r, h => by
    rw [insR]
    split
    next hlt =>
      refine ⟨fun hy z q hz => ?_, chR_ins x hx r h.2⟩
      cases r with
      | nil => simp [insR] at hz; rw [← hz.1]; omega
      | cons a r =>
        rw [insR] at hz
        split at hz
        · injection hz with h1 h2; rw [← h1]; exact h.1 hy a r rfl
        · injection hz with h1 h2; rw [← h1]; omega
    next hlt => exact ⟨fun _ z q hz => by injection hz with h1 h2; rw [← h1]; omega, h⟩
theorem chR_push (acc : List Int) (x : Int) (h : chR acc.reverse) : chR (pushO acc x).reverse := by
  unfold pushO
  split
  next hc => rw [List.reverse_append]; exact ⟨fun h0 => absurd hc h0, h⟩
  next hc => rw [List.reverse_reverse]; exact chR_ins x hc _ h
theorem chR_fold : ∀ (l acc : List Int), chR acc.reverse → chR (l.foldl pushO acc).reverse
  | [], _, h => h
  | x :: l, acc, h => chR_fold l _ (chR_push acc x h)
theorem chF_snoc (y : Int) : ∀ A : List Int, chF A → (∀ B z, A = B ++ [z] → cls y ≠ 0 → cls z ≤ cls y) → chF (A ++ [y])
  | [], _, _ => ⟨fun a r h => (by cases h), trivial⟩
  | [x], h, hz => ⟨fun a r he h0 => by injection he with h1 h2; subst h1; exact hz [] x rfl h0, chF_snoc y [] trivial (fun B z h => by cases B <;> cases h)⟩
  | x :: x2 :: A, h, hz => by
    refine ⟨fun a r he h0 => ?_, chF_snoc y (x2 :: A) h.2 (fun B z he => hz (x :: B) z (by rw [he]; rfl))⟩
    have he2 : x2 :: (A ++ [y]) = a :: r := he
    injection he2 with h1 h2
    exact h.1 a A (by rw [h1]) h0
theorem chF_rev : ∀ r : List Int, chR r → chF r.reverse
  | [], _ => trivial
  | y :: r, h => by
    rw [List.reverse_cons]
    refine chF_snoc y _ (chF_rev r h.2) (fun B z he h0 => h.1 h0 z B.reverse ?_)
    have := congrArg List.reverse he
    simpa using this
theorem ord_ch (l : List Int) : chF (ord l) := by
  have := chF_rev _ (chR_fold l [] trivial)
  rwa [List.reverse_reverse] at this
def nrm (f : Int) (l : List Int) : List Int := if f = 1 ∨ f = 3 then ord (dAll (decide (f ≥ 3)) l) else fin0 [] (ord (dAll (decide (f ≥ 3)) l))
theorem ord_ok (l : List Int) (h : ∀ p ∈ l, okI p) : ∀ p ∈ ord l, okI p := by
  intro p hp
  rcases fold_mem l [] p hp with h1 | h1
  · cases h1
  · exact h p h1
theorem nrm_length (f : Int) (l : List Int) : (nrm f l).length ≤ 4 * l.length := by
  have h1 := dAll_len (decide (f ≥ 3)) l
  have h2 := ord_length (dAll (decide (f ≥ 3)) l)
  have h3 := fin0_length (ord (dAll (decide (f ≥ 3)) l)) []
  simp only [List.length_nil] at h3
  unfold nrm; split <;> omega
theorem impl_nrm (f : Int) (hf : 1 ≤ f ∧ f ≤ 4) (l : List Int) (hl : l.length ≤ 100000000) (hp : ∀ p ∈ l, okI p) : Ev (fun k => impl_normal.f k f l) (nrm f l) := by
  unfold impl_normal.f
  have h4 := dAll_len (decide (f ≥ 3)) l
  refine impl_all f l hl hp _ l.length 0 [] (by omega) (by simp) ?_
  rw [List.drop_zero, List.nil_append]
  refine impl_ord f _ _ [] (dAll (decide (f ≥ 3)) l) (Nat.le_refl _) (.inl rfl) (by rw [List.nil_append]; omega) ?_
  have ho : (dAll (decide (f ≥ 3)) l).foldl pushO [] = ord (dAll (decide (f ≥ 3)) l) := rfl
  have hol := ord_length (dAll (decide (f ≥ 3)) l)
  rw [ho]
  refine Ev.succ ?_
  simp only [impl_normal.l1, hol, List.length_nil, Nat.zero_add, if_neg (show ¬ ((dAll (decide (f ≥ 3)) l).length : Int) < ((dAll (decide (f ≥ 3)) l).length : Int) by omega)]
  have yes : f = 1 ∨ f = 3 → Ev (fun k => impl_normal.j3 k (ord (dAll (decide (f ≥ 3)) l)) true) (nrm f l) := fun h => by
    unfold nrm; rw [if_pos h]
    refine Ev.succ ?_
    simp only [impl_normal.j3, if_true]
    exact Ev.now _
  by_cases h1 : f = 1
  · simp only [if_pos h1]; exact yes (.inl h1)
  · simp only [if_neg h1]
    by_cases h3 : f = 3
    · rw [beq_iff_eq.2 h3]; exact yes (.inr h3)
    · rw [beq_false_of_ne h3]
      refine Ev.succ ?_
      simp only [impl_normal.j3, Bool.false_eq_true, if_false]
      unfold nrm
      rw [if_neg (fun h => by rcases h with h | h; exact h1 h; exact h3 h)]
      have := impl_fin0 (ord (dAll (decide (f ≥ 3)) l)) (by omega) (ord_ok _ (dAll_ok _ _ hp)) _ 0 [] 0 (Nat.zero_add _) (by simp)
      simpa using this
theorem spec_nrm (f : Int) (hf : 1 ≤ f ∧ f ≤ 4) (l : List Int) (hl : l.length ≤ 100000000) (hp : ∀ p ∈ l, okI p) : Ev (fun k => spec_l05Norm.f k f l) (nrm f l) := by
  unfold spec_l05Norm.f
  have h4 := dAll_len (decide (f ≥ 3)) l
  refine spec_all f l hl hp _ l.length 0 [] (by omega) (by simp) ?_
  rw [List.drop_zero, List.nil_append]
  refine Ev.bind (g := fun k => spec_l05Ordered.f k (dAll (decide (f ≥ 3)) l)) (a := ord (dAll (decide (f ≥ 3)) l)) (spec_ordered _ (by omega)) ?_
  have hol := ord_length (dAll (decide (f ≥ 3)) l)
  unfold spec_l05C.f nrm
  simp only [Option.bind_some]
  by_cases h1 : f = 1 ∨ f = 3
  · have e : (Int.tmod f 2 == 0) = false := by rcases h1 with rfl | rfl <;> decide
    rw [e, if_pos h1]
    simp only [Bool.false_eq_true, if_false]
    exact Ev.now _
  · have h2 : f = 2 ∨ f = 4 := by omega
    have e : (Int.tmod f 2 == 0) = true := by rcases h2 with rfl | rfl <;> decide
    rw [e, if_neg h1]
    simp only [if_true]
    refine Ev.bind (g := fun k => spec_l05Composed.f k (ord (dAll (decide (f ≥ 3)) l))) (a := fin0 [] (ord (dAll (decide (f ≥ 3)) l))) ?_ (Ev.now _)
    unfold spec_l05Composed.f
    have := spec_fin0 (ord (dAll (decide (f ≥ 3)) l)) (by omega) (ord_ok _ (dAll_ok _ _ hp)) _ 0 [] (Nat.zero_add _) (by simp) (ord_ch _)
    simpa using this
end Go.Proofs.YtnbedmihgnjdpaaDoor.PFnExactCollatorFault
/- Texts in a form: the program's norm, the reference's l05Text. -/
namespace Go.Proofs.YtnbedmihgnjdpaaDoor.PFnExactCollatorFault
open Go.RowKit Go.Proofs.YtnbedmihgnjdpaaDoorW.PrintWords Go.Proofs.YtnbedmihgnjdpaaDoorW.PrintLast Go.Proofs.YtnbedmihgnjdpaaDoorW.PrintMore Go.Proofs.YtnbedmihgnjdpaaDoor.Lib
theorem Ev.from_ {α : Type} {g : Nat → Option α} {r : α} (K : Nat) (h : ∀ k, K ≤ k → g k = some r) : Ev g r := ⟨K, h⟩
theorem pts_ok (s : ByteArray) : ∀ p ∈ pts s, okI p := fun p hp => by
  have := (isPt_iff p).1 (pts_pt s p hp)
  unfold okI; omega
def txt (f : Int) (s : ByteArray) : ByteArray := strOfNums (encAll (nrm f (pts s)))
def sml (t : ByteArray) : ByteArray := if (t.size : Int) > 65536 then ⟨#[]⟩ else t
theorem inF (f a b : Int) : impl_in.f f a b = some (decide (a ≤ f ∧ f ≤ b)) := by
  unfold impl_in.f
  by_cases h : f ≥ a
  · rw [if_pos h]; congr 1; exact decide_eq_decide.2 (by omega)
  · rw [if_neg h, decide_eq_false (show ¬ (a ≤ f ∧ f ≤ b) by omega)]
theorem isNormT (f : Int) : impl_isNorm.f f = some (decide (1 ≤ f ∧ f ≤ 4)) := by unfold impl_isNorm.f; rw [inF]; rfl
theorem impl_norm_ev (f : Int) (hf : 1 ≤ f ∧ f ≤ 4) (s : ByteArray) (hs : s.size ≤ 1048576) : Ev (fun k => impl_norm.f k f s) (txt f s) := by
  have hl := pts_len s
  have hn := nrm_length f (pts s)
  unfold impl_norm.f
  refine Ev.bind (g := fun k => impl_points.f k s) (a := pts s) (Ev.from_ (s.size + 1) (fun k hk => points_eq s k hk hs)) ?_
  refine Ev.bind (g := fun k => impl_normal.f k f (pts s)) (a := nrm f (pts s)) (impl_nrm f hf _ (by omega) (pts_ok s)) ?_
  exact Ev.bind (g := fun k => impl_write.f k (nrm f (pts s))) (a := txt f s) (Ev.from_ ((nrm f (pts s)).length + 2) (fun k hk => write_eq _ k hk (by omega))) (Ev.now _)
end Go.Proofs.YtnbedmihgnjdpaaDoor.PFnExactCollatorFault
/- IsNormal, the program's and the reference's. -/
namespace Go.Proofs.YtnbedmihgnjdpaaDoor.PFnExactCollatorFault
open Go.RowKit Go.Proofs.YtnbedmihgnjdpaaDoorW.PrintWords Go.Proofs.YtnbedmihgnjdpaaDoorW.PrintLast Go.Proofs.YtnbedmihgnjdpaaDoorW.PrintMore Go.Proofs.YtnbedmihgnjdpaaDoor.Lib
def isN (f : Int) (s : ByteArray) : Bool := decide (s.size ≤ 65536) && decide (1 ≤ f ∧ f ≤ 4) && ((txt f s).toList == s.toList)
theorem isN_impl (f : Int) (s : ByteArray) (hs : s.size ≤ 1048576) : Ev (fun k => impl_IsNormal.f k f s) (isN f s) := by
  have hwell : impl_well.f s = some (Go.Lib.validD s.data.toList) := by
    unfold impl_well.f utf8_ValidString.f
    rw [if_pos (by omega)]; rfl
  unfold impl_IsNormal.f impl_long.f isN
  simp only [isNormT, hwell, Option.bind_some]
  by_cases h : (s.size : Int) > 65536
  · simp only [decide_eq_true h, if_true, decide_eq_false (show ¬ s.size ≤ 65536 by omega), Bool.false_and]
    exact Ev.now _
  simp only [decide_eq_false h, Bool.false_eq_true, if_false, decide_eq_true (show s.size ≤ 65536 by omega), Bool.true_and]
  by_cases hb : 1 ≤ f ∧ f ≤ 4
  · simp only [decide_eq_true hb, if_true, Bool.true_and]
    by_cases hv : Go.Lib.validD s.data.toList = true
    · simp only [hv, if_true]
      exact Ev.bind (g := fun k => impl_norm.f k f s) (impl_norm_ev f hb s hs) (Ev.now _)
    · have hv' : Go.Lib.validD s.data.toList = false := by simpa using hv
      simp only [hv', Bool.false_eq_true, if_false]
      have : ((txt f s).toList == s.toList) = false := by
        rw [beq_eq_false_iff_ne]
        intro he
        have he := toList_inj he
        have := valid_written (nrm f (pts s))
        rw [show strOfNums (encAll (nrm f (pts s))) = s from he] at this
        exact hv this
      rw [this]
      exact Ev.now _
  · simp only [decide_eq_false hb, Bool.false_eq_true, if_false, Bool.false_and]
    exact Ev.now _
end Go.Proofs.YtnbedmihgnjdpaaDoor.PFnExactCollatorFault

/- What the laws' own copies and comparisons of rows of int64 come to: toInt64S, eqInt64S. -/
import Derived.Test.YtogdmjcdfjnifaaDoorPFnExactPackTriex
import Derived.Test.YtogdmjcdfjnifaaDoorLib
set_option linter.unusedSimpArgs false
set_option linter.unusedVariables false
namespace Go.Proofs.YtogdmjcdfjnifaaDoor.PFnExactPackTrie
open Go.RowKit Go.Proofs.YtogdmjcdfjnifaaDoorW.PrintWords Go.Proofs.YtogdmjcdfjnifaaDoorW.PrintLast Go.Proofs.YtogdmjcdfjnifaaDoorW.PrintMore Go.Proofs.YtogdmjcdfjnifaaDoor.Lib

theorem toInt64S_l0 (l : List Int) (hl : l.length ≤ 35184372088832) : ∀ (d n k : Nat) (x : List Int), n + d = l.length → d < k → x.length = l.length → x.take n = l.take n →
    laws_toInt64S.l0 k l x (n : Int) = some l := by
  intro d
  induction d with
  | zero =>
    intro n k x hn hk hx ht
    obtain ⟨k, rfl⟩ : ∃ m, k = m + 1 := ⟨k - 1, by omega⟩
    simp only [laws_toInt64S.l0]
    rw [if_neg (by omega)]
    rw [List.take_of_length_le (by omega), List.take_of_length_le (by omega)] at ht
    rw [ht]
  | succ d ih =>
    intro n k x hn hk hx ht
    obtain ⟨k, rfl⟩ : ∃ m, k = m + 1 := ⟨k - 1, by omega⟩
    have hlt : n < l.length := by omega
    simp only [laws_toInt64S.l0]
    rw [if_pos (by omega), if_pos (by omega), if_pos (by omega), rd_nat l n hlt, w64s hlt (by omega)]
    refine ih (n + 1) k _ (by omega) (by omega) (by simpa using hx) ?_
    rw [Int.toNat_natCast, List.take_succ_eq_append_getElem (by simp; omega), List.take_succ_eq_append_getElem hlt, List.take_set_of_le (Nat.le_refl n), ht]
    simp
theorem toInt64S_eq (l : List Int) (k : Nat) (hk : l.length + 1 ≤ k) (hl : l.length ≤ 35184372088832) : laws_toInt64S.f k l = some l := by
  unfold laws_toInt64S.f
  rw [if_pos (by omega), if_pos (by simpa using hl)]
  exact toInt64S_l0 l hl l.length 0 k _ (by omega) (by omega) (by simp) (by simp)
theorem eqInt64S_l0 (l : List Int) (hl : l.length ≤ 35184372088832) : ∀ (d n k : Nat), n + d = l.length → d < k → laws_eqInt64S.l0 k l l (n : Int) = some true := by
  intro d
  induction d with
  | zero =>
    intro n k hn hk
    obtain ⟨k, rfl⟩ : ∃ m, k = m + 1 := ⟨k - 1, by omega⟩
    simp only [laws_eqInt64S.l0]
    rw [if_neg (by omega)]
  | succ d ih =>
    intro n k hn hk
    obtain ⟨k, rfl⟩ : ∃ m, k = m + 1 := ⟨k - 1, by omega⟩
    have hlt : n < l.length := by omega
    simp only [laws_eqInt64S.l0]
    rw [if_pos (by omega), if_pos (by omega), if_pos (by omega), if_pos trivial, w64s hlt (by omega)]
    exact ih (n + 1) k (by omega) (by omega)
theorem eqInt64S_eq (l : List Int) (k : Nat) (hk : l.length + 1 ≤ k) (hl : l.length ≤ 35184372088832) : laws_eqInt64S.f k l l = some true := by
  unfold laws_eqInt64S.f
  rw [if_pos rfl]
  exact eqInt64S_l0 l hl l.length 0 k (by omega) (by omega)

end Go.Proofs.YtogdmjcdfjnifaaDoor.PFnExactPackTrie

/- What the laws' own marks and comparisons of rows of stretches come to. -/
import Derived.Test.YthjkfmdfkndpcaaPFnExactSelectedx
import Derived.Test.YthjkfmdfkndpcaaLib
set_option linter.unusedSimpArgs false
set_option linter.unusedVariables false
namespace Go.Proofs.Ythjkfmdfkndpcaa.PFnExactSelected
open Go.RowKit Go.Proofs.YthjkfmdfkndpcaaW.PrintWords Go.Proofs.YthjkfmdfkndpcaaW.PrintLast Go.Proofs.YthjkfmdfkndpcaaW.PrintMore Go.Proofs.Ythjkfmdfkndpcaa.Lib

theorem rdS_nat (xs : List S38) (n : Nat) (h : n < xs.length) : rd_T38 xs (n : Int) = xs[n] := by
  unfold rd_T38
  rw [Int.toNat_natCast]
  simp [h]
theorem eqStretchS_l0 (l : List S38) (hl : l.length ≤ 35184372088832) : ∀ (d n k : Nat), n + d = l.length → d < k → laws_eqStretchS.l0 k l l (n : Int) = some true := by
  intro d
  induction d with
  | zero =>
    intro n k hn hk
    obtain ⟨k, rfl⟩ : ∃ m, k = m + 1 := ⟨k - 1, by omega⟩
    simp only [laws_eqStretchS.l0]
    rw [if_neg (by omega)]
  | succ d ih =>
    intro n k hn hk
    obtain ⟨k, rfl⟩ : ∃ m, k = m + 1 := ⟨k - 1, by omega⟩
    have hlt : n < l.length := by omega
    simp only [laws_eqStretchS.l0, laws_eqStretch.f]
    rw [if_pos (by omega), if_pos (by omega), if_pos (by omega), if_pos trivial, if_pos trivial, Option.bind_some, if_pos rfl, w64s hlt (by omega)]
    exact ih (n + 1) k (by omega) (by omega)
theorem eqStretchS_eq (l : List S38) (k : Nat) (hk : l.length + 1 ≤ k) (hl : l.length ≤ 35184372088832) : laws_eqStretchS.f k l l = some true := by
  unfold laws_eqStretchS.f
  rw [if_pos rfl]
  exact eqStretchS_l0 l hl l.length 0 k (by omega) (by omega)
/-- One and two, three and four .. -/
def marksS (n : Nat) : List S38 := (List.range n).map fun (t : Nat) => (⟨2 * (t : Int) + 1, 2 * (t : Int) + 2⟩ : S38)
theorem marksS_length (n : Nat) : (marksS n).length = n := by simp [marksS]
theorem marksS_get (n t : Nat) (h : t < (marksS n).length) : (marksS n)[t] = ⟨2 * (t : Int) + 1, 2 * (t : Int) + 2⟩ := by simp [marksS]
theorem markStretchS_l0 (n : Nat) (hn : n ≤ 1000000) : ∀ (d j k : Nat) (x : List S38), j + d = n → d < k → x.length = n → x.take j = (marksS n).take j →
    laws_markStretchS.l0 k x (2 * (j : Int) + 1) (j : Int) = some (2 * (n : Int) + 1, marksS n) := by
  have hm := marksS_length n
  intro d
  induction d with
  | zero =>
    intro j k x hj hk hx ht
    obtain ⟨k, rfl⟩ : ∃ m, k = m + 1 := ⟨k - 1, by omega⟩
    rw [List.take_of_length_le (by omega), List.take_of_length_le (by omega)] at ht
    rw [laws_markStretchS.l0, if_neg (by omega), ht, show j = n by omega]
  | succ d ih =>
    intro j k x hj hk hx ht
    obtain ⟨k, rfl⟩ : ∃ m, k = m + 1 := ⟨k - 1, by omega⟩
    rw [laws_markStretchS.l0, if_pos (by omega), if_pos (by omega), Option.bind_some, Int.toNat_natCast, rdS_nat x j (by omega), rdS_nat _ j (by rw [List.length_set]; omega), List.getElem_set_self, List.set_set, w64 (x := 2 * (j : Int) + 1 + 1) (by omega) (by omega), w64 (x := 2 * (j : Int) + 1 + 1 + 1) (by omega) (by omega), w64s (show j < n by omega) (by omega), show 2 * (j : Int) + 1 + 1 + 1 = 2 * ((j + 1 : Nat) : Int) + 1 by omega]
    refine ih (j + 1) k _ (by omega) (by omega) (by simpa using hx) ?_
    rw [List.take_succ_eq_append_getElem (by simp; omega), List.take_succ_eq_append_getElem (by omega), List.take_set_of_le (Nat.le_refl j), ht, marksS_get, List.getElem_set_self, show 2 * (j : Int) + 1 + 1 = 2 * (j : Int) + 2 by omega]
theorem markStretchS_eq (l : List S38) (k : Nat) (hk : l.length + 1 ≤ k) (hl : l.length ≤ 1000000) : laws_markStretchS.f k l 1 = some (2 * (l.length : Int) + 1, marksS l.length) := by
  unfold laws_markStretchS.f
  exact markStretchS_l0 l.length hl l.length 0 k l (by omega) (by omega) rfl (by simp)
theorem heldStretchS_l0 (n : Nat) (hn : n ≤ 1000000) : ∀ (d j k : Nat), j + d = n → d < k → laws_heldStretchS.l0 k (marksS n) (2 * (j : Int) + 1) (j : Int) = some (2 * (n : Int) + 1) := by
  have hm := marksS_length n
  intro d
  induction d with
  | zero =>
    intro j k hj hk
    obtain ⟨k, rfl⟩ : ∃ m, k = m + 1 := ⟨k - 1, by omega⟩
    rw [laws_heldStretchS.l0, if_neg (by omega), show j = n by omega]
  | succ d ih =>
    intro j k hj hk
    obtain ⟨k, rfl⟩ : ∃ m, k = m + 1 := ⟨k - 1, by omega⟩
    rw [laws_heldStretchS.l0, if_pos (by omega), if_pos (by omega), rdS_nat _ j (by omega), marksS_get, if_pos rfl, w64 (x := 2 * (j : Int) + 1 + 1) (by omega) (by omega), if_pos (by show 2 * (j : Int) + 2 = _; omega), w64 (x := 2 * (j : Int) + 1 + 1 + 1) (by omega) (by omega), w64s (show j < n by omega) (by omega), show 2 * (j : Int) + 1 + 1 + 1 = 2 * ((j + 1 : Nat) : Int) + 1 by omega]
    exact ih (j + 1) k (by omega) (by omega)
theorem heldStretchS_eq (n : Nat) (k : Nat) (hk : n + 1 ≤ k) (hl : n ≤ 1000000) : laws_heldStretchS.f k (marksS n) 1 = some (2 * (n : Int) + 1) := by
  unfold laws_heldStretchS.f
  exact heldStretchS_l0 n hl n 0 k (by omega) (by omega)

end Go.Proofs.Ythjkfmdfkndpcaa.PFnExactSelected

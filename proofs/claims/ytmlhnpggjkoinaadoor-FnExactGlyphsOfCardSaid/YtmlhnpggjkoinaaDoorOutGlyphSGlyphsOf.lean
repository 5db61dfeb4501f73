/- What the laws' own marks and comparisons of rows of glyphs come to. -/
import Derived.Test.YtmlhnpggjkoinaaDoorPFnExactGlyphsOfx
import Derived.Test.YtmlhnpggjkoinaaDoorLib
set_option linter.unusedSimpArgs false
set_option linter.unusedVariables false
namespace Go.Proofs.YtmlhnpggjkoinaaDoor.PFnExactGlyphsOf
open Go.RowKit Go.Proofs.YtmlhnpggjkoinaaDoorW.PrintWords Go.Proofs.YtmlhnpggjkoinaaDoorW.PrintLast Go.Proofs.YtmlhnpggjkoinaaDoorW.PrintMore Go.Proofs.YtmlhnpggjkoinaaDoor.Lib

theorem rdG_nat (xs : List S68) (n : Nat) (h : n < xs.length) : rd_T68 xs (n : Int) = xs[n] := by
  unfold rd_T68
  rw [Int.toNat_natCast]
  simp [h]
theorem eqGlyphO_l0 (l : List S68) (hl : l.length ≤ 35184372088832) : ∀ (d n k : Nat), n + d = l.length → d < k → laws_eqGlyphS.l0 k l l (n : Int) = some true := by
  intro d
  induction d with
  | zero =>
    intro n k hn hk
    obtain ⟨k, rfl⟩ : ∃ m, k = m + 1 := ⟨k - 1, by omega⟩
    simp only [laws_eqGlyphS.l0]
    rw [if_neg (by omega)]
  | succ d ih =>
    intro n k hn hk
    obtain ⟨k, rfl⟩ : ∃ m, k = m + 1 := ⟨k - 1, by omega⟩
    have hlt : n < l.length := by omega
    have e : ∀ a b c u v : Int, laws_eqGlyph.f a b c u v a b c u v = some true := fun a b c u v => by simp [laws_eqGlyph.f]
    simp only [laws_eqGlyphS.l0]
    rw [if_pos (by omega), if_pos (by omega), if_pos (by omega), e, Option.bind_some, if_pos rfl, w64s hlt (by omega)]
    exact ih (n + 1) k (by omega) (by omega)
theorem eqGlyphO_eq (l : List S68) (k : Nat) (hk : l.length + 1 ≤ k) (hl : l.length ≤ 35184372088832) : laws_eqGlyphS.f k l l = some true := by
  unfold laws_eqGlyphS.f
  rw [if_pos rfl]
  exact eqGlyphO_l0 l hl l.length 0 k (by omega) (by omega)
/-- One to five, six to ten .. -/
def marksS (n : Nat) : List S68 := (List.range n).map fun (t : Nat) => (⟨5 * (t : Int) + 1, 5 * (t : Int) + 2, 5 * (t : Int) + 3, 5 * (t : Int) + 4, 5 * (t : Int) + 5⟩ : S68)
theorem marksS_length (n : Nat) : (marksS n).length = n := by simp [marksS]
theorem marksS_get (n t : Nat) (h : t < (marksS n).length) : (marksS n)[t] = ⟨5 * (t : Int) + 1, 5 * (t : Int) + 2, 5 * (t : Int) + 3, 5 * (t : Int) + 4, 5 * (t : Int) + 5⟩ := by simp [marksS]
theorem markGlyphS_l0 (n : Nat) (hn : n ≤ 2000000) : ∀ (d j k : Nat) (x : List S68), j + d = n → d < k → x.length = n → x.take j = (marksS n).take j →
    laws_markGlyphS.l0 k x (5 * (j : Int) + 1) (j : Int) = some (5 * (n : Int) + 1, marksS n) := by
  have hm := marksS_length n
  intro d
  induction d with
  | zero =>
    intro j k x hj hk hx ht
    obtain ⟨k, rfl⟩ : ∃ m, k = m + 1 := ⟨k - 1, by omega⟩
    rw [List.take_of_length_le (by omega), List.take_of_length_le (by omega)] at ht
    rw [laws_markGlyphS.l0, if_neg (by omega), ht, show j = n by omega]
  | succ d ih =>
    intro j k x hj hk hx ht
    obtain ⟨k, rfl⟩ : ∃ m, k = m + 1 := ⟨k - 1, by omega⟩
    have hs : ∀ v, rd_T68 (x.set j v) (j : Int) = v := fun v => by rw [rdG_nat _ j (by rw [List.length_set]; omega), List.getElem_set_self]
    have e1 : wrap64 (5 * (j : Int) + 1 + 1) = 5 * (j : Int) + 2 := w64 (by omega) (by omega)
    have e2 : wrap64 (5 * (j : Int) + 2 + 1) = 5 * (j : Int) + 3 := w64 (by omega) (by omega)
    have e3 : wrap64 (5 * (j : Int) + 3 + 1) = 5 * (j : Int) + 4 := w64 (by omega) (by omega)
    have e4 : wrap64 (5 * (j : Int) + 4 + 1) = 5 * (j : Int) + 5 := w64 (by omega) (by omega)
    have e5 : wrap64 (5 * (j : Int) + 5 + 1) = 5 * ((j + 1 : Nat) : Int) + 1 := (w64 (by omega) (by omega)).trans (by omega)
    rw [laws_markGlyphS.l0, if_pos (by omega), if_pos (by omega)]
    simp only [Option.bind_some, Int.toNat_natCast, hs, List.set_set, e1, e2, e3, e4, e5]
    rw [w64s (show j < n by omega) (by omega)]
    refine ih (j + 1) k _ (by omega) (by omega) (by simpa using hx) ?_
    rw [List.take_succ_eq_append_getElem (by simp; omega), List.take_succ_eq_append_getElem (by omega), List.take_set_of_le (Nat.le_refl j), ht, marksS_get, List.getElem_set_self]
theorem markGlyphS_eq (l : List S68) (k : Nat) (hk : l.length + 1 ≤ k) (hl : l.length ≤ 2000000) : laws_markGlyphS.f k l 1 = some (5 * (l.length : Int) + 1, marksS l.length) := by
  unfold laws_markGlyphS.f
  exact markGlyphS_l0 l.length hl l.length 0 k l (by omega) (by omega) rfl (by simp)
theorem heldGlyphS_l0 (n : Nat) (hn : n ≤ 2000000) : ∀ (d j k : Nat), j + d = n → d < k → laws_heldGlyphS.l0 k (marksS n) (5 * (j : Int) + 1) (j : Int) = some (5 * (n : Int) + 1) := by
  have hm := marksS_length n
  intro d
  induction d with
  | zero =>
    intro j k hj hk
    obtain ⟨k, rfl⟩ : ∃ m, k = m + 1 := ⟨k - 1, by omega⟩
    rw [laws_heldGlyphS.l0, if_neg (by omega), show j = n by omega]
  | succ d ih =>
    intro j k hj hk
    obtain ⟨k, rfl⟩ : ∃ m, k = m + 1 := ⟨k - 1, by omega⟩
    have e1 : wrap64 (5 * (j : Int) + 1 + 1) = 5 * (j : Int) + 2 := w64 (by omega) (by omega)
    have e2 : wrap64 (5 * (j : Int) + 2 + 1) = 5 * (j : Int) + 3 := w64 (by omega) (by omega)
    have e3 : wrap64 (5 * (j : Int) + 3 + 1) = 5 * (j : Int) + 4 := w64 (by omega) (by omega)
    have e4 : wrap64 (5 * (j : Int) + 4 + 1) = 5 * (j : Int) + 5 := w64 (by omega) (by omega)
    have e5 : wrap64 (5 * (j : Int) + 5 + 1) = 5 * ((j + 1 : Nat) : Int) + 1 := (w64 (by omega) (by omega)).trans (by omega)
    rw [laws_heldGlyphS.l0, if_pos (by omega), if_pos (by omega), rdG_nat _ j (by omega), marksS_get, if_pos rfl, e1, if_pos rfl, e2, if_pos rfl, e3, if_pos rfl, e4, if_pos rfl, e5, w64s (show j < n by omega) (by omega)]
    exact ih (j + 1) k (by omega) (by omega)
theorem heldGlyphS_eq (n : Nat) (k : Nat) (hk : n + 1 ≤ k) (hl : n ≤ 2000000) : laws_heldGlyphS.f k (marksS n) 1 = some (5 * (n : Int) + 1) := by
  unfold laws_heldGlyphS.f
  exact heldGlyphS_l0 n hl n 0 k (by omega) (by omega)

end Go.Proofs.YtmlhnpggjkoinaaDoor.PFnExactGlyphsOf

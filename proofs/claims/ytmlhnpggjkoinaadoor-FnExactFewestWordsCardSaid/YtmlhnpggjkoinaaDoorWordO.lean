/- The order of texts, and the place of a text in a row that rises. -/
import Derived.Test.YtmlhnpggjkoinaaDoorLib
set_option linter.unusedSimpArgs false
set_option linter.unusedVariables false
namespace Go.Proofs.YtmlhnpggjkoinaaDoor.WordO
theorem bl_irrefl : ∀ x : List UInt8, Op.bytesLess x x = false
  | [] => rfl
  | a :: x => by
    unfold Op.bytesLess
    rw [bl_irrefl x]
    simp
theorem bl_cons (a b : UInt8) (x y : List UInt8) : Op.bytesLess (a :: x) (b :: y) = true ↔ a.toNat < b.toNat ∨ (a.toNat = b.toNat ∧ Op.bytesLess x y = true) := by
  rw [Op.bytesLess, Bool.or_eq_true, Bool.and_eq_true, decide_eq_true_iff, beq_iff_eq, UInt8.lt_iff_toNat_lt, ← UInt8.toNat_inj]
theorem bl_trans : ∀ x y z : List UInt8, Op.bytesLess x y = true → Op.bytesLess y z = true → Op.bytesLess x z = true
  | _, [], _, h, _ => by simp [Op.bytesLess] at h
  | _, _ :: _, [], _, h => by simp [Op.bytesLess] at h
  | [], _ :: _, _ :: _, _, _ => by simp [Op.bytesLess]
  | a :: x, b :: y, c :: z, h1, h2 => by
    rw [bl_cons] at h1 h2 ⊢
    rcases h1 with h1 | ⟨h1, h1'⟩
    · rcases h2 with h2 | ⟨h2, _⟩
      · exact .inl (by omega)
      · exact .inl (by omega)
    · rcases h2 with h2 | ⟨h2, h2'⟩
      · exact .inl (by omega)
      · exact .inr ⟨by omega, bl_trans x y z h1' h2'⟩
def Rise (l : List ByteArray) : Prop := ∀ (i j : Nat) (hi : i < l.length) (hj : j < l.length), i < j → Op.bytesLess l[i].toList l[j].toList = true
theorem rise_of (l : List ByteArray) (h : ∀ (i : Nat) (hi : i + 1 < l.length), Op.bytesLess l[i].toList l[i + 1].toList = true) : Rise l := by
  intro i j hi hj hij
  obtain ⟨d, rfl⟩ : ∃ d, j = i + 1 + d := ⟨j - (i + 1), by omega⟩
  clear hij
  induction d with
  | zero => exact h i hj
  | succ d ih => exact bl_trans _ _ _ (ih (by omega)) (h (i + 1 + d) hj)
theorem place (l : List ByteArray) (hr : Rise l) (t : ByteArray) (n : Nat) (hn : n ≤ l.length) (h1 : ∀ (j : Nat) (hj : j < l.length), j < n → Op.bytesLess l[j].toList t.toList = true) (h2 : ∀ (j : Nat) (hj : j < l.length), n ≤ j → Op.bytesLess l[j].toList t.toList = false) :
    (t ∈ l) ↔ ∃ h : n < l.length, l[n].toList = t.toList := by
  constructor
  · intro h
    obtain ⟨j, hj, rfl⟩ := List.getElem_of_mem h
    have e1 : n ≤ j := Nat.le_of_not_lt fun c => by
      have := h1 j hj c
      rw [bl_irrefl] at this
      cases this
    have e2 : j ≤ n := Nat.le_of_not_lt fun c => by
      have := hr n j (by omega) hj c
      rw [h2 n (by omega) (Nat.le_refl n)] at this
      cases this
    obtain rfl : n = j := by omega
    exact ⟨hj, rfl⟩
  · rintro ⟨h, e⟩
    have : l[n] = t := by
      rw [ByteArray.toList_eq, ByteArray.toList_eq] at e
      exact ByteArray.ext (Array.ext' e)
    rw [← this]
    exact List.getElem_mem h
end Go.Proofs.YtmlhnpggjkoinaaDoor.WordO

/- What the laws' own marks and comparisons of rows of spans come to. -/
import Derived.Test.YtogdmjcdfjnifaaPFnExactSpansOfx
import Derived.Test.YtogdmjcdfjnifaaLib
set_option linter.unusedSimpArgs false
set_option linter.unusedVariables false
namespace Go.Proofs.Ytogdmjcdfjnifaa.PFnExactSpansOf
open Go.RowKit Go.Proofs.YtogdmjcdfjnifaaW.PrintWords Go.Proofs.YtogdmjcdfjnifaaW.PrintLast Go.Proofs.YtogdmjcdfjnifaaW.PrintMore Go.Proofs.Ytogdmjcdfjnifaa.Lib

theorem rdO_nat (xs : List S57) (n : Nat) (h : n < xs.length) : rd_T57 xs (n : Int) = xs[n] := by
  unfold rd_T57
  rw [Int.toNat_natCast]
  simp [h]
theorem eqSpanO_l0 (l : List S57) (hl : l.length ≤ 35184372088832) : ∀ (d n k : Nat), n + d = l.length → d < k → laws_eqSpanS.l0 k l l (n : Int) = some true := by
  intro d
  induction d with
  | zero =>
    intro n k hn hk
    obtain ⟨k, rfl⟩ : ∃ m, k = m + 1 := ⟨k - 1, by omega⟩
    simp only [laws_eqSpanS.l0]
    rw [if_neg (by omega)]
  | succ d ih =>
    intro n k hn hk
    obtain ⟨k, rfl⟩ : ∃ m, k = m + 1 := ⟨k - 1, by omega⟩
    have hlt : n < l.length := by omega
    have e : ∀ a b c : Int, laws_eqSpan.f a b c a b c = some true := fun a b c => by simp [laws_eqSpan.f]
    simp only [laws_eqSpanS.l0]
    rw [if_pos (by omega), if_pos (by omega), if_pos (by omega), e, Option.bind_some, if_pos rfl, w64s hlt (by omega)]
    exact ih (n + 1) k (by omega) (by omega)
theorem eqSpanO_eq (l : List S57) (k : Nat) (hk : l.length + 1 ≤ k) (hl : l.length ≤ 35184372088832) : laws_eqSpanS.f k l l = some true := by
  unfold laws_eqSpanS.f
  rw [if_pos rfl]
  exact eqSpanO_l0 l hl l.length 0 k (by omega) (by omega)
/-- One to three, four to six .. -/
def marksS (n : Nat) : List S57 := (List.range n).map fun (t : Nat) => (⟨3 * (t : Int) + 1, 3 * (t : Int) + 2, 3 * (t : Int) + 3⟩ : S57)
theorem marksS_length (n : Nat) : (marksS n).length = n := by simp [marksS]
theorem marksS_get (n t : Nat) (h : t < (marksS n).length) : (marksS n)[t] = ⟨3 * (t : Int) + 1, 3 * (t : Int) + 2, 3 * (t : Int) + 3⟩ := by simp [marksS]
theorem markSpanS_l0 (n : Nat) (hn : n ≤ 1000000) : ∀ (d j k : Nat) (x : List S57), j + d = n → d < k → x.length = n → x.take j = (marksS n).take j →
    laws_markSpanS.l0 k x (3 * (j : Int) + 1) (j : Int) = some (3 * (n : Int) + 1, marksS n) := by
  have hm := marksS_length n
  intro d
  induction d with
  | zero =>
    intro j k x hj hk hx ht
    obtain ⟨k, rfl⟩ : ∃ m, k = m + 1 := ⟨k - 1, by omega⟩
    rw [List.take_of_length_le (by omega), List.take_of_length_le (by omega)] at ht
    rw [laws_markSpanS.l0, if_neg (by omega), ht, show j = n by omega]
  | succ d ih =>
    intro j k x hj hk hx ht
    obtain ⟨k, rfl⟩ : ∃ m, k = m + 1 := ⟨k - 1, by omega⟩
    have hs : ∀ v, rd_T57 (x.set j v) (j : Int) = v := fun v => by rw [rdO_nat _ j (by rw [List.length_set]; omega), List.getElem_set_self]
    rw [laws_markSpanS.l0, if_pos (by omega), if_pos (by omega)]
    simp only [Option.bind_some, Int.toNat_natCast, hs, List.set_set]
    rw [w64 (x := 3 * (j : Int) + 1 + 1) (by omega) (by omega), w64 (x := 3 * (j : Int) + 1 + 1 + 1) (by omega) (by omega), w64 (x := 3 * (j : Int) + 1 + 1 + 1 + 1) (by omega) (by omega), w64s (show j < n by omega) (by omega), show 3 * (j : Int) + 1 + 1 + 1 + 1 = 3 * ((j + 1 : Nat) : Int) + 1 by omega]
    refine ih (j + 1) k _ (by omega) (by omega) (by simpa using hx) ?_
    rw [List.take_succ_eq_append_getElem (by simp; omega), List.take_succ_eq_append_getElem (by omega), List.take_set_of_le (Nat.le_refl j), ht, marksS_get, List.getElem_set_self, show 3 * (j : Int) + 1 + 1 = 3 * (j : Int) + 2 by omega, show 3 * (j : Int) + 2 + 1 = 3 * (j : Int) + 3 by omega]
theorem markSpanS_eq (l : List S57) (k : Nat) (hk : l.length + 1 ≤ k) (hl : l.length ≤ 1000000) : laws_markSpanS.f k l 1 = some (3 * (l.length : Int) + 1, marksS l.length) := by
  unfold laws_markSpanS.f
  exact markSpanS_l0 l.length hl l.length 0 k l (by omega) (by omega) rfl (by simp)
theorem heldSpanS_l0 (n : Nat) (hn : n ≤ 1000000) : ∀ (d j k : Nat), j + d = n → d < k → laws_heldSpanS.l0 k (marksS n) (3 * (j : Int) + 1) (j : Int) = some (3 * (n : Int) + 1) := by
  have hm := marksS_length n
  intro d
  induction d with
  | zero =>
    intro j k hj hk
    obtain ⟨k, rfl⟩ : ∃ m, k = m + 1 := ⟨k - 1, by omega⟩
    rw [laws_heldSpanS.l0, if_neg (by omega), show j = n by omega]
  | succ d ih =>
    intro j k hj hk
    obtain ⟨k, rfl⟩ : ∃ m, k = m + 1 := ⟨k - 1, by omega⟩
    rw [laws_heldSpanS.l0, if_pos (by omega), if_pos (by omega), rdO_nat _ j (by omega), marksS_get, if_pos rfl, w64 (x := 3 * (j : Int) + 1 + 1) (by omega) (by omega), if_pos (by show 3 * (j : Int) + 2 = _; omega), w64 (x := 3 * (j : Int) + 1 + 1 + 1) (by omega) (by omega), if_pos (by show 3 * (j : Int) + 3 = _; omega), w64 (x := 3 * (j : Int) + 1 + 1 + 1 + 1) (by omega) (by omega), w64s (show j < n by omega) (by omega), show 3 * (j : Int) + 1 + 1 + 1 + 1 = 3 * ((j + 1 : Nat) : Int) + 1 by omega]
    exact ih (j + 1) k (by omega) (by omega)
theorem heldSpanS_eq (n : Nat) (k : Nat) (hk : n + 1 ≤ k) (hl : n ≤ 1000000) : laws_heldSpanS.f k (marksS n) 1 = some (3 * (n : Int) + 1) := by
  unfold laws_heldSpanS.f
  exact heldSpanS_l0 n hl n 0 k (by omega) (by omega)

end Go.Proofs.Ytogdmjcdfjnifaa.PFnExactSpansOf

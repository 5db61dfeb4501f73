/- What the laws' marks and looks at a row of texts that was handed back come to: eqStringS, markStringS, heldStringS. -/
import Derived.Test.YtmlhnpggjkoinaaDoorPFnExactWordsx
import Derived.Test.YtmlhnpggjkoinaaDoorLib
set_option linter.unusedSimpArgs false
set_option linter.unusedVariables false
namespace Go.Proofs.YtmlhnpggjkoinaaDoor.PFnExactWords
open Go.RowKit Go.Proofs.YtmlhnpggjkoinaaDoorW.PrintWords Go.Proofs.YtmlhnpggjkoinaaDoorW.PrintLast Go.Proofs.YtmlhnpggjkoinaaDoorW.PrintMore Go.Proofs.YtmlhnpggjkoinaaDoor.Lib

theorem rdS_nat (l : List ByteArray) (n : Nat) (h : n < l.length) : rdOf ByteArray.empty l (n : Int) = l[n] := by
  unfold rdOf
  rw [Int.toNat_natCast]
  simp [h]
theorem eqStringS_l0 (l : List ByteArray) (hl : l.length ≤ 35184372088832) : ∀ (d n k : Nat), n + d = l.length → d < k → laws_eqStringS.l0 k l l (n : Int) = some true := by
  intro d
  induction d with
  | zero =>
    intro n k hn hk
    obtain ⟨k, rfl⟩ : ∃ m, k = m + 1 := ⟨k - 1, by omega⟩
    simp only [laws_eqStringS.l0]
    rw [if_neg (by omega)]
  | succ d ih =>
    intro n k hn hk
    obtain ⟨k, rfl⟩ : ∃ m, k = m + 1 := ⟨k - 1, by omega⟩
    have hlt : n < l.length := by omega
    simp only [laws_eqStringS.l0]
    rw [if_pos (by omega), if_pos (by omega), if_pos (by omega), if_pos trivial, w64s hlt (by omega)]
    exact ih (n + 1) k (by omega) (by omega)
theorem eqStringS_eq (l : List ByteArray) (k : Nat) (hk : l.length + 1 ≤ k) (hl : l.length ≤ 35184372088832) : laws_eqStringS.f k l l = some true := by
  unfold laws_eqStringS.f
  rw [if_pos rfl]
  exact eqStringS_l0 l hl l.length 0 k (by omega) (by omega)
theorem str1 (a : Int) : (strOfNums [a]).size = 1 := by
  show (strOfNums [a]).data.size = 1
  rw [← Array.length_toList, strOfNums_data]
  rfl
theorem markText_l0 : ∀ (r k : Nat) (n : Int) (x : ByteArray), 0 ≤ n → n ≤ 1000000000 → n < 10 ^ r → r < k → x.size + r ≤ 1000 → ∃ t, laws_markText.l0 k n x = some t := by
  intro r
  induction r with
  | zero =>
    intro k n x h0 hn h1 hk hx
    obtain ⟨k, rfl⟩ : ∃ m, k = m + 1 := ⟨k - 1, by omega⟩
    have : n = 0 := by simp at h1; omega
    rw [laws_markText.l0, if_neg (by omega), if_pos (by omega)]
    exact ⟨_, rfl⟩
  | succ r ih =>
    intro k n x h0 hn h1 hk hx
    obtain ⟨k, rfl⟩ : ∃ m, k = m + 1 := ⟨k - 1, by omega⟩
    rw [laws_markText.l0]
    by_cases c : n > 0
    · have hs := str1 ((wrap64 (48 + (Int.tmod n 10))) % 256)
      have hd : Int.tdiv n 10 = n / 10 := Int.tdiv_eq_ediv_of_nonneg h0
      have hp : (10 : Int) ^ (r + 1) = 10 ^ r * 10 := by rw [Int.pow_succ]
      have hb : n / 10 < 10 ^ r := by rw [hp] at h1; omega
      rw [if_pos c, Option.bind_some, hs, if_pos (by omega), hd, w64 (by omega) (by omega)]
      refine ih k _ _ (by omega) (by omega) hb (by omega) ?_
      have : ((strOfNums [(wrap64 (48 + (Int.tmod n 10))) % 256]) ++ x).size = 1 + x.size := by rw [ByteArray.size_append, hs]
      omega
    · rw [if_neg c, if_pos (by omega)]
      exact ⟨_, rfl⟩
/-- The mark of a number. -/
def mkT (n : Nat) : ByteArray := (laws_markText.f 30 (n : Int)).getD ByteArray.empty
theorem markText_eq (n : Nat) (h1 : 1 ≤ n) (h2 : n ≤ 10000000) : ∀ k, 30 ≤ k → laws_markText.f k (n : Int) = some (mkT n) := by
  have h30 : laws_markText.f 30 (n : Int) = some (mkT n) := by
    unfold mkT
    have : ∃ t, laws_markText.f 30 (n : Int) = some t := by
      unfold laws_markText.f
      rw [if_neg (by omega)]
      exact markText_l0 8 30 _ _ (by omega) (by omega) (by have : (10 : Int) ^ 8 = 100000000 := by decide
                                                           omega) (by omega) (by decide)
    obtain ⟨t, ht⟩ := this
    rw [ht]; rfl
  intro k hk
  obtain ⟨d, rfl⟩ : ∃ d, k = 30 + d := ⟨k - 30, by omega⟩
  clear hk
  induction d with
  | zero => exact h30
  | succ d ih => exact laws_markText.mono _ _ _ ih
/-- The row of which the first i elements bear marks. -/
def markedS (l : List ByteArray) (i : Nat) : List ByteArray := (List.range i).map (fun j : Nat => mkT (j + 1)) ++ l.drop i
theorem markedS_length (l : List ByteArray) (i : Nat) (h : i ≤ l.length) : (markedS l i).length = l.length := by simp [markedS]; omega
theorem markedS_set (l : List ByteArray) (i : Nat) (h : i < l.length) : (markedS l i).set i (mkT (i + 1)) = markedS l (i + 1) := by
  unfold markedS
  rw [List.set_append_right _ _ (by simp), List.length_map, List.length_range, Nat.sub_self, List.drop_eq_getElem_cons h, List.set_cons_zero, List.range_succ, List.map_append, List.append_assoc]
  rfl
theorem markS_l0 (l : List ByteArray) (hl : l.length ≤ 9000000) : ∀ (d i k : Nat), i + d = l.length → d + 31 < k → laws_markStringS.l0 k (markedS l i) ((i : Int) + 1) (i : Int) = some ((l.length : Int) + 1, markedS l l.length) := by
  intro d
  induction d with
  | zero =>
    intro i k hn hk
    obtain ⟨k, rfl⟩ : ∃ m, k = m + 1 := ⟨k - 1, by omega⟩
    obtain rfl : i = l.length := by omega
    rw [laws_markStringS.l0, if_neg (by rw [markedS_length l l.length (Nat.le_refl _)]; omega)]
  | succ d ih =>
    intro i k hn hk
    obtain ⟨k, rfl⟩ : ∃ m, k = m + 1 := ⟨k - 1, by omega⟩
    have hi : i < l.length := by omega
    have e1 : ((i : Int) + 1) = ((i + 1 : Nat) : Int) := by omega
    rw [laws_markStringS.l0, if_pos (by rw [markedS_length l i (by omega)]; omega), e1, markText_eq (i + 1) (by omega) (by omega) k (by omega), Option.bind_some, if_pos (by omega), Int.toNat_natCast, markedS_set l i hi, w64 (x := ((i + 1 : Nat) : Int) + 1) (by omega) (by omega), w64 (x := ((i + 1 : Nat) : Int)) (by omega) (by omega)]
    exact ih (i + 1) k (by omega) (by omega)
theorem markStringS_eq (l : List ByteArray) (k : Nat) (hk : l.length + 40 ≤ k) (hl : l.length ≤ 9000000) : laws_markStringS.f k l 1 = some ((l.length : Int) + 1, markedS l l.length) := by
  unfold laws_markStringS.f
  have := markS_l0 l hl l.length 0 k (by omega) (by omega)
  have e : markedS l 0 = l := by simp [markedS]
  rw [e] at this
  exact this
theorem heldS_l0 (l : List ByteArray) (hl : l.length ≤ 9000000) : ∀ (d i k : Nat), i + d = l.length → d + 31 < k → laws_heldStringS.l0 k (markedS l l.length) ((i : Int) + 1) (i : Int) = some ((l.length : Int) + 1) := by
  have hm : (markedS l l.length).length = l.length := markedS_length l l.length (Nat.le_refl _)
  intro d
  induction d with
  | zero =>
    intro i k hn hk
    obtain ⟨k, rfl⟩ : ∃ m, k = m + 1 := ⟨k - 1, by omega⟩
    obtain rfl : i = l.length := by omega
    rw [laws_heldStringS.l0, if_neg (by omega)]
  | succ d ih =>
    intro i k hn hk
    obtain ⟨k, rfl⟩ : ∃ m, k = m + 1 := ⟨k - 1, by omega⟩
    have hi : i < l.length := by omega
    have e1 : ((i : Int) + 1) = ((i + 1 : Nat) : Int) := by omega
    have er : rdOf ByteArray.empty (markedS l l.length) (i : Int) = mkT (i + 1) := by
      rw [rdS_nat _ i (by omega)]
      simp [markedS, hi]
    rw [laws_heldStringS.l0, if_pos (by omega), if_pos (by omega), e1, markText_eq (i + 1) (by omega) (by omega) k (by omega), Option.bind_some, er, if_pos rfl, w64 (x := ((i + 1 : Nat) : Int) + 1) (by omega) (by omega), w64 (x := ((i + 1 : Nat) : Int)) (by omega) (by omega)]
    exact ih (i + 1) k (by omega) (by omega)
theorem heldStringS_eq (l : List ByteArray) (k : Nat) (hk : l.length + 40 ≤ k) (hl : l.length ≤ 9000000) : laws_heldStringS.f k (markedS l l.length) 1 = some ((l.length : Int) + 1) := by
  unfold laws_heldStringS.f
  exact heldS_l0 l hl l.length 0 k (by omega) (by omega)

end Go.Proofs.YtmlhnpggjkoinaaDoor.PFnExactWords

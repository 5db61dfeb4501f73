/- The pieces between cuts of characters: both texts make the same row. -/
import Derived.Test.YtmlhnpggjkoinaaDoorCutDChars
set_option linter.unusedSimpArgs false
set_option linter.unusedVariables false
namespace Go.Proofs.YtmlhnpggjkoinaaDoor.PFnExactChars
open Go.RowKit Go.Proofs.YtmlhnpggjkoinaaDoorW.PrintWords Go.Proofs.YtmlhnpggjkoinaaDoorW.PrintLast Go.Proofs.YtmlhnpggjkoinaaDoorW.PrintMore Go.Proofs.YtmlhnpggjkoinaaDoor.Lib

def pcs (s : ByteArray) (C : List Int) : Nat → Nat → List ByteArray
  | 0, _ => []
  | d + 1, i => s.extract (at0 C i).toNat (at0 C (i + 1)).toNat :: pcs s C d (i + 1)
theorem pcs_len (s : ByteArray) (C : List Int) : ∀ d i, (pcs s C d i).length = d
  | 0, _ => rfl
  | d + 1, i => by unfold pcs; rw [List.length_cons, pcs_len s C d (i + 1)]
/-- Cuts that rise within a text. -/
def Rises (s : ByteArray) (C : List Int) : Prop := C.Pairwise (· ≤ ·) ∧ ∀ x ∈ C, 0 ≤ x ∧ x ≤ (s.size : Int)
theorem rises_at {s : ByteArray} {C : List Int} (h : Rises s C) (i : Nat) (hi : i + 1 < C.length) : 0 ≤ at0 C i ∧ at0 C i ≤ at0 C (i + 1) ∧ at0 C (i + 1) ≤ (s.size : Int) := by
  rw [at0_eq C i (by omega), at0_eq C (i + 1) hi]
  exact ⟨(h.2 _ (List.getElem_mem _)).1, (List.pairwise_iff_getElem.1 h.1) i (i + 1) (by omega) hi (by omega), (h.2 _ (List.getElem_mem _)).2⟩
theorem piecesI_l0 (s : ByteArray) (C : List Int) (hC : C.length ≤ 1048600) (h : Rises s C) : ∀ (d i k : Nat) (x : List ByteArray), i + 1 + d = C.length → d < k → x.length ≤ i → impl_piecesOf.l0 k s C x ((i + 1 : Nat) : Int) = some (x ++ pcs s C d i) := by
  intro d
  induction d with
  | zero =>
    intro i k x hn hk hx
    obtain ⟨k, rfl⟩ : ∃ m, k = m + 1 := ⟨k - 1, by omega⟩
    rw [impl_piecesOf.l0, if_neg (by omega)]
    simp [pcs]
  | succ d ih =>
    intro i k x hn hk hx
    obtain ⟨k, rfl⟩ : ∃ m, k = m + 1 := ⟨k - 1, by omega⟩
    have hr := rises_at h i (by omega)
    have hw : wrap64 (((i + 1 : Nat) : Int) - 1) = (i : Int) := by rw [w64 (by omega) (by omega)]; omega
    rw [impl_piecesOf.l0, hw, if_pos (by omega), if_pos (by omega), if_pos (by omega), if_pos (by omega), rd_at0 C i (by omega), rd_at0 C (i + 1) (by omega), if_pos hr.1, if_pos hr.2.1, if_pos hr.2.2, if_pos (by omega), w64s (n := i + 1) (m := C.length) (by omega) (by omega), ih (i + 1) k _ (by omega) (by omega) (by simp; omega)]
    simp [pcs]
theorem piecesS_l0 (s : ByteArray) (C : List Int) (hC : C.length ≤ 1048600) (h : Rises s C) : ∀ (d i k : Nat) (x : List ByteArray), i + 1 + d = C.length → d < k → x.length ≤ i → spec_l07Pieces.l0 k s C x (i : Int) = some (x ++ pcs s C d i) := by
  intro d
  induction d with
  | zero =>
    intro i k x hn hk hx
    obtain ⟨k, rfl⟩ : ∃ m, k = m + 1 := ⟨k - 1, by omega⟩
    rw [spec_l07Pieces.l0, w64s (n := i) (m := C.length) (by omega) (by omega), if_neg (by omega)]
    simp [pcs]
  | succ d ih =>
    intro i k x hn hk hx
    obtain ⟨k, rfl⟩ : ∃ m, k = m + 1 := ⟨k - 1, by omega⟩
    have hr := rises_at h i (by omega)
    rw [spec_l07Pieces.l0, w64s (n := i) (m := C.length) (by omega) (by omega), if_pos (by omega), if_pos (by omega), if_pos (by omega), if_pos (by omega), rd_at0 C i (by omega), rd_at0 C (i + 1) (by omega), if_pos hr.1, if_pos hr.2.1, if_pos hr.2.2, if_pos (by omega), ih (i + 1) k _ (by omega) (by omega) (by simp; omega)]
    simp [pcs]
theorem piecesI_eq (s : ByteArray) (C : List Int) (hC : C.length ≤ 1048600) (h : Rises s C) (k : Nat) (hk : C.length + 2 ≤ k) : impl_piecesOf.f k s C = some (pcs s C (C.length - 1) 0) := by
  unfold impl_piecesOf.f
  by_cases c : C.length = 0
  · obtain ⟨k, rfl⟩ : ∃ m, k = m + 1 := ⟨k - 1, by omega⟩
    rw [impl_piecesOf.l0, if_neg (by omega), c]; rfl
  · have := piecesI_l0 s C hC h (C.length - 1) 0 k [] (by omega) (by omega) (by simp)
    simpa using this
theorem piecesS_eq (s : ByteArray) (C : List Int) (hC : C.length ≤ 1048600) (h : Rises s C) (k : Nat) (hk : C.length + 2 ≤ k) : spec_l07Pieces.f k s C = some (pcs s C (C.length - 1) 0) := by
  unfold spec_l07Pieces.f
  by_cases c : C.length = 0
  · obtain ⟨k, rfl⟩ : ∃ m, k = m + 1 := ⟨k - 1, by omega⟩
    rw [spec_l07Pieces.l0, w64 (x := (0 : Int) + 1) (by omega) (by omega), if_neg (by omega), c]; rfl
  · have := piecesS_l0 s C hC h (C.length - 1) 0 k [] (by omega) (by omega) (by simp)
    simpa using this
/-! the cuts of characters rise -/
theorem froms_rise (s : ByteArray) : ∀ (d i : Nat), ((atsFrom s d i).map (fun a => (a.a : Int))).Pairwise (· ≤ ·) ∧ ∀ x ∈ (atsFrom s d i).map (fun a => (a.a : Int)), (i : Int) ≤ x ∧ x < (s.size : Int)
  | 0, i => by simp [atsFrom]
  | d + 1, i => by
    unfold atsFrom
    by_cases hi : i < s.size
    · have w := dec_width s i hi
      obtain ⟨h1, h2⟩ := froms_rise s d (i + (dec s i).2)
      rw [if_pos hi, List.map_cons]
      refine ⟨List.pairwise_cons.2 ⟨fun y hy => ?_, h1⟩, fun x hx => ?_⟩
      · have := h2 y hy
        simp only [atOf]
        omega
      · rcases List.mem_cons.1 hx with rfl | hx
        · simp only [atOf]; omega
        · have := h2 x hx
          omega
    · rw [if_neg hi]; simp
theorem plc_sub (l fr : List Int) : ∀ (d i : Nat), i + d ≤ fr.length → (plc l fr d i).Sublist (fr.drop i)
  | 0, i, _ => by unfold plc; exact List.nil_sublist _
  | d + 1, i, h => by
    unfold plc
    rw [List.drop_eq_getElem_cons (show i < fr.length by omega)]
    have ih := plc_sub l fr d (i + 1) (by omega)
    split
    · rw [at0_eq fr i (by omega)]
      exact ih.cons_cons _
    · exact ih.cons _
theorem charP_rises (s : ByteArray) : Rises s (charP s) := by
  obtain ⟨h1, h2⟩ := froms_rise s s.size 0
  have hsub : (plc (pts s) (froms s) (pts s).length 0).Sublist (froms s) := by
    have := plc_sub (pts s) (froms s) (pts s).length 0 (by rw [froms_len]; omega)
    simpa using this
  have hf1 : (froms s).Pairwise (· ≤ ·) := h1
  have hf2 : ∀ x ∈ froms s, ((0 : Nat) : Int) ≤ x ∧ x < (s.size : Int) := h2
  have p1 := hf1.sublist hsub
  have p2 : ∀ x ∈ plc (pts s) (froms s) (pts s).length 0, 0 ≤ x ∧ x < (s.size : Int) := fun x hx => by
    have := hf2 x (hsub.subset hx)
    omega
  unfold charP
  by_cases c : (s.size : Int) > 0
  · rw [if_pos c]
    refine ⟨List.pairwise_append.2 ⟨p1, List.pairwise_singleton _ _, fun x hx y hy => ?_⟩, fun x hx => ?_⟩
    · rw [List.mem_singleton] at hy
      have := p2 x hx
      omega
    · rcases List.mem_append.1 hx with hx | hx
      · have := p2 x hx
        omega
      · rw [List.mem_singleton] at hx
        omega
  · rw [if_neg c, List.append_nil]
    exact ⟨p1, fun x hx => by have := p2 x hx; omega⟩

end Go.Proofs.YtmlhnpggjkoinaaDoor.PFnExactChars

/- The pieces between cuts of words: both texts make the same row. -/
import Derived.Test.YtmlhnpggjkoinaaDoorWordGWords
set_option linter.unusedSimpArgs false
set_option linter.unusedVariables false
namespace Go.Proofs.YtmlhnpggjkoinaaDoor.PFnExactWords
open Go.RowKit Go.Proofs.YtmlhnpggjkoinaaDoorW.PrintWords Go.Proofs.YtmlhnpggjkoinaaDoorW.PrintLast Go.Proofs.YtmlhnpggjkoinaaDoorW.PrintMore Go.Proofs.YtmlhnpggjkoinaaDoor.Lib

def pcs (s : ByteArray) (C : List Int) : Nat → Nat → List ByteArray
  | 0, _ => []
  | d + 1, i => s.extract (at0 C i).toNat (at0 C (i + 1)).toNat :: pcs s C d (i + 1)
theorem pcs_len (s : ByteArray) (C : List Int) : ∀ d i, (pcs s C d i).length = d
  | 0, _ => rfl
  | d + 1, i => by unfold pcs; rw [List.length_cons, pcs_len s C d (i + 1)]
/-- Cuts that rise within a text. -/
def Rises (s : ByteArray) (C : List Int) : Prop := C.Pairwise (· ≤ ·) ∧ ∀ x ∈ C, 0 ≤ x ∧ x ≤ (s.size : Int)
theorem rises_at {s : ByteArray} {C : List Int} (h : Rises s C) (i : Nat) (hi : i + 1 < C.length) : 0 ≤ at0 C i ∧ at0 C i ≤ at0 C (i + 1) ∧ at0 C (i + 1) ≤ (s.size : Int) := by
  rw [at0_eq C i (by omega), at0_eq C (i + 1) hi]
  exact ⟨(h.2 _ (List.getElem_mem _)).1, (List.pairwise_iff_getElem.1 h.1) i (i + 1) (by omega) hi (by omega), (h.2 _ (List.getElem_mem _)).2⟩
theorem piecesI_l0 (s : ByteArray) (C : List Int) (hC : C.length ≤ 1048600) (h : Rises s C) : ∀ (d i k : Nat) (x : List ByteArray), i + 1 + d = C.length → d < k → x.length ≤ i → impl_piecesOf.l0 k s C x ((i + 1 : Nat) : Int) = some (x ++ pcs s C d i) := by
  intro d
  induction d with
  | zero =>
    intro i k x hn hk hx
    obtain ⟨k, rfl⟩ : ∃ m, k = m + 1 := ⟨k - 1, by omega⟩
    rw [impl_piecesOf.l0, if_neg (by omega)]
    simp [pcs]
  | succ d ih =>
    intro i k x hn hk hx
    obtain ⟨k, rfl⟩ : ∃ m, k = m + 1 := ⟨k - 1, by omega⟩
    have hr := rises_at h i (by omega)
    have hw : wrap64 (((i + 1 : Nat) : Int) - 1) = (i : Int) := by rw [w64 (by omega) (by omega)]; omega
    rw [impl_piecesOf.l0, hw, if_pos (by omega), if_pos (by omega), if_pos (by omega), if_pos (by omega), rd_at0 C i (by omega), rd_at0 C (i + 1) (by omega), if_pos hr.1, if_pos hr.2.1, if_pos hr.2.2, if_pos (by omega), w64s (n := i + 1) (m := C.length) (by omega) (by omega), ih (i + 1) k _ (by omega) (by omega) (by simp; omega)]
    simp [pcs]
theorem piecesS_l0 (s : ByteArray) (C : List Int) (hC : C.length ≤ 1048600) (h : Rises s C) : ∀ (d i k : Nat) (x : List ByteArray), i + 1 + d = C.length → d < k → x.length ≤ i → spec_l07Pieces.l0 k s C x (i : Int) = some (x ++ pcs s C d i) := by
  intro d
  induction d with
  | zero =>
    intro i k x hn hk hx
    obtain ⟨k, rfl⟩ : ∃ m, k = m + 1 := ⟨k - 1, by omega⟩
    rw [spec_l07Pieces.l0, w64s (n := i) (m := C.length) (by omega) (by omega), if_neg (by omega)]
    simp [pcs]
  | succ d ih =>
    intro i k x hn hk hx
    obtain ⟨k, rfl⟩ : ∃ m, k = m + 1 := ⟨k - 1, by omega⟩
    have hr := rises_at h i (by omega)
    rw [spec_l07Pieces.l0, w64s (n := i) (m := C.length) (by omega) (by omega), if_pos (by omega), if_pos (by omega), if_pos (by omega), if_pos (by omega), rd_at0 C i (by omega), rd_at0 C (i + 1) (by omega), if_pos hr.1, if_pos hr.2.1, if_pos hr.2.2, if_pos (by omega), ih (i + 1) k _ (by omega) (by omega) (by simp; omega)]
    simp [pcs]
theorem piecesI_eq (s : ByteArray) (C : List Int) (hC : C.length ≤ 1048600) (h : Rises s C) (k : Nat) (hk : C.length + 2 ≤ k) : impl_piecesOf.f k s C = some (pcs s C (C.length - 1) 0) := by
  unfold impl_piecesOf.f
  by_cases c : C.length = 0
  · obtain ⟨k, rfl⟩ : ∃ m, k = m + 1 := ⟨k - 1, by omega⟩
    rw [impl_piecesOf.l0, if_neg (by omega), c]; rfl
  · have := piecesI_l0 s C hC h (C.length - 1) 0 k [] (by omega) (by omega) (by simp)
    simpa using this
theorem piecesS_eq (s : ByteArray) (C : List Int) (hC : C.length ≤ 1048600) (h : Rises s C) (k : Nat) (hk : C.length + 2 ≤ k) : spec_l07Pieces.f k s C = some (pcs s C (C.length - 1) 0) := by
  unfold spec_l07Pieces.f
  by_cases c : C.length = 0
  · obtain ⟨k, rfl⟩ : ∃ m, k = m + 1 := ⟨k - 1, by omega⟩
    rw [spec_l07Pieces.l0, w64 (x := (0 : Int) + 1) (by omega) (by omega), if_neg (by omega), c]; rfl
  · have := piecesS_l0 s C hC h (C.length - 1) 0 k [] (by omega) (by omega) (by simp)
    simpa using this
theorem froms_rise (s : ByteArray) : ∀ (d i : Nat), ((atsFrom s d i).map (fun a => (a.a : Int))).Pairwise (· ≤ ·) ∧ ∀ x ∈ (atsFrom s d i).map (fun a => (a.a : Int)), (i : Int) ≤ x ∧ x < (s.size : Int)
  | 0, i => by simp [atsFrom]
  | d + 1, i => by
    unfold atsFrom
    by_cases hi : i < s.size
    · have w := dec_width s i hi
      obtain ⟨h1, h2⟩ := froms_rise s d (i + (dec s i).2)
      rw [if_pos hi, List.map_cons]
      refine ⟨List.pairwise_cons.2 ⟨fun y hy => ?_, h1⟩, fun x hx => ?_⟩
      · have := h2 y hy
        simp only [atOf]
        omega
      · rcases List.mem_cons.1 hx with rfl | hx
        · simp only [atOf]; omega
        · have := h2 x hx
          omega
    · rw [if_neg hi]; simp
theorem at0_range (fr : List Int) : (List.range fr.length).map (at0 fr) = fr := by
  refine List.ext_getElem (by simp) fun i h1 h2 => ?_
  rw [List.getElem_map, List.getElem_range, at0_eq fr i h2]
theorem BY_sub (l fr : List Int) (h : fr.length = l.length) : (BY l fr).Sublist fr := by
  have h1 : (BY l fr).Sublist ((List.range l.length).map (at0 fr)) := (List.filter_sublist).map _
  rw [← h, at0_range] at h1
  exact h1
theorem wout_sub (l fr : List Int) (T : Tls) : ∀ (d j : Nat), j + d ≤ (BY l fr).length → (wout l fr T d j).Sublist ((BY l fr).drop j)
  | 0, j, _ => by unfold wout; exact List.nil_sublist _
  | d + 1, j, h => by
    unfold wout
    rw [List.drop_eq_getElem_cons (show j < (BY l fr).length by omega)]
    have ih := wout_sub l fr T d (j + 1) (by omega)
    split
    · rw [at0_eq (BY l fr) j (by omega)]
      exact ih.cons_cons _
    · exact ih.cons _
theorem wordP_rises (s : ByteArray) (T : Tls) : Rises s (wordP s T) := by
  obtain ⟨h1, h2⟩ := froms_rise s s.size 0
  have hf1 : (froms s).Pairwise (· ≤ ·) := h1
  have hf2 : ∀ x ∈ froms s, ((0 : Nat) : Int) ≤ x ∧ x < (s.size : Int) := h2
  unfold wordP
  by_cases c : s.size = 0
  · rw [if_pos c]; exact ⟨List.Pairwise.nil, fun x hx => by cases hx⟩
  · rw [if_neg c]
    have hp := pts_pos s c
    have hB := Bf_pos (pts s) (pts s).length hp
    have hsub : (wout (pts s) (froms s) T ((Bf (pts s) (pts s).length).length - 1) 1).Sublist (froms s) := by
      have a := wout_sub (pts s) (froms s) T ((Bf (pts s) (pts s).length).length - 1) 1 (by rw [List.length_map]; omega)
      exact (a.trans (List.drop_sublist _ _)).trans (BY_sub (pts s) (froms s) (froms_len s))
    have p1 := hf1.sublist hsub
    have p2 : ∀ x ∈ wout (pts s) (froms s) T ((Bf (pts s) (pts s).length).length - 1) 1, 0 ≤ x ∧ x < (s.size : Int) := fun x hx => by
      have := hf2 x (hsub.subset hx)
      omega
    generalize wout (pts s) (froms s) T ((Bf (pts s) (pts s).length).length - 1) 1 = w at p1 p2
    have p3 : ∀ x ∈ w ++ [(s.size : Int)], 0 ≤ x ∧ x ≤ (s.size : Int) := fun x hx => by
      rcases List.mem_append.1 hx with hx | hx
      · have := p2 x hx; omega
      · rw [List.mem_singleton] at hx; omega
    refine ⟨List.pairwise_cons.2 ⟨fun x hx => (p3 x hx).1, List.pairwise_append.2 ⟨p1, List.pairwise_singleton _ _, fun x hx y hy => ?_⟩⟩, fun x hx => ?_⟩
    · rw [List.mem_singleton] at hy
      have := p2 x hx
      omega
    · rcases List.mem_cons.1 hx with rfl | hx
      · omega
      · exact p3 x hx
theorem wordsOf_rises (s : ByteArray) (T : Tls) : Rises s (wordsOf s T) := by
  unfold wordsOf
  split
  · exact ⟨List.Pairwise.nil, fun x hx => by cases hx⟩
  · exact wordP_rises s T
end Go.Proofs.YtmlhnpggjkoinaaDoor.PFnExactWords

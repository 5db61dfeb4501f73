/- Where the points of a text begin and end: the row of places. -/
import Derived.Test.YtmlhnpggjkoinaaDoorPointsFewestWords
set_option linter.unusedSimpArgs false
set_option linter.unusedVariables false
namespace Go.Proofs.YtmlhnpggjkoinaaDoor.PFnExactFewestWords
open Go.RowKit Go.Proofs.YtmlhnpggjkoinaaDoorW.PrintWords Go.Proofs.YtmlhnpggjkoinaaDoorW.PrintLast Go.Proofs.YtmlhnpggjkoinaaDoorW.PrintMore Go.Proofs.YtmlhnpggjkoinaaDoor.Lib

/-- Where the points begin. -/
def froms (s : ByteArray) : List Int := (ats s).map (fun a => (a.a : Int))
theorem froms_len (s : ByteArray) : (froms s).length = (pts s).length := by simp [froms, pts]
theorem row_l0 (s : ByteArray) (hs : s.size ≤ 1048576) : ∀ (d k i : Nat) (x y : List Int), s.size ≤ i + d → d + 12 < k → i ≤ s.size → x.length ≤ i → y.length ≤ i →
    spec_l07RowOf.l0 k s (i : Int) x y = some (x ++ (atsFrom s d i).map At.p, y ++ (atsFrom s d i).map (fun a => (a.a : Int)) ++ [(s.size : Int)]) := by
  intro d
  induction d with
  | zero =>
    intro k i x y hd hk hi hx hy
    obtain ⟨k, rfl⟩ : ∃ m, k = m + 1 := ⟨k - 1, by omega⟩
    rw [spec_l07RowOf.l0, if_neg (by omega), if_pos (by omega)]
    simp [atsFrom]
  | succ d ih =>
    intro k i x y hd hk hi hx hy
    obtain ⟨k, rfl⟩ : ∃ m, k = m + 1 := ⟨k - 1, by omega⟩
    by_cases hlt : i < s.size
    · have w := dec_width s i hlt
      rw [spec_l07RowOf.l0, if_pos (by omega), next_eq s hs k i (by omega) hlt]
      simp only [Option.bind_some, told]
      have w2 : wrap64 ((i : Int) + ((dec s i).2 : Int)) = ((i + (dec s i).2 : Nat) : Int) := by rw [w64 (by omega) (by omega)]; omega
      rw [w2, if_pos (show x.length < 17592186044416 by omega), if_pos (show y.length < 17592186044416 by omega), ih k (i + (dec s i).2) _ _ (by omega) (by omega) (by omega) (by simp; omega) (by simp; omega), atsFrom, if_pos hlt]
      simp [atOf]
    · rw [spec_l07RowOf.l0, if_neg (by omega), if_pos (by omega), atsFrom, if_neg hlt]
      simp
theorem row_eq (s : ByteArray) (k : Nat) (hk : s.size + 13 ≤ k) (hs : s.size ≤ 1048576) : spec_l07RowOf.f k s = some (pts s, froms s ++ [(s.size : Int)]) := by
  unfold spec_l07RowOf.f
  have := row_l0 s hs s.size k 0 [] [] (by omega) (by omega) (by omega) (by simp) (by simp)
  simpa [pts, ats, froms] using this
theorem froms_rise (s : ByteArray) : ∀ (d i : Nat), ((atsFrom s d i).map (fun a => (a.a : Int))).Pairwise (· ≤ ·) ∧ ∀ x ∈ (atsFrom s d i).map (fun a => (a.a : Int)), (i : Int) ≤ x ∧ x < (s.size : Int)
  | 0, i => by simp [atsFrom]
  | d + 1, i => by
    unfold atsFrom
    by_cases hi : i < s.size
    · have w := dec_width s i hi
      obtain ⟨h1, h2⟩ := froms_rise s d (i + (dec s i).2)
      rw [if_pos hi, List.map_cons]
      refine ⟨List.pairwise_cons.2 ⟨fun y hy => ?_, h1⟩, fun x hx => ?_⟩
      · have := h2 y hy
        simp only [atOf]
        omega
      · rcases List.mem_cons.1 hx with rfl | hx
        · simp only [atOf]; omega
        · have := h2 x hx
          omega
    · rw [if_neg hi]; simp
/-- The places at which the points of a text begin, and its end. -/
def places (s : ByteArray) : List Int := froms s ++ [(s.size : Int)]
theorem places_len (s : ByteArray) : (places s).length = (pts s).length + 1 := by
  unfold places
  rw [List.length_append, froms_len]
  rfl
theorem places_up (s : ByteArray) : (places s).Pairwise (· ≤ ·) ∧ ∀ x ∈ places s, 0 ≤ x ∧ x ≤ (s.size : Int) := by
  have h1 : (froms s).Pairwise (· ≤ ·) := (froms_rise s s.size 0).1
  have h2 : ∀ x ∈ froms s, ((0 : Nat) : Int) ≤ x ∧ x < (s.size : Int) := (froms_rise s s.size 0).2
  unfold places
  refine ⟨List.pairwise_append.2 ⟨h1, List.pairwise_singleton _ _, fun x hx y hy => ?_⟩, fun x hx => ?_⟩
  · rw [List.mem_singleton] at hy
    have := h2 x hx
    omega
  · rcases List.mem_append.1 hx with hx | hx
    · have := h2 x hx
      omega
    · rw [List.mem_singleton] at hx
      omega
theorem chain (s : ByteArray) : ∀ (d i : Nat), s.size ≤ i + d → i ≤ s.size → ((atsFrom s d i).map (fun a => (a.a : Int)) ++ [(s.size : Int)]).getD 0 0 = (i : Int) ∧
    ∀ (j : Nat) (h : j < (atsFrom s d i).length), ((atsFrom s d i)[j].b : Int) = ((atsFrom s d i).map (fun a => (a.a : Int)) ++ [(s.size : Int)]).getD (j + 1) 0
  | 0, i, h1, h2 => by
    refine ⟨?_, fun j h => by simp [atsFrom] at h⟩
    simp [atsFrom]
    omega
  | d + 1, i, h1, h2 => by
    by_cases hi : i < s.size
    · have w := dec_width s i hi
      obtain ⟨e1, e2⟩ := chain s d (i + (dec s i).2) (by omega) (by omega)
      have e : atsFrom s (d + 1) i = atOf s i :: atsFrom s d (i + (dec s i).2) := by rw [atsFrom, if_pos hi]
      rw [e]
      refine ⟨by simp [atOf], fun j h => ?_⟩
      rw [List.map_cons, List.cons_append, List.getD_cons_succ]
      cases j with
      | zero =>
        rw [e1]
        rfl
      | succ j =>
        rw [List.getElem_cons_succ]
        exact e2 j (by simpa using h)
    · have e : atsFrom s (d + 1) i = [] := by rw [atsFrom, if_neg hi]
      rw [e]
      refine ⟨?_, fun j h => by simp at h⟩
      simp
      omega
/-- The row of places is what the program's own points bear. -/
theorem at_f1 (s : ByteArray) (i : Nat) (h : i < (pts s).length) : (rd_T74 ((ats s).map asAt) (i : Int)).f1 = rd (places s) (i : Int) := by
  have hl : i < (ats s).length := by simpa [pts] using h
  rw [rdA_nat _ i (by simpa using hl), rd_nat (places s) i (by rw [places_len]; omega)]
  simp [places, froms, asAt, hl]
theorem at_f2 (s : ByteArray) (i : Nat) (h : i < (pts s).length) : (rd_T74 ((ats s).map asAt) (i : Int)).f2 = rd (places s) ((i + 1 : Nat) : Int) := by
  have hl : i < (ats s).length := by simpa [pts] using h
  have e := (chain s s.size 0 (by omega) (by omega)).2 i hl
  rw [rdA_nat _ i (by simpa using hl), List.getElem_map]
  unfold rd
  rw [Int.toNat_natCast]
  exact e
theorem places_bd (s : ByteArray) (i j : Nat) (hij : i ≤ j) (hj : j ≤ (pts s).length) : 0 ≤ rd (places s) (i : Int) ∧ rd (places s) (i : Int) ≤ rd (places s) (j : Int) ∧ rd (places s) (j : Int) ≤ (s.size : Int) := by
  have hl := places_len s
  obtain ⟨h1, h2⟩ := places_up s
  rw [rd_nat (places s) i (by omega), rd_nat (places s) j (by omega)]
  refine ⟨(h2 _ (List.getElem_mem _)).1, ?_, (h2 _ (List.getElem_mem _)).2⟩
  rcases Nat.lt_or_ge i j with c | c
  · exact (List.pairwise_iff_getElem.1 h1) i j (by omega) (by omega) c
  · obtain rfl : i = j := by omega
    exact Int.le_refl _

end Go.Proofs.YtmlhnpggjkoinaaDoor.PFnExactFewestWords

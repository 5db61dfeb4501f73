/- A text's points and where they begin, in both texts. -/
import Derived.Test.YtmlhnpggjkoinaaDoorCutCWords
set_option linter.unusedSimpArgs false
set_option linter.unusedVariables false
namespace Go.Proofs.YtmlhnpggjkoinaaDoor.PFnExactWords
open Go.RowKit Go.Proofs.YtmlhnpggjkoinaaDoorW.PrintWords Go.Proofs.YtmlhnpggjkoinaaDoorW.PrintLast Go.Proofs.YtmlhnpggjkoinaaDoorW.PrintMore Go.Proofs.YtmlhnpggjkoinaaDoor.Lib

theorem pts_ok (s : ByteArray) : okPts (pts s) := pts_pt s
/-- Where the points begin. -/
def froms (s : ByteArray) : List Int := (ats s).map (fun a => (a.a : Int))
theorem froms_len (s : ByteArray) : (froms s).length = (pts s).length := by simp [froms, pts]
theorem row_l0 (s : ByteArray) (hs : s.size ≤ 1048576) : ∀ (d k i : Nat) (x y : List Int), s.size ≤ i + d → d + 12 < k → i ≤ s.size → x.length ≤ i → y.length ≤ i →
    spec_l07RowOf.l0 k s (i : Int) x y = some (x ++ (atsFrom s d i).map At.p, y ++ (atsFrom s d i).map (fun a => (a.a : Int)) ++ [(s.size : Int)]) := by
  intro d
  induction d with
  | zero =>
    intro k i x y hd hk hi hx hy
    obtain ⟨k, rfl⟩ : ∃ m, k = m + 1 := ⟨k - 1, by omega⟩
    rw [spec_l07RowOf.l0, if_neg (by omega), if_pos (by omega)]
    simp [atsFrom]
  | succ d ih =>
    intro k i x y hd hk hi hx hy
    obtain ⟨k, rfl⟩ : ∃ m, k = m + 1 := ⟨k - 1, by omega⟩
    by_cases hlt : i < s.size
    · have w := dec_width s i hlt
      rw [spec_l07RowOf.l0, if_pos (by omega), next_eq s hs k i (by omega) hlt]
      simp only [Option.bind_some, told]
      have w2 : wrap64 ((i : Int) + ((dec s i).2 : Int)) = ((i + (dec s i).2 : Nat) : Int) := by rw [w64 (by omega) (by omega)]; omega
      rw [w2, if_pos (show x.length < 17592186044416 by omega), if_pos (show y.length < 17592186044416 by omega), ih k (i + (dec s i).2) _ _ (by omega) (by omega) (by omega) (by simp; omega) (by simp; omega), atsFrom, if_pos hlt]
      simp [atOf]
    · rw [spec_l07RowOf.l0, if_neg (by omega), if_pos (by omega), atsFrom, if_neg hlt]
      simp
theorem row_eq (s : ByteArray) (k : Nat) (hk : s.size + 13 ≤ k) (hs : s.size ≤ 1048576) : spec_l07RowOf.f k s = some (pts s, froms s ++ [(s.size : Int)]) := by
  unfold spec_l07RowOf.f
  have := row_l0 s hs s.size k 0 [] [] (by omega) (by omega) (by omega) (by simp) (by simp)
  simpa [pts, ats, froms] using this
theorem only_eq (s : ByteArray) (k : Nat) (hk : s.size + 13 ≤ k) (hs : s.size ≤ 1048576) : impl_onlyPoints.f k ((ats s).map asAt) = some (pts s) := by
  have hl : (ats s).length ≤ s.size := ats_len s
  have e : pts s = ((ats s).map asAt).map (fun a => a.f0) := by simp [pts, asAt]
  rw [e]
  have hl2 : ((ats s).map asAt).length ≤ s.size := by rw [List.length_map]; exact hl
  generalize (ats s).map asAt = L at hl2
  unfold impl_onlyPoints.f
  rw [if_pos (by omega), if_pos (by omega), Int.toNat_natCast]
  have := forLoop (fun k (x : List Int) i => impl_onlyPoints.l0 k x L (L.length : Int) i) L.length (fun i => laidRow (fun a => a.f0) (0 : Int) L i) (L.map (fun a => a.f0)) (fun k i hi => ?_) (fun k => ?_) k (by omega)
  · rw [laidRow_zero] at this; exact this
  · show impl_onlyPoints.l0 (k + 1) (laidRow (fun a => a.f0) (0 : Int) L i) L (L.length : Int) (i : Int) = _
    rw [impl_onlyPoints.l0, if_pos (by omega), if_pos (by omega), if_pos (by omega), if_pos (by rw [laidRow_length _ _ _ _ (by omega)]; omega), rdA_nat L i hi, Int.toNat_natCast, laidRow_set _ _ _ _ hi, w64s hi (by omega)]
  · show impl_onlyPoints.l0 (k + 1) (laidRow (fun a => a.f0) (0 : Int) L L.length) L (L.length : Int) (L.length : Int) = _
    rw [impl_onlyPoints.l0, if_neg (by omega), laidRow_all]
theorem rdB (l : List Int) (i : Nat) (h0 : 0 < i) (hi : i < l.length) : rdOf false (rowB l l.length) (i : Int) = cutAt l i := by
  unfold rdOf
  rw [Int.toNat_natCast, List.getD_eq_getElem?_getD, List.getElem?_eq_getElem (by rw [rowB_len]; exact hi)]
  simp [rowB, h0, hi]
/-- The places of a row's marks from point i on. -/
def plz (Z : List Bool) (fr : List Int) : Nat → Nat → List Int
  | 0, _ => []
  | d + 1, i => (if Z.getD i false = true then [at0 fr i] else []) ++ plz Z fr d (i + 1)
theorem placesZ_l0 (Z : List Bool) (fr : List Int) (A : List S74) (n : Int) (hA : A.map (fun a => a.f1) = fr) (hfr : fr.length = Z.length) (hl : Z.length ≤ 1048576) : ∀ (d i k : Nat) (x : List Int), i + d = Z.length → 0 < i → d < k → x.length ≤ i →
    impl_placesOf.l0 k n Z x A (A.length : Int) (i : Int) = some (x ++ plz Z fr d i ++ [n]) := by
  have hAl : A.length = Z.length := by rw [← hfr, ← hA, List.length_map]
  intro d
  induction d with
  | zero =>
    intro i k x hn h0 hk hx
    obtain ⟨k, rfl⟩ : ∃ m, k = m + 1 := ⟨k - 1, by omega⟩
    rw [impl_placesOf.l0, if_neg (by omega), if_pos (by omega)]
    simp [plz]
  | succ d ih =>
    intro i k x hn h0 hk hx
    obtain ⟨k, rfl⟩ : ∃ m, k = m + 1 := ⟨k - 1, by omega⟩
    have hi : i < Z.length := by omega
    have hf : (A[i]'(by omega)).f1 = at0 fr i := by
      rw [at0_eq fr i (by omega)]
      simp [← hA]
    have hz : rdOf false Z (i : Int) = Z.getD i false := by unfold rdOf; rw [Int.toNat_natCast]
    rw [impl_placesOf.l0, if_pos (by omega), if_pos (by omega), if_pos (by omega), if_pos (by omega), if_pos (by omega), hz, rdA_nat A i (by omega), hf, w64s hi (by omega)]
    simp only [plz]
    by_cases c : Z.getD i false = true
    · rw [if_pos c, if_pos (by omega), ih (i + 1) k _ (by omega) (by omega) (by omega) (by simp; omega), if_pos c]
      simp
    · rw [if_neg c, ih (i + 1) k _ (by omega) (by omega) (by omega) (by omega), if_neg c]
      simp
/-- The places of all marks of a text. -/
theorem places_eq (s : ByteArray) (hs : s.size ≤ 1048576) (Z : List Bool) (hZ : Z.length = (pts s).length) (k : Nat) (hk : s.size + 20 ≤ k) :
    impl_placesOf.f k ((ats s).map asAt) (s.size : Int) Z = some (if s.size = 0 then [] else 0 :: (plz Z (froms s) ((pts s).length - 1) 1 ++ [(s.size : Int)])) := by
  have h2 := pts_len s
  unfold impl_placesOf.f
  by_cases h0 : s.size = 0
  · rw [if_pos (by omega), if_pos h0]
  · rw [if_neg (by omega), if_neg h0]
    have hA : ((ats s).map asAt).map (fun a => a.f1) = froms s := by simp [froms, asAt]
    have hAl : ((ats s).map asAt).length = (pts s).length := by simp [pts]
    have hpl : 0 < (pts s).length := by
      unfold pts ats
      obtain ⟨d, hd⟩ : ∃ d, s.size = d + 1 := ⟨s.size - 1, by omega⟩
      rw [hd, atsFrom, if_pos (by omega)]
      simp
    obtain ⟨k, rfl⟩ : ∃ m, k = m + 1 := ⟨k - 1, by omega⟩
    have hfl := froms_len s
    rw [impl_placesOf.l0, if_pos (by omega), if_pos (by omega), if_pos (by omega), if_neg (by omega)]
    have := placesZ_l0 Z (froms s) ((ats s).map asAt) (s.size : Int) hA (by omega) (by omega) ((pts s).length - 1) 1 k [0] (by omega) (by omega) (by omega) (by simp)
    rw [show wrap64 ((0 : Int) + 1) = ((1 : Nat) : Int) from w64 (by omega) (by omega), this]
    simp
theorem froms_0 (s : ByteArray) (h : s.size ≠ 0) : at0 (froms s) 0 = 0 := by
  unfold froms ats
  obtain ⟨d, hd⟩ : ∃ d, s.size = d + 1 := ⟨s.size - 1, by omega⟩
  rw [hd, atsFrom, if_pos (by omega)]
  rfl
end Go.Proofs.YtmlhnpggjkoinaaDoor.PFnExactWords

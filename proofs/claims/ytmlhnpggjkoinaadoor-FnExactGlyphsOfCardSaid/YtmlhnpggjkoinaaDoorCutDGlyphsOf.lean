/- Both texts' places of cuts of characters: the same row. -/
import Derived.Test.YtmlhnpggjkoinaaDoorCutCGlyphsOf
set_option linter.unusedSimpArgs false
set_option linter.unusedVariables false
namespace Go.Proofs.YtmlhnpggjkoinaaDoor.PFnExactGlyphsOf
open Go.RowKit Go.Proofs.YtmlhnpggjkoinaaDoorW.PrintWords Go.Proofs.YtmlhnpggjkoinaaDoorW.PrintLast Go.Proofs.YtmlhnpggjkoinaaDoorW.PrintMore Go.Proofs.YtmlhnpggjkoinaaDoor.Lib

theorem pts_ok (s : ByteArray) : okPts (pts s) := pts_pt s
/-- Where the points begin. -/
def froms (s : ByteArray) : List Int := (ats s).map (fun a => (a.a : Int))
theorem froms_len (s : ByteArray) : (froms s).length = (pts s).length := by simp [froms, pts]
theorem row_l0 (s : ByteArray) (hs : s.size ≤ 1048576) : ∀ (d k i : Nat) (x y : List Int), s.size ≤ i + d → d + 12 < k → i ≤ s.size → x.length ≤ i → y.length ≤ i →
    spec_l07RowOf.l0 k s (i : Int) x y = some (x ++ (atsFrom s d i).map At.p, y ++ (atsFrom s d i).map (fun a => (a.a : Int)) ++ [(s.size : Int)]) := by
  intro d
  induction d with
  | zero =>
    intro k i x y hd hk hi hx hy
    obtain ⟨k, rfl⟩ : ∃ m, k = m + 1 := ⟨k - 1, by omega⟩
    rw [spec_l07RowOf.l0, if_neg (by omega), if_pos (by omega)]
    simp [atsFrom]
  | succ d ih =>
    intro k i x y hd hk hi hx hy
    obtain ⟨k, rfl⟩ : ∃ m, k = m + 1 := ⟨k - 1, by omega⟩
    by_cases hlt : i < s.size
    · have w := dec_width s i hlt
      rw [spec_l07RowOf.l0, if_pos (by omega), next_eq s hs k i (by omega) hlt]
      simp only [Option.bind_some, told]
      have w2 : wrap64 ((i : Int) + ((dec s i).2 : Int)) = ((i + (dec s i).2 : Nat) : Int) := by rw [w64 (by omega) (by omega)]; omega
      rw [w2, if_pos (show x.length < 17592186044416 by omega), if_pos (show y.length < 17592186044416 by omega), ih k (i + (dec s i).2) _ _ (by omega) (by omega) (by omega) (by simp; omega) (by simp; omega), atsFrom, if_pos hlt]
      simp [atOf]
    · rw [spec_l07RowOf.l0, if_neg (by omega), if_pos (by omega), atsFrom, if_neg hlt]
      simp
theorem row_eq (s : ByteArray) (k : Nat) (hk : s.size + 13 ≤ k) (hs : s.size ≤ 1048576) : spec_l07RowOf.f k s = some (pts s, froms s ++ [(s.size : Int)]) := by
  unfold spec_l07RowOf.f
  have := row_l0 s hs s.size k 0 [] [] (by omega) (by omega) (by omega) (by simp) (by simp)
  simpa [pts, ats, froms] using this
theorem only_eq (s : ByteArray) (k : Nat) (hk : s.size + 13 ≤ k) (hs : s.size ≤ 1048576) : impl_onlyPoints.f k ((ats s).map asAt) = some (pts s) := by
  have hl : (ats s).length ≤ s.size := ats_len s
  have e : pts s = ((ats s).map asAt).map (fun a => a.f0) := by simp [pts, asAt]
  rw [e]
  have hl2 : ((ats s).map asAt).length ≤ s.size := by rw [List.length_map]; exact hl
  generalize (ats s).map asAt = L at hl2
  unfold impl_onlyPoints.f
  rw [if_pos (by omega), if_pos (by omega), Int.toNat_natCast]
  have := forLoop (fun k (x : List Int) i => impl_onlyPoints.l0 k x L (L.length : Int) i) L.length (fun i => laidRow (fun a => a.f0) (0 : Int) L i) (L.map (fun a => a.f0)) (fun k i hi => ?_) (fun k => ?_) k (by omega)
  · rw [laidRow_zero] at this; exact this
  · show impl_onlyPoints.l0 (k + 1) (laidRow (fun a => a.f0) (0 : Int) L i) L (L.length : Int) (i : Int) = _
    rw [impl_onlyPoints.l0, if_pos (by omega), if_pos (by omega), if_pos (by omega), if_pos (by rw [laidRow_length _ _ _ _ (by omega)]; omega), rdA_nat L i hi, Int.toNat_natCast, laidRow_set _ _ _ _ hi, w64s hi (by omega)]
  · show impl_onlyPoints.l0 (k + 1) (laidRow (fun a => a.f0) (0 : Int) L L.length) L (L.length : Int) (L.length : Int) = _
    rw [impl_onlyPoints.l0, if_neg (by omega), laidRow_all]
/-- The cuts' places from point i on. -/
def plc (l fr : List Int) : Nat → Nat → List Int
  | 0, _ => []
  | d + 1, i => (if i = 0 ∨ cutAt l i = true then [at0 fr i] else []) ++ plc l fr d (i + 1)
theorem plc_len (l fr : List Int) : ∀ d i, (plc l fr d i).length ≤ d
  | 0, _ => Nat.le_refl _
  | d + 1, i => by
    have := plc_len l fr d (i + 1)
    unfold plc
    rw [List.length_append]
    split
    · rw [List.length_singleton]; omega
    · rw [List.length_nil]; omega
theorem chars_l0 (s : ByteArray) (l fr : List Int) (n : Int) (hfr : fr.length = l.length) (hl : l.length ≤ 1048576) (hp : okPts l) : ∀ (d i k : Nat) (x : List Int), i + d = l.length → d + l.length + 100 < k → x.length ≤ i →
    spec_l07Chars.l0 k s x (i : Int) l (fr ++ [n]) = some (x ++ plc l fr d i ++ (if (s.size : Int) > 0 then [(s.size : Int)] else [])) := by
  intro d
  induction d with
  | zero =>
    intro i k x hn hk hx
    obtain ⟨k, rfl⟩ : ∃ m, k = m + 1 := ⟨k - 1, by omega⟩
    rw [spec_l07Chars.l0, if_neg (by omega)]
    by_cases c : (s.size : Int) > 0
    · rw [if_pos c, if_pos (by omega), if_pos c]; simp [plc]
    · rw [if_neg c, if_neg c]; simp [plc]
  | succ d ih =>
    intro i k x hn hk hx
    obtain ⟨k, rfl⟩ : ∃ m, k = m + 1 := ⟨k - 1, by omega⟩
    have hi : i < l.length := by omega
    have hfi : rd (fr ++ [n]) (i : Int) = at0 fr i := by
      rw [rd_nat _ i (by simp; omega), List.getElem_append_left (by omega), at0_eq fr i (by omega)]
    have hfl : (i : Int) < ((fr ++ [n]).length : Int) := by simp; omega
    rw [spec_l07Chars.l0, if_pos (by omega)]
    simp only [plc]
    by_cases h0 : i = 0
    · rw [if_pos (by omega), if_pos (by omega), if_pos hfl, if_pos (by omega), hfi, w64s hi (by omega), ih (i + 1) k _ (by omega) (by omega) (by simp; omega), if_pos (Or.inl h0)]
      simp
    · rw [if_neg (by omega), char_eq l hl hp i k (by omega) hi (by omega), Option.bind_some]
      by_cases c : cutAt l i = true
      · rw [if_pos c, if_pos (by omega), if_pos hfl, if_pos (by omega), hfi, w64s hi (by omega), ih (i + 1) k _ (by omega) (by omega) (by simp; omega), if_pos (Or.inr c)]
        simp
      · rw [if_neg c, w64s hi (by omega), ih (i + 1) k _ (by omega) (by omega) (by omega), if_neg (show ¬ (i = 0 ∨ cutAt l i = true) from fun h => h.elim h0 c)]
        simp
theorem rdB (l : List Int) (i : Nat) (h0 : 0 < i) (hi : i < l.length) : rdOf false (rowB l l.length) (i : Int) = cutAt l i := by
  unfold rdOf
  rw [Int.toNat_natCast, List.getD_eq_getElem?_getD, List.getElem?_eq_getElem (by rw [rowB_len]; exact hi)]
  simp [rowB, h0, hi]
/-- The cuts of a text. -/
def charP (s : ByteArray) : List Int := plc (pts s) (froms s) (pts s).length 0 ++ (if (s.size : Int) > 0 then [(s.size : Int)] else [])
theorem charP_len (s : ByteArray) (hs : s.size ≤ 1048576) : (charP s).length ≤ 1048577 := by
  have h1 := plc_len (pts s) (froms s) (pts s).length 0
  have h2 := pts_len s
  unfold charP
  rw [List.length_append]
  split
  · rw [List.length_singleton]; omega
  · rw [List.length_nil]; omega
theorem specChars_eq (s : ByteArray) (hs : s.size ≤ 1048576) (k : Nat) (hk : 2 * s.size + 200 ≤ k) : spec_l07Chars.f k s = some (charP s) := by
  unfold spec_l07Chars.f charP
  have h2 := pts_len s
  rw [row_eq s k (by omega) hs, Option.bind_some]
  have := chars_l0 s (pts s) (froms s) (s.size : Int) (froms_len s) (by omega) (pts_ok s) (pts s).length 0 k [] (by omega) (by omega) (by simp)
  simpa using this

end Go.Proofs.YtmlhnpggjkoinaaDoor.PFnExactGlyphsOf

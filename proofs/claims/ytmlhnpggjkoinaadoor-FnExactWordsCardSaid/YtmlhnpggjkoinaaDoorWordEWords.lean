/- Cuts of words: the program's marks and both texts' places are the same. -/
import Derived.Test.YtmlhnpggjkoinaaDoorWordDWords
set_option linter.unusedSimpArgs false
set_option linter.unusedVariables false
namespace Go.Proofs.YtmlhnpggjkoinaaDoor.PFnExactWords
open Go.RowKit Go.Proofs.YtmlhnpggjkoinaaDoorW.PrintWords Go.Proofs.YtmlhnpggjkoinaaDoorW.PrintLast Go.Proofs.YtmlhnpggjkoinaaDoorW.PrintMore Go.Proofs.YtmlhnpggjkoinaaDoor.Lib

theorem BI_len (l : List Int) (i : Nat) : (BI l i).length = (Bf l i).length := List.length_map ..
theorem BI_rd (l : List Int) (j : Nat) (h : j < (Bf l l.length).length) : rd (BI l l.length) (j : Int) = (((Bf l l.length)[j] : Nat) : Int) := by
  rw [rd_nat _ j (by rw [BI_len]; exact h), List.getElem_map]
theorem get_at (l : List Int) (j : Nat) (h : j < (Bf l l.length).length) : impl_wordCuts_1.f (j : Int) (BI l l.length) l = some (at0 (BX l) j) := by
  have hm := Bf_mem l l.length j h
  unfold impl_wordCuts_1.f
  rw [if_neg (by omega), if_neg (by rw [BI_len]; omega), if_pos (by omega), if_pos (by rw [BI_len]; omega), BI_rd l j h, if_pos (by omega), if_pos (by omega), rd_at0 l _ hm.1, map_at0 l _ j h]
theorem get_lo (l : List Int) (a : Int) (h : a < 0) : impl_wordCuts_1.f a (BI l l.length) l = some (-1) := by
  unfold impl_wordCuts_1.f
  rw [if_pos h]
theorem get_hi (l : List Int) (a : Int) (h0 : 0 ≤ a) (h : ((Bf l l.length).length : Int) ≤ a) : impl_wordCuts_1.f a (BI l l.length) l = some (-1) := by
  unfold impl_wordCuts_1.f
  rw [if_neg (by omega), if_pos (by rw [BI_len]; omega)]
/-- The marks of the first j. -/
def rowZ (l : List Int) (T : Tls) (j : Nat) : List Bool := (List.range l.length).map (fun i => kp l i && decide (1 ≤ (Bf l i).length) && decide ((Bf l i).length < j) && wc l T (Bf l i).length)
theorem rowZ_len (l : List Int) (T : Tls) (j : Nat) : (rowZ l T j).length = l.length := by simp [rowZ]
theorem rowZ_one (l : List Int) (T : Tls) : rowZ l T 1 = List.replicate l.length false := by
  apply List.ext_getElem
  · simp [rowZ]
  · intro i h1 h2
    simp only [rowZ, List.getElem_map, List.getElem_range, List.getElem_replicate]
    by_cases c : 1 ≤ (Bf l i).length
    · rw [decide_eq_false (show ¬ (Bf l i).length < 1 by omega), Bool.and_false, Bool.false_and]
    · rw [decide_eq_false c, Bool.and_false, Bool.false_and, Bool.false_and]
theorem rowZ_set (l : List Int) (T : Tls) (j : Nat) (h0 : 1 ≤ j) (h : j < (Bf l l.length).length) : (rowZ l T j).set (Bf l l.length)[j] (wc l T j) = rowZ l T (j + 1) := by
  have hm := Bf_mem l l.length j h
  apply List.ext_getElem
  · simp [rowZ]
  · intro i h1 h2
    rw [rowZ_len] at h2
    rw [List.getElem_set]
    simp only [rowZ, List.getElem_map, List.getElem_range]
    by_cases e : (Bf l l.length)[j] = i
    · rw [if_pos e, ← e, hm.2.1, hm.2.2, decide_eq_true h0, decide_eq_true (Nat.lt_succ_self j)]
      rfl
    · rw [if_neg e]
      cases c : kp l i
      · rfl
      · have hr := Bf_rank l h2 c
        have hne : (Bf l i).length ≠ j := by
          intro x
          rw [x, List.getElem?_eq_getElem h] at hr
          exact e (Option.some.inj hr)
        rw [show decide ((Bf l i).length < j) = decide ((Bf l i).length < j + 1) from decide_eq_decide.2 ⟨fun _ => by omega, fun _ => by omega⟩]
theorem implW_l1 (T : Tls) (hT : T.length ≤ 1048576) (l : List Int) (hl : l.length ≤ 1048576) (hp : okPts l) : ∀ (d j k : Nat), j + d = (Bf l l.length).length → 1 ≤ j → d + T.length + 100 < k →
    impl_wordCuts.l1 k (rowZ l T j) (j : Int) l T (rowB l l.length) (BI l l.length) = some (rowZ l T (Bf l l.length).length) := by
  have hb := Bf_le l l.length
  have hX := BX_len l
  intro d
  induction d with
  | zero =>
    intro j k hn h0 hk
    obtain ⟨k, rfl⟩ : ∃ m, k = m + 1 := ⟨k - 1, by omega⟩
    rw [impl_wordCuts.l1, if_neg (by rw [BI_len]; omega), show j = (Bf l l.length).length by omega]
  | succ d ih =>
    intro j k hn h0 hk
    obtain ⟨k, rfl⟩ : ∃ m, k = m + 1 := ⟨k - 1, by omega⟩
    have hj : j < (Bf l l.length).length := by omega
    have hm := Bf_mem l l.length j hj
    have hpos := Bf_ne l l.length j hj h0
    have e1 : wrap64 ((j : Int) - 1) = ((j - 1 : Nat) : Int) := by rw [w64 (by omega) (by omega)]; omega
    have e2 : wrap64 ((j : Int) - 2) = (j : Int) - 2 := w64 (by omega) (by omega)
    have g3 : impl_wordCuts_1.f ((j : Int) - 2) (BI l l.length) l = some (bfO (BX l) j) := by
      unfold bfO
      by_cases c : 2 ≤ j
      · rw [if_pos c, show (j : Int) - 2 = ((j - 2 : Nat) : Int) by omega, get_at l (j - 2) (by omega)]
      · rw [if_neg c, get_lo l _ (by omega)]
    have g4 : impl_wordCuts_1.f ((j + 1 : Nat) : Int) (BI l l.length) l = some (bhO (BX l) j) := by
      unfold bhO
      by_cases c : j + 1 < (BX l).length
      · rw [if_pos c, get_at l (j + 1) (by omega)]
      · rw [if_neg c, get_hi l _ (by omega) (by omega)]
    have hR : rdOf false (rowB l l.length) (((Bf l l.length)[j] : Nat) : Int) = cutAt l ((Bf l l.length).getD j 0) := by
      rw [rdB l _ hpos hm.1, List.getD_eq_getElem?_getD, List.getElem?_eq_getElem hj]
      rfl
    have hx : ∀ i, i < (Bf l l.length).length → in64 (at0 (BX l) i) := fun i hi => BX_in64 l hp i (by omega)
    have hc := cutI_eq T hT (at0 (BX l) (j - 1)) (at0 (BX l) j) (bhO (BX l) j) (bfO (BX l) j) (hx _ (by omega)) (hx j hj) (bhO_in64 _ (BX_in64 l hp) j) (bfO_in64 _ (BX_in64 l hp) j (by omega)) (rowB l l.length) (Bf l l.length)[j] (by rw [rowB_len]; exact hm.1) 890091 890089 890090 k (by omega)
    rw [hR] at hc
    rw [impl_wordCuts.l1, if_pos (by rw [BI_len]; omega), if_pos (by omega), e1, get_at l (j - 1) (by omega), Option.bind_some, get_at l j hj, Option.bind_some, e2, g3, Option.bind_some, w64s hj (by omega), g4, Option.bind_some, BI_rd l j hj, hc, Option.bind_some, if_pos (by omega), if_pos (by rw [rowZ_len]; omega), Int.toNat_natCast]
    have := ih (j + 1) k (by omega) (by omega) (by omega)
    rw [← rowZ_set l T j h0 hj] at this
    exact this
theorem implW_eq (T : Tls) (hT : T.length ≤ 1048576) (l : List Int) (hl : l.length ≤ 1048576) (hp : okPts l) (k : Nat) (hk : 3 * 1048576 + 1000 ≤ k) : impl_wordCuts.f k l T = some (rowZ l T (Bf l l.length).length) := by
  have hb := Bf_le l l.length
  unfold impl_wordCuts.f
  rw [if_pos (by omega), if_pos (by omega), Int.toNat_natCast, cuts_eq l hl hp k (by omega), Option.bind_some]
  obtain ⟨K, rfl⟩ : ∃ K, k = K + l.length + 1 := ⟨k - l.length - 1, by omega⟩
  have h0 := implW_l0 T (rowB l l.length) (List.replicate l.length false) l hl hp K (by omega) l.length 0 (by omega)
  have e : BI l 0 = [] := rfl
  rw [e] at h0
  rw [show ((0 : Nat) : Int) = 0 from rfl] at h0
  rw [h0]
  by_cases c : 1 ≤ (Bf l l.length).length
  · have := implW_l1 T hT l hl hp ((Bf l l.length).length - 1) 1 K (by omega) (by omega) (by omega)
    rw [rowZ_one] at this
    exact this
  · have hz : l.length = 0 := by
      rcases Nat.eq_zero_or_pos l.length with h | h
      · exact h
      · exact absurd (Bf_pos l l.length h) c
    obtain ⟨K, rfl⟩ : ∃ m, K = m + 1 := ⟨K - 1, by omega⟩
    rw [impl_wordCuts.l1, if_neg (by rw [BI_len]; omega)]
    congr 1
    have hl0 : l = [] := List.length_eq_zero_iff.1 hz
    subst hl0
    rfl
theorem rowZ_at (l : List Int) (T : Tls) (i : Nat) (h : i < l.length) (h0 : 0 < i) : (rowZ l T (Bf l l.length).length).getD i false = (kp l i && wc l T (Bf l i).length) := by
  rw [List.getD_eq_getElem?_getD, List.getElem?_eq_getElem (by rw [rowZ_len]; exact h)]
  simp only [rowZ, List.getElem_map, List.getElem_range, Option.getD_some]
  rw [decide_eq_true (Bf_pos l i h0)]
  cases c : kp l i
  · rfl
  · have h1 := Bf_mono l (show i + 1 ≤ l.length from h)
    rw [Bf_succ, if_pos c, List.length_append, List.length_singleton] at h1
    rw [decide_eq_true (show (Bf l i).length < (Bf l l.length).length by omega)]
    simp
/-- The program's places are the reference's. -/
theorem places_same (l fr : List Int) (T : Tls) : ∀ (d i : Nat), i + d = l.length → 0 < i → plz (rowZ l T (Bf l l.length).length) fr d i = wout l fr T ((Bf l l.length).length - (Bf l i).length) (Bf l i).length := by
  intro d
  induction d with
  | zero =>
    intro i hn h0
    rw [show i = l.length by omega, Nat.sub_self]
    rfl
  | succ d ih =>
    intro i hn h0
    have hi : i < l.length := by omega
    rw [plz, rowZ_at l T i hi h0, ih (i + 1) (by omega) (by omega)]
    cases c : kp l i
    · have hs : Bf l (i + 1) = Bf l i := by rw [Bf_succ, if_neg (by rw [c]; decide), List.append_nil]
      rw [hs]
      rfl
    · have h1 := Bf_mono l (show i + 1 ≤ l.length from hi)
      have hr := Bf_rank l hi c
      rw [Bf_succ, if_pos c, List.length_append, List.length_singleton] at h1 ⊢
      obtain ⟨m, hm⟩ : ∃ m, (Bf l l.length).length - (Bf l i).length = m + 1 := ⟨(Bf l l.length).length - (Bf l i).length - 1, by omega⟩
      rw [hm, show (Bf l l.length).length - ((Bf l i).length + 1) = m by omega, wout, Bool.true_and]
      congr 1
      have hlt : (Bf l i).length < (Bf l l.length).length := by omega
      have hy : at0 (BY l fr) (Bf l i).length = at0 fr i := by
        rw [map_at0 fr _ _ hlt]
        rw [List.getElem?_eq_getElem hlt] at hr
        rw [Option.some.inj hr]
      rw [hy]
/-- The cuts of words of a text. -/
def wordP (s : ByteArray) (T : Tls) : List Int := if s.size = 0 then [] else 0 :: (wout (pts s) (froms s) T ((Bf (pts s) (pts s).length).length - 1) 1 ++ [(s.size : Int)])
theorem pts_pos (s : ByteArray) (h : s.size ≠ 0) : 0 < (pts s).length := by
  unfold pts ats
  obtain ⟨d, hd⟩ : ∃ d, s.size = d + 1 := ⟨s.size - 1, by omega⟩
  rw [hd, atsFrom, if_pos (by omega)]
  simp
theorem wordP_len (s : ByteArray) (T : Tls) (hs : s.size ≤ 1048576) : (wordP s T).length ≤ 1048578 := by
  have h1 := wout_len (pts s) (froms s) T ((Bf (pts s) (pts s).length).length - 1) 1
  have h2 := pts_len s
  have h3 := Bf_le (pts s) (pts s).length
  unfold wordP
  split
  · simp
  · rw [List.length_cons, List.length_append, List.length_singleton]; omega
theorem implP_eq (s : ByteArray) (hs : s.size ≤ 1048576) (T : Tls) (hT : T.length ≤ 1048576) (k : Nat) (hk : 3 * 1048576 + 1000 ≤ k) :
    ((impl_wordCuts.f k (pts s) T).bind fun Z => impl_placesOf.f k ((ats s).map asAt) (s.size : Int) Z) = some (wordP s T) := by
  have h2 := pts_len s
  rw [implW_eq T hT (pts s) (by omega) (pts_ok s) k hk, Option.bind_some, places_eq s hs _ (rowZ_len _ _ _) k (by omega)]
  unfold wordP
  by_cases c : s.size = 0
  · rw [if_pos c, if_pos c]
  · have hp := pts_pos s c
    rw [if_neg c, if_neg c, places_same (pts s) (froms s) T ((pts s).length - 1) 1 (by omega) (by omega), Bf_one]
    rfl
theorem specW_eq (s : ByteArray) (hs : s.size ≤ 1048576) (T : Tls) (hT : T.length ≤ 1048576) (k : Nat) (hk : 4 * 1048576 + 1000 ≤ k) : spec_l07Words.f k s T = some (wordP s T) := by
  have h2 := pts_len s
  have hb := Bf_le (pts s) (pts s).length
  unfold spec_l07Words.f
  rw [row_eq s k (by omega) hs, Option.bind_some]
  obtain ⟨K, rfl⟩ : ∃ K, k = K + (pts s).length + 1 := ⟨k - (pts s).length - 1, by omega⟩
  have h0 := specW_l0 s T (pts s) (froms s) (s.size : Int) (froms_len s) (by omega) (pts_ok s) K (by omega) (pts s).length 0 (by omega)
  rw [show ((0 : Nat) : Int) = 0 from rfl] at h0
  have e : Bf (pts s) 0 = [] := rfl
  rw [e] at h0
  refine h0.trans ?_
  unfold wordP
  by_cases c : s.size = 0
  · have hz : (pts s).length = 0 := by omega
    obtain ⟨K, rfl⟩ : ∃ m, K = m + 1 := ⟨K - 1, by omega⟩
    rw [if_pos c, spec_l07Words.l1, if_neg (by rw [BX_len]; omega), if_neg (by omega)]
  · have hp := pts_pos s c
    have hB := Bf_pos (pts s) (pts s).length hp
    have hy : rd (BY (pts s) (froms s)) 0 = 0 := by
      have := rd_at0 (BY (pts s) (froms s)) 0 (by rw [List.length_map]; exact hB)
      rw [show ((0 : Nat) : Int) = 0 from rfl] at this
      rw [this, map_at0 (froms s) _ 0 hB]
      have hr := Bf_rank (pts s) hp (kp_zero _)
      rw [e, List.length_nil, List.getElem?_eq_getElem hB] at hr
      rw [Option.some.inj hr]
      exact froms_0 s c
    obtain ⟨K, rfl⟩ : ∃ m, K = m + 1 := ⟨K - 1, by omega⟩
    rw [if_neg c, spec_l07Words.l1, if_pos (by rw [BX_len]; omega), if_pos rfl, if_pos (by omega), if_pos (by rw [List.length_map]; omega), if_pos (by simp), hy]
    have := specW_l1 s T hT (pts s) (froms s) (by omega) (pts_ok s) ((Bf (pts s) (pts s).length).length - 1) 1 K ([] ++ [0]) (by omega) (by omega) (by omega) (by simp)
    rw [show wrap64 ((0 : Int) + 1) = ((1 : Nat) : Int) from w64 (by omega) (by omega), this, if_pos (by omega)]
    simp
end Go.Proofs.YtmlhnpggjkoinaaDoor.PFnExactWords

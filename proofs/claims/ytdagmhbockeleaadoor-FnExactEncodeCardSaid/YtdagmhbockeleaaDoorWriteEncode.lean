/- What the printed functions that write points as bytes come to: isPoint, write, l01Write, l01Text. -/
import Derived.Test.YtdagmhbockeleaaDoorPFnExactEncodex
import Derived.Test.YtdagmhbockeleaaDoorLib
set_option linter.unusedSimpArgs false
set_option linter.unusedVariables false
namespace Go.Proofs.YtdagmhbockeleaaDoor.PFnExactEncode
open Go.RowKit Go.Proofs.YtdagmhbockeleaaDoorW.PrintWords Go.Proofs.YtdagmhbockeleaaDoorW.PrintLast Go.Proofs.YtdagmhbockeleaaDoorW.PrintMore Go.Proofs.YtdagmhbockeleaaDoor.Lib

theorem isPoint_eq (p : Int) : impl_isPoint.f p = some (isPt p) := by
  unfold impl_isPoint.f isPt
  by_cases h0 : p ≥ 0
  · rw [if_pos h0]
    by_cases h1 : p ≤ 1114111
    · rw [if_pos h1]
      by_cases h2 : p < 55296
      · rw [if_pos h2]; simp [h1, h2]; omega
      · rw [if_neg h2]; simp [h1, h2]; omega
    · rw [if_neg h1]; simp [h1]
  · rw [if_neg h0]; simp; omega
theorem isPointS_eq (p : Int) : spec_l01IsPoint.f p = some (isPt p) := by
  unfold spec_l01IsPoint.f isPt
  by_cases h0 : p ≥ 0
  · rw [if_pos h0]
    by_cases h1 : p ≤ 1114111
    · rw [if_pos h1]
      by_cases h2 : p < 55296
      · rw [if_pos h2]; simp [h1, h2]; omega
      · rw [if_neg h2]; simp [h1, h2]; omega
    · rw [if_neg h1]; simp [h1]
  · rw [if_neg h0]; simp; omega

theorem specWrite_j0 (k : Nat) (p : Int) (h0 : 0 ≤ p) (h1 : p ≤ 1114111) : spec_l01Write.j0 (k + 1) p = some (strOfNums (enc p)) := by
  have d1 : Int.tdiv p 64 = p / 64 := Int.tdiv_eq_ediv_of_nonneg h0
  have d2 : Int.tdiv p 4096 = p / 4096 := Int.tdiv_eq_ediv_of_nonneg h0
  have d3 : Int.tdiv p 262144 = p / 262144 := Int.tdiv_eq_ediv_of_nonneg h0
  have m1 : Int.tmod p 64 = p % 64 := Int.tmod_eq_emod_of_nonneg h0
  have w1 : wrap64 (p / 64) = p / 64 := w64 (by omega) (by omega)
  have w2 : wrap64 (p / 4096) = p / 4096 := w64 (by omega) (by omega)
  have w3 : wrap64 (p / 262144) = p / 262144 := w64 (by omega) (by omega)
  have m2 : Int.tmod (p / 64) 64 = p / 64 % 64 := Int.tmod_eq_emod_of_nonneg (by omega)
  have m3 : Int.tmod (p / 4096) 64 = p / 4096 % 64 := Int.tmod_eq_emod_of_nonneg (by omega)
  simp only [spec_l01Write.j0, d1, d2, d3, m1, w1, w2, w3, m2, m3]
  unfold enc
  by_cases c1 : p < 128
  · rw [if_pos c1, if_pos c1, Int.emod_eq_of_lt h0 (by omega)]
  · rw [if_neg c1, if_neg c1]
    by_cases c2 : p < 2048
    · rw [if_pos c2, if_pos c2]
      refine congrArg (fun l => some (strOfNums l)) ?_
      simp only [List.cons.injEq, and_true]
      refine ⟨?_, ?_⟩ <;> (unfold wrap64; omega)
    · rw [if_neg c2, if_neg c2]
      by_cases c3 : p < 65536
      · rw [if_pos c3, if_pos c3]
        refine congrArg (fun l => some (strOfNums l)) ?_
        simp only [List.cons.injEq, and_true]
        refine ⟨?_, ?_, ?_⟩ <;> (unfold wrap64; omega)
      · rw [if_neg c3, if_neg c3]
        refine congrArg (fun l => some (strOfNums l)) ?_
        simp only [List.cons.injEq, and_true]
        refine ⟨?_, ?_, ?_, ?_⟩ <;> (unfold wrap64; omega)
theorem specWrite_eq (k : Nat) (p : Int) : spec_l01Write.f (k + 1) p = some (strOfNums (enc (fixPt p))) := by
  unfold spec_l01Write.f
  rw [isPointS_eq]
  simp only [Option.bind_some]
  have h := fixPt_range p
  unfold fixPt at h ⊢
  by_cases c : isPt p = true
  · rw [if_pos c] at h ⊢
    rw [if_pos c]
    exact specWrite_j0 k p (by omega) (by omega)
  · rw [if_neg c, if_neg c]
    exact specWrite_j0 k 65533 (by omega) (by omega)

theorem nonASCII_j0 (k : Nat) (l : List Int) (p : Int) (c : Bool) (h0 : 2048 ≤ p) (h1 : p ≤ 1114111) (hc : c = decide (p < 65536)) (hl : l.length + 4 < 140737488355328) :
    utf8_appendRuneNonASCII.j0 (k + 1) l p p c = some (l ++ enc p) := by
  simp only [utf8_appendRuneNonASCII.j0, Option.bind_some, List.length_cons, List.length_nil]
  subst hc
  unfold enc
  rw [if_neg (show ¬ p < 128 by omega), if_neg (show ¬ p < 2048 by omega)]
  by_cases c3 : p < 65536
  · rw [if_pos (decide_eq_true c3), if_pos c3, if_pos (by omega)]
    rw [show (p / 4096) % 256 = p / 4096 by omega, u8_or224 _ (by omega) (by omega)]
  · rw [if_neg (show ¬ decide (p < 65536) = true by simpa using c3), if_neg c3, if_pos (by omega), if_pos h1, if_pos (by omega)]
    rw [show (p / 262144) % 256 = p / 262144 by omega, u8_or240 _ (by omega) (by omega)]

theorem appendRune_eq (k : Nat) (l : List Int) (p : Int) (hp : isPt p = true) (hl : l.length + 4 < 140737488355328) : utf8_AppendRune.f (k + 1) l p = some (l ++ enc p) := by
  have hr := (isPt_iff p).1 hp
  have e : p % 4294967296 = p := by omega
  unfold utf8_AppendRune.f
  rw [e]
  by_cases c1 : p ≤ 127
  · rw [if_pos c1, if_pos (by omega)]
    unfold enc
    rw [if_pos (by omega), show p % 256 = p by omega]
  · rw [if_neg c1]
    unfold utf8_appendRuneNonASCII.f
    rw [e]
    by_cases c2 : p ≤ 2047
    · rw [if_pos c2]
      simp only [Option.bind_some, List.length_cons, List.length_nil]
      rw [if_pos (by omega)]
      simp only [Option.bind_some]
      unfold enc
      rw [if_neg (show ¬ p < 128 by omega), if_pos (show p < 2048 by omega), show (p / 64) % 256 = p / 64 by omega, u8_or192 _ (by omega) (by omega)]
    · rw [if_neg c2]
      by_cases c3 : p < 55296
      · rw [if_pos c3, nonASCII_j0 k l p _ (by omega) (by omega) (decide_eq_decide.2 (by omega)) hl]; rfl
      · rw [if_neg c3, if_pos (by omega), nonASCII_j0 k l p _ (by omega) (by omega) (decide_eq_decide.2 (by omega)) hl]; rfl

theorem write_l0 (l : List Int) (hl : l.length ≤ 9223372036854775806) : ∀ (d n k : Nat) (x : List Int), n + d = l.length → d + 1 < k → x.length + 4 * d + 4 < 140737488355328 →
    impl_write.l0 k x l (l.length : Int) (n : Int) = some (strOfNums (x ++ encAll (l.drop n))) := by
  intro d
  induction d with
  | zero =>
    intro n k x hn hk hx
    obtain ⟨k, rfl⟩ : ∃ m, k = m + 1 := ⟨k - 1, by omega⟩
    simp only [impl_write.l0]
    rw [if_neg (by omega), List.drop_eq_nil_of_le (by omega)]
    simp [encAll]
  | succ d ih =>
    intro n k x hn hk hx
    obtain ⟨k, rfl⟩ : ∃ m, k = m + 1 := ⟨k - 1, by omega⟩
    obtain ⟨k', rfl⟩ : ∃ m, k = m + 1 := ⟨k - 1, by omega⟩
    have hlt : n < l.length := by omega
    simp only [impl_write.l0]
    rw [if_pos (by omega), if_pos (by omega), if_pos (by omega), rd_nat l n hlt, isPoint_eq, w64s hlt (by omega)]
    simp only [Option.bind_some]
    have e2 := enc_len (fixPt l[n])
    have fin : ∀ y, y = x ++ enc (fixPt l[n]) → impl_write.l0 (k' + 1) y l (l.length : Int) ((n + 1 : Nat) : Int) = some (strOfNums (x ++ encAll (l.drop n))) := by
      intro y hy
      rw [ih (n + 1) (k' + 1) y (by omega) (by omega) (by rw [hy, List.length_append]; omega), List.drop_eq_getElem_cons hlt, hy]
      simp [encAll]
    by_cases c : isPt l[n] = true
    · have hr := (isPt_iff _).1 c
      rw [if_pos c, show wrap32 l[n] = l[n] by unfold wrap32; omega, appendRune_eq k' x _ c (by omega)]
      exact fin _ (by unfold fixPt; rw [if_pos c])
    · rw [if_neg c, appendRune_eq k' x 65533 (by decide) (by omega)]
      exact fin _ (by unfold fixPt; rw [if_neg c])
theorem write_eq (l : List Int) (k : Nat) (hk : l.length + 2 ≤ k) (hl : 4 * l.length + 4 < 140737488355328) : impl_write.f k l = some (strOfNums (encAll l)) := by
  unfold impl_write.f
  have := write_l0 l (by omega) l.length 0 k [] (by omega) (by omega) (by simp; omega)
  simpa using this

end Go.Proofs.YtdagmhbockeleaaDoor.PFnExactEncode

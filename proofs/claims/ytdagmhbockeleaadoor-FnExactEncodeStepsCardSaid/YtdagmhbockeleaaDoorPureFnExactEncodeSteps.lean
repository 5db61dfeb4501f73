/- The program's EncodeSteps returns what the reference's returns. For every input: the law answers true; each argument reads afterwards as it read before. -/
import Derived.Test.YtdagmhbockeleaaDoorPFnExactEncodeStepsx
import Derived.Test.YtdagmhbockeleaaDoorLib
import Derived.Test.YtdagmhbockeleaaDoorPointsEncodeSteps
set_option linter.unusedSimpArgs false
set_option linter.unusedVariables false
namespace Go.Proofs.YtdagmhbockeleaaDoor.Pure
open Go.RowKit Go.Proofs.YtdagmhbockeleaaDoor.PFnExactEncodeSteps Go.Proofs.YtdagmhbockeleaaDoorW.PrintWords Go.Proofs.YtdagmhbockeleaaDoorW.PrintLast Go.Proofs.YtdagmhbockeleaaDoor.Lib

theorem or_128 (v : Int) (h : 0 ≤ v) : Go.bits .or .u8 (v % 256) 128 = 128 + v % 128 := by
  obtain ⟨n, hn⟩ : ∃ n : Nat, v % 256 = (n : Int) := ⟨(v % 256).toNat, by omega⟩
  have key : ∀ m : Fin 256, Go.bits .or .u8 (m.val : Int) 128 = 128 + (m.val : Int) % 128 := by decide +kernel
  rw [hn, key ⟨n, by omega⟩]
  show 128 + (n : Int) % 128 = _
  omega
theorem pt_range (l : List Int) (hp : ∀ p ∈ l, isPt p = true) (n : Nat) (h : n < l.length) : 0 ≤ l[n] ∧ l[n] ≤ 1114111 := by
  have := (isPt_iff _).1 (hp l[n] (List.getElem_mem h))
  omega
theorem small_eq (x : List Int) : ((spec_l01Small.f (strOfNums x)).bind fun t => some t) = ((impl_short.f (strOfNums x)).bind fun t => some t) := by
  unfold spec_l01Small.f impl_short.f impl_long.f
  simp only [Option.bind_some, decide_eq_true_eq]
theorem base_eq (p : Int) (h : 0 ≤ p ∧ p ≤ 1114111) : wrap64 (wrap64 (wrap64 (Int.tdiv p 128) * 128) + 64) = p / 128 * 128 + 64 := by
  rw [Int.tdiv_eq_ediv_of_nonneg h.1, w64 (x := p / 128) (by omega) (by omega), w64 (x := p / 128 * 128) (by omega) (by omega), w64 (by omega) (by omega)]
theorem same (l : List Int) (hl : l.length ≤ 1048576) (hp : ∀ p ∈ l, isPt p = true) : ∀ k, (∀ (x : List Int) (b : Int) (n : Nat), 0 ≤ b → b ≤ 1200000 → n ≤ l.length → spec_EncodeSteps.l0 k l x b (n : Int) = impl_EncodeSteps.l0 k x b l (l.length : Int) (n : Int)) ∧
    (∀ (x : List Int) (n : Nat) (v : Int) (h : n < l.length), 0 ≤ v → v ≤ 100000000 → spec_EncodeSteps.l1 k l x (n : Int) v = impl_EncodeSteps.l1 k x l[n] v l (l.length : Int) (n : Int)) ∧
    (∀ (x : List Int) (n : Nat) (v : Int) (h : n < l.length), 0 ≤ v → v ≤ 100000000 → spec_EncodeSteps.j1 k l x (n : Int) v = impl_EncodeSteps.j1 k x l[n] v l (l.length : Int) (n : Int)) := by
  intro k
  induction k with
  | zero => exact ⟨fun _ _ _ _ _ _ => rfl, fun _ _ _ _ _ _ => rfl, fun _ _ _ _ _ _ => rfl⟩
  | succ k ih =>
    obtain ⟨i0, i1, ij⟩ := ih
    refine ⟨fun x b n hb0 hb1 hn => ?_, fun x n v h h0 h1 => ?_, fun x n v h h0 h1 => ?_⟩
    · rw [spec_EncodeSteps.l0, impl_EncodeSteps.l0]
      by_cases hlt : n < l.length
      · have r := pt_range l hp n hlt
        simp only [if_pos (show (n : Int) < (l.length : Int) by omega), if_pos (show (0 : Int) ≤ (n : Int) by omega)]
        rw [rd_nat l n hlt]
        have w1 : wrap64 (l[n] - b) = l[n] - b := w64 (by omega) (by omega)
        have w2 : wrap64 (2 * (l[n] - b)) = 2 * (l[n] - b) := w64 (by omega) (by omega)
        have w3 : wrap64 (-2 * (l[n] - b)) = -2 * (l[n] - b) := w64 (by omega) (by omega)
        have w4 : wrap64 (-(2 * (l[n] - b))) = -2 * (l[n] - b) := by rw [w64 (by omega) (by omega)]; omega
        rw [w1, w2, w3, w4]
        by_cases c : l[n] - b < 0
        · have w5 : wrap64 (-2 * (l[n] - b) - 1) = -2 * (l[n] - b) - 1 := w64 (by omega) (by omega)
          rw [if_pos c, if_pos (show 2 * (l[n] - b) < 0 by omega), w5]
          exact ij x n _ hlt (by omega) (by omega)
        · rw [if_neg c, if_neg (show ¬ 2 * (l[n] - b) < 0 by omega)]
          exact ij x n _ hlt (by omega) (by omega)
      · rw [if_neg (by omega), if_neg (by omega)]
        exact small_eq x
    · have r := pt_range l hp n h
      rw [spec_EncodeSteps.l1, impl_EncodeSteps.l1]
      by_cases c : v > 127
      · rw [if_pos c, if_pos (show v ≥ 128 by omega), or_128 v h0]
        have m : Int.tmod v 128 = v % 128 := Int.tmod_eq_emod_of_nonneg h0
        have d : wrap64 (Int.tdiv v 128) = v / 128 := by rw [Int.tdiv_eq_ediv_of_nonneg h0, w64 (by omega) (by omega)]
        have e : wrap64 (128 + v % 128) % 256 = 128 + v % 128 := by rw [w64 (by omega) (by omega)]; omega
        rw [m, d, e, i1 _ n _ h (by omega) (by omega)]
      · rw [if_neg c, if_neg (show ¬ v ≥ 128 by omega), if_pos (show (0 : Int) ≤ (n : Int) by omega), if_pos (show (n : Int) < (l.length : Int) by omega), rd_nat l n h]
        unfold spec_l03Middle.f
        rw [Option.bind_some, base_eq _ r, w64s h (by omega), i0 _ _ (n + 1) (by omega) (by omega) (by omega)]
    · rw [spec_EncodeSteps.j1, impl_EncodeSteps.j1]
      exact i1 x n v h h0 h1
theorem l1_ends (l : List Int) (hl : l.length ≤ 1048576) (hp : ∀ p ∈ l, isPt p = true) (n : Nat) (h : n < l.length) : ∀ (f : Nat) (v : Int) (x : List Int), 0 ≤ v → v < 128 ^ (f + 1) → x.length + f + 1 < 140737488355328 →
    ∃ j y, j ≤ f ∧ y.length ≤ x.length + f + 1 ∧ ∀ k, impl_EncodeSteps.l1 (k + j + 1) x l[n] v l (l.length : Int) (n : Int) = impl_EncodeSteps.l0 k y (l[n] / 128 * 128 + 64) l (l.length : Int) ((n + 1 : Nat) : Int)
  | 0, v, x, h0, h1, hx => by
    refine ⟨0, x ++ [v % 256], Nat.le_refl _, by simp, fun k => ?_⟩
    rw [impl_EncodeSteps.l1, if_neg (by omega), if_pos (by omega), base_eq _ (pt_range l hp n h), w64s h (by omega)]
  | f + 1, v, x, h0, h1, hx => by
    by_cases c : v ≥ 128
    · have h2 : v / 128 < 128 ^ (f + 1) := by rw [Int.pow_succ] at h1; omega
      obtain ⟨j, y, hj, hy, he⟩ := l1_ends l hl hp n h f (v / 128) (x ++ [Go.bits .or .u8 ((v) % 256) 128]) (by omega) h2 (by simp; omega)
      refine ⟨j + 1, y, by omega, by rw [List.length_append] at hy; simp at hy; omega, fun k => ?_⟩
      rw [show k + (j + 1) + 1 = (k + j + 1) + 1 from rfl, impl_EncodeSteps.l1, if_pos c, if_pos (by omega)]
      exact he k
    · refine ⟨0, x ++ [v % 256], by omega, by simp, fun k => ?_⟩
      rw [impl_EncodeSteps.l1, if_neg c, if_pos (by omega), base_eq _ (pt_range l hp n h), w64s h (by omega)]
theorem l0_ends (l : List Int) (hl : l.length ≤ 1048576) (hp : ∀ p ∈ l, isPt p = true) : ∀ (d n : Nat) (x : List Int) (b : Int), n + d = l.length → 0 ≤ b → b ≤ 1200000 → x.length + 5 * d + 10 < 140737488355328 → ∃ K r, ∀ k, K ≤ k → impl_EncodeSteps.l0 k x b l (l.length : Int) (n : Int) = some r := by
  intro d
  induction d with
  | zero =>
    intro n x b hn hb0 hb1 hx
    obtain ⟨r, hr⟩ : ∃ r, ((impl_short.f (strOfNums x)).bind fun t => some t) = some r := by
      unfold impl_short.f impl_long.f
      simp only [Option.bind_some, decide_eq_true_eq]
      split <;> exact ⟨_, rfl⟩
    refine ⟨1, r, fun k hk => ?_⟩
    obtain ⟨k, rfl⟩ : ∃ m, k = m + 1 := ⟨k - 1, by omega⟩
    rw [impl_EncodeSteps.l0, if_neg (by omega)]
    exact hr
  | succ d ih =>
    intro n x b hn hb0 hb1 hx
    have hlt : n < l.length := by omega
    have r := pt_range l hp n hlt
    have w1 : wrap64 (l[n] - b) = l[n] - b := w64 (by omega) (by omega)
    have w2 : wrap64 (2 * (l[n] - b)) = 2 * (l[n] - b) := w64 (by omega) (by omega)
    have w4 : wrap64 (-(2 * (l[n] - b))) = -2 * (l[n] - b) := by rw [w64 (by omega) (by omega)]; omega
    obtain ⟨v, hv0, hv1, hv⟩ : ∃ v : Int, 0 ≤ v ∧ v ≤ 100000000 ∧ ∀ k, impl_EncodeSteps.l0 (k + 2) x b l (l.length : Int) (n : Int) = impl_EncodeSteps.l1 k x l[n] v l (l.length : Int) (n : Int) := by
      by_cases c : 2 * (l[n] - b) < 0
      · have w5 : wrap64 (-2 * (l[n] - b) - 1) = -2 * (l[n] - b) - 1 := w64 (by omega) (by omega)
        refine ⟨-2 * (l[n] - b) - 1, by omega, by omega, fun k => ?_⟩
        rw [impl_EncodeSteps.l0, if_pos (by omega), if_pos (by omega), if_pos (by omega), rd_nat l n hlt, w1, w2, w4, w5, if_pos c, impl_EncodeSteps.j1]
      · refine ⟨2 * (l[n] - b), by omega, by omega, fun k => ?_⟩
        rw [impl_EncodeSteps.l0, if_pos (by omega), if_pos (by omega), if_pos (by omega), rd_nat l n hlt, w1, w2, if_neg c, impl_EncodeSteps.j1]
    obtain ⟨j, y, hj, hy, he⟩ := l1_ends l hl hp n hlt 3 v x hv0 (by omega) (by omega)
    obtain ⟨K, r', hK⟩ := ih (n + 1) y (l[n] / 128 * 128 + 64) (by omega) (by omega) (by omega) (by omega)
    refine ⟨K + j + 3, r', fun k hk => ?_⟩
    obtain ⟨m, rfl⟩ : ∃ m, k = m + j + 1 + 2 := ⟨k - j - 3, by omega⟩
    rw [hv, he]
    exact hK m (by omega)
theorem law (s : ByteArray) : ∃ k, laws_FnExactEncodeSteps.f k s = some true := by
  unfold laws_FnExactEncodeSteps.f
  by_cases c : (s.size : Int) > 1048576
  · exact ⟨0, by rw [if_pos c]⟩
  · have hs : s.size ≤ 1048576 := by omega
    have hl := pts_len s
    obtain ⟨K, r, hK⟩ := l0_ends (pts s) (by omega) (pts_pt s) (pts s).length 0 [] 64 (by omega) (by omega) (by omega) (by simp; omega)
    refine ⟨K + 1048600, ?_⟩
    rw [if_neg c]
    have e : spec_EncodeSteps.f (K + 1048600) s = impl_EncodeSteps.f (K + 1048600) s := by
      unfold spec_EncodeSteps.f impl_EncodeSteps.f impl_long.f
      rw [specPoints_eq s _ (by omega) hs, points_eq s _ (by omega) hs]
      simp only [Option.bind_some, decide_eq_true_eq]
      split
      · rfl
      · exact (same (pts s) (by omega) (pts_pt s) (K + 1048600)).1 [] 64 0 (by omega) (by omega) (by omega)
    have f : ∃ r, impl_EncodeSteps.f (K + 1048600) s = some r := by
      unfold impl_EncodeSteps.f impl_long.f
      rw [points_eq s _ (by omega) hs]
      simp only [Option.bind_some, decide_eq_true_eq]
      split
      · exact ⟨_, rfl⟩
      · exact ⟨r, hK _ (by omega)⟩
    obtain ⟨r', hr⟩ := f
    rw [e, hr]
    simp only [Option.bind_some, if_true]
theorem FnExactEncodeSteps : laws_FnExactEncodeSteps.Pure := fun s _ => law s

end Go.Proofs.YtdagmhbockeleaaDoor.Pure

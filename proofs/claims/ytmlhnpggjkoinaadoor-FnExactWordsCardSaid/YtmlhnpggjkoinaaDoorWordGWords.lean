/- A row of tailors as the laws hand it over, and WordCuts in both texts. -/
import Derived.Test.YtmlhnpggjkoinaaDoorWordEWords
set_option linter.unusedSimpArgs false
set_option linter.unusedVariables false
namespace Go.Proofs.YtmlhnpggjkoinaaDoor.PFnExactWords
open Go.RowKit Go.Proofs.YtmlhnpggjkoinaaDoorW.PrintWords Go.Proofs.YtmlhnpggjkoinaaDoorW.PrintLast Go.Proofs.YtmlhnpggjkoinaaDoorW.PrintMore Go.Proofs.YtmlhnpggjkoinaaDoor.Lib

def asTail (x : S56) : S54 := ⟨x.f0, x.f1, x.f2⟩
theorem rdL_nat (xs : List S56) (n : Nat) (h : n < xs.length) : rd_T56 xs (n : Int) = xs[n] := by
  simp [rd_T56, List.getD_eq_getElem?_getD, List.getElem?_eq_getElem h]
theorem toTailorS_eq (l : List S56) (k : Nat) (hk : l.length + 1 ≤ k) (hl : l.length ≤ 1048576) : laws_toTailorS.f k l = some (l.map asTail) := by
  unfold laws_toTailorS.f
  rw [if_pos (by omega), if_pos (by simp; omega), Int.toNat_natCast, ← laidRow_zero asTail z54 l]
  refine forLoop (fun k x i => laws_toTailorS.l0 k l x i) l.length (laidRow asTail z54 l) _ (fun k i hi => ?_) (fun k => ?_) k (by omega)
  · simp only [laws_toTailorS.l0]
    rw [if_pos (by omega), if_pos (by omega), rdL_nat l i hi, w64s hi (by omega)]
    simp only [laws_toTailor.f, Option.bind_some]
    rw [if_pos (by rw [laidRow_length _ _ _ _ (by omega)]; omega), Int.toNat_natCast]
    exact congrArg (fun y => laws_toTailorS.l0 k l y ((i + 1 : Nat) : Int)) (laidRow_set asTail z54 l i hi)
  · simp only [laws_toTailorS.l0]
    rw [if_neg (by omega), laidRow_all]
theorem eqTailorS_eq (l : List S54) (k : Nat) (hk : l.length + 1 ≤ k) (hl : l.length ≤ 1048576) : laws_eqTailorS.f k l l = some true := by
  unfold laws_eqTailorS.f
  rw [if_pos rfl]
  refine forLoop (fun k (_ : Unit) i => laws_eqTailorS.l0 k l l i) l.length (fun _ => ()) _ (fun k i hi => ?_) (fun k => ?_) k (by omega)
  · simp only [laws_eqTailorS.l0]
    rw [if_pos (by omega), if_pos (by omega), if_pos (by omega), w64s hi (by omega)]
    simp [laws_eqTailor.f]
  · simp only [laws_eqTailorS.l0]
    rw [if_neg (by omega)]
theorem szTailorS_eq (l : List S56) (h : l.length ≤ maxLen) : laws_szTailorS.f l 1048576 = some (if (l.length : Int) > 1048576 then -1 else 1048576 - (l.length : Int)) := by
  unfold laws_szTailorS.f
  unfold maxLen at h
  rw [w64 (by omega) (by omega)]
  by_cases c : (l.length : Int) > 1048576
  · rw [if_pos c, if_pos (by omega)]
  · rw [if_neg c, if_neg (by omega)]
theorem markTailorS_l0 : ∀ (d n k : Nat) (x : List S54) (a : Int), n + d = x.length → x.length ≤ 1048576 → d < k → 0 ≤ a → a ≤ 3 * (n : Int) + 1 → ∃ y, laws_markTailorS.l0 k x a (n : Int) = some (a + 3 * (d : Int), y) := by
  intro d
  induction d with
  | zero =>
    intro n k x a hn hl hk h0 h1
    obtain ⟨k, rfl⟩ : ∃ m, k = m + 1 := ⟨k - 1, by omega⟩
    refine ⟨x, ?_⟩
    rw [laws_markTailorS.l0, if_neg (by omega)]
    simp
  | succ d ih =>
    intro n k x a hn hl hk h0 h1
    obtain ⟨k, rfl⟩ : ∃ m, k = m + 1 := ⟨k - 1, by omega⟩
    have e1 : wrap64 (a + 1) = a + 1 := w64 (by omega) (by omega)
    have e2 : wrap64 (a + 1 + 1) = a + 1 + 1 := w64 (by omega) (by omega)
    have e3 : wrap64 (a + 1 + 1 + 1) = a + 1 + 1 + 1 := w64 (by omega) (by omega)
    rw [laws_markTailorS.l0, if_pos (by omega), if_pos (by omega), w64s (m := x.length) (by omega) (by omega)]
    simp only [Option.bind_some, e1, e2, e3]
    have key : ∀ z : List S54, z.length = x.length → ∃ y, laws_markTailorS.l0 k z (a + 1 + 1 + 1) ((n + 1 : Nat) : Int) = some (a + 3 * ((d + 1 : Nat) : Int), y) := by
      intro z hz
      obtain ⟨y, hy⟩ := ih (n + 1) k z (a + 1 + 1 + 1) (by omega) (by omega) (by omega) (by omega) (by omega)
      exact ⟨y, hy.trans (by rw [show a + 1 + 1 + 1 + 3 * (d : Int) = a + 3 * ((d + 1 : Nat) : Int) by omega])⟩
    exact key _ (by simp only [List.length_set])
theorem markTailorS_eq (x : List S54) (k : Nat) (hl : x.length ≤ 1048576) (hk : x.length < k) : ∃ y, laws_markTailorS.f k x 1 = some (1 + 3 * (x.length : Int), y) :=
  markTailorS_l0 x.length 0 k x 1 (by omega) hl hk (by omega) (by omega)
def wordsOf (s : ByteArray) (T : List S54) : List Int := if (s.size : Int) > 65536 ∨ (T.length : Int) > 1000 then [] else wordP s T
theorem wordsOf_len (s : ByteArray) (T : List S54) (hs : s.size ≤ 1048576) : (wordsOf s T).length ≤ 1048578 := by
  unfold wordsOf
  split
  · simp
  · exact wordP_len s T hs
theorem specWC_eq (s : ByteArray) (T : List S54) (k : Nat) (hk : 5000000 ≤ k) : spec_WordCuts.f k s T = some (wordsOf s T) := by
  unfold spec_WordCuts.f wordsOf
  by_cases a : (s.size : Int) > 65536
  · rw [if_pos a, if_pos (.inl a)]
  · rw [if_neg a]
    by_cases b : (T.length : Int) > 1000
    · rw [if_pos b, if_pos (.inr b)]
    · rw [if_neg b, if_neg (by omega), specW_eq s (by omega) T (by omega) k (by omega)]
      rfl
theorem implWC_eq (s : ByteArray) (T : List S54) (k : Nat) (hk : 5000000 ≤ k) : impl_WordCuts.f k s T = some (wordsOf s T) := by
  obtain ⟨k, rfl⟩ : ∃ m, k = m + 1 := ⟨k - 1, by omega⟩
  unfold impl_WordCuts.f impl_long.f wordsOf
  simp only [Option.bind_some, decide_eq_true_eq]
  by_cases a : (s.size : Int) > 65536
  · rw [if_pos a, if_pos (.inl a), impl_WordCuts.j0, if_pos rfl]
  · rw [if_neg a]
    by_cases b : (T.length : Int) > 1000
    · rw [decide_eq_true b, if_pos (.inr b), impl_WordCuts.j0, if_pos rfl]
    · have h := implP_eq s (by omega) T (by omega) k (by omega)
      rw [decide_eq_false b, if_neg (by omega), impl_WordCuts.j0, if_neg (by decide), read_eq s k (by omega) (by omega), Option.bind_some, only_eq s k (by omega) (by omega), Option.bind_some]
      rw [implW_eq T (by omega) (pts s) (by have := pts_len s; omega) (pts_ok s) k (by omega), Option.bind_some] at h ⊢
      rw [h]
      rfl
end Go.Proofs.YtmlhnpggjkoinaaDoor.PFnExactWords

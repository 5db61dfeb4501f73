/- NormerFault of both texts: the same number. -/
import Derived.Test.YtnbedmihgnjdpaaDoorSafeNormerFault
import Derived.Test.YtnbedmihgnjdpaaDoorPointsNormerFault
import Derived.Test.YtnbedmihgnjdpaaDoorValid
set_option linter.unusedSimpArgs false
set_option linter.unusedVariables false
namespace Go.Proofs.YtnbedmihgnjdpaaDoor.PFnExactNormerFault
open Go.RowKit Go.Proofs.YtnbedmihgnjdpaaDoorW.PrintWords Go.Proofs.YtnbedmihgnjdpaaDoorW.PrintLast Go.Proofs.YtnbedmihgnjdpaaDoorW.PrintMore Go.Proofs.YtnbedmihgnjdpaaDoor.Lib

theorem isNorm_eq (f : Int) : impl_isNorm.f f = some (decide (1 ≤ f ∧ f ≤ 4)) := by
  unfold impl_isNorm.f
  rw [dinF]; rfl
theorem isForm_eq (f : Int) : spec_l05IsForm.f f = some (decide (1 ≤ f ∧ f ≤ 4)) := by
  unfold spec_l05IsForm.f
  by_cases a : f ≥ 1
  · rw [if_pos a]; congr 1; exact decide_eq_decide.2 (by omega)
  · rw [if_neg a, decide_eq_false (show ¬ (1 ≤ f ∧ f ≤ 4) by omega)]
def anySafe (l : List Int) (n : Nat) (f : Int) : Int := if (l.drop n).any (fun p => sf p f) = true then 1 else 0
theorem anySafe_end (l : List Int) (n : Nat) (f : Int) (h : l.length ≤ n) : anySafe l n f = 0 := by
  unfold anySafe
  rw [List.drop_eq_nil_of_le h]; rfl
theorem anySafe_step (l : List Int) (n : Nat) (f : Int) (h : n < l.length) : anySafe l n f = if sf l[n] f = true then 1 else anySafe l (n + 1) f := by
  unfold anySafe
  rw [List.drop_eq_getElem_cons h, List.any_cons]
  by_cases c : sf l[n] f = true
  · rw [if_pos (by rw [c]; rfl), if_pos c]
  · rw [if_neg c, Bool.eq_false_iff.mpr c, Bool.false_or]
theorem nf_impl_l0 (l : List Int) (f : Int) (s : ByteArray) (hl : l.length ≤ 1048576) (hp : ∀ p ∈ l, isPt p = true) : ∀ (d n k : Nat), n + d = l.length → 1 ≤ n → d + 13 < k → impl_NormerFault.l0 k l (l.length : Int) (n : Int) f s = some (anySafe l n f) := by
  intro d
  induction d with
  | zero =>
    intro n k hn h1 hk
    obtain ⟨k, rfl⟩ : ∃ m, k = m + 1 := ⟨k - 1, by omega⟩
    rw [impl_NormerFault.l0, if_neg (by omega), anySafe_end l n f (by omega)]
  | succ d ih =>
    intro n k hn h1 hk
    obtain ⟨k, rfl⟩ : ∃ m, k = m + 13 + 1 := ⟨k - 14, by omega⟩
    have hlt : n < l.length := by omega
    have hb := (isPt_iff _).1 (hp l[n] (List.getElem_mem hlt))
    rw [impl_NormerFault.l0, if_pos (by omega), if_pos (by omega), if_pos (by omega), if_pos (by omega), rd_nat l n hlt, safe_impl _ _ (by omega), Option.bind_some, anySafe_step l n f hlt, w64s hlt (by omega)]
    by_cases c : sf l[n] f = true
    · rw [if_pos c, if_pos c]
    · rw [if_neg c, if_neg c]
      exact ih (n + 1) (k + 13) (by omega) (by omega) (by omega)
theorem nf_spec_l0 (l : List Int) (f : Int) (s : ByteArray) (hl : l.length ≤ 1048576) (hp : ∀ p ∈ l, isPt p = true) : ∀ (d n k : Nat), n + d = l.length → d + 17 < k → spec_NormerFault.l0 k l (n : Int) f s = some (anySafe l n f) := by
  intro d
  induction d with
  | zero =>
    intro n k hn hk
    obtain ⟨k, rfl⟩ : ∃ m, k = m + 1 := ⟨k - 1, by omega⟩
    rw [spec_NormerFault.l0, if_neg (by omega), anySafe_end l n f (by omega)]
  | succ d ih =>
    intro n k hn hk
    obtain ⟨k, rfl⟩ : ∃ m, k = m + 17 + 1 := ⟨k - 18, by omega⟩
    have hlt : n < l.length := by omega
    have hb := (isPt_iff _).1 (hp l[n] (List.getElem_mem hlt))
    rw [spec_NormerFault.l0, if_pos (by omega), if_pos (by omega), rd_nat l n hlt, safe_spec _ _ (by omega), Option.bind_some, anySafe_step l n f hlt, w64s hlt (by omega)]
    by_cases c : sf l[n] f = true
    · rw [if_pos c, if_pos c]
    · rw [if_neg c, if_neg c]
      exact ih (n + 1) (k + 17) (by omega) (by omega)
/-- What both say of a normer. -/
def nfault (f : Int) (s : ByteArray) : Int := if (1 ≤ f ∧ f ≤ 4) ∧ s.size ≤ 1000 ∧ Go.Lib.validD s.data.toList = true then anySafe (pts s) 1 f else 1
theorem impl_nf (f : Int) (s : ByteArray) (hs : s.size ≤ 1048576) (k : Nat) (hk : s.size + 40 ≤ k) : impl_NormerFault.f k f s = some (nfault f s) := by
  obtain ⟨k, rfl⟩ : ∃ m, k = m + 1 := ⟨k - 1, by omega⟩
  unfold impl_NormerFault.f nfault
  rw [isNorm_eq, Option.bind_some]
  by_cases a : 1 ≤ f ∧ f ≤ 4
  · rw [ite_t (decide_eq_true a)]
    by_cases b : s.size ≤ 1000
    · rw [if_neg (by omega)]
      unfold impl_well.f utf8_ValidString.f
      rw [if_pos (by omega), Option.bind_some, Option.bind_some, impl_NormerFault.j0]
      by_cases v : Go.Lib.validD s.data.toList = true
      · rw [ite_f (by rw [v]; rfl), if_pos ⟨a, b, v⟩, points_eq s k (by omega) hs, Option.bind_some]
        have hl := pts_len s
        have hp := pts_pt s
        generalize pts s = l at hl hp
        obtain ⟨k, rfl⟩ : ∃ m, k = m + 1 := ⟨k - 1, by omega⟩
        by_cases e : l.length = 0
        · rw [impl_NormerFault.l0, if_neg (by omega), anySafe_end l 1 f (by omega)]
        · rw [impl_NormerFault.l0, if_pos (by omega), if_pos (by omega), if_pos (by omega), if_neg (by omega), show wrap64 (0 + 1) = ((1 : Nat) : Int) from w64 (by omega) (by omega)]
          exact nf_impl_l0 l f s (by omega) hp (l.length - 1) 1 k (by omega) (by omega) (by omega)
      · rw [ite_t (by rw [Bool.eq_false_iff.mpr v]; rfl), if_neg (fun h => v h.2.2)]
    · rw [if_pos (by omega), impl_NormerFault.j0, ite_t rfl, if_neg (fun h => b h.2.1)]
  · rw [ite_f (decide_eq_false a), impl_NormerFault.j0, ite_t rfl, if_neg (fun h => a h.1)]
theorem wellWritten_eq (s : ByteArray) (hs : s.size ≤ 1048576) (k : Nat) (hk : s.size + 40 ≤ k) : spec_l05WellWritten.f k s = some (Go.Lib.validD s.data.toList) := by
  unfold spec_l05WellWritten.f
  have hl := pts_len s
  rw [specPoints_eq s k (by omega) hs, Option.bind_some, specText_eq _ k (by omega) (by omega), Option.bind_some]
  congr 1
  by_cases v : Go.Lib.validD s.data.toList = true
  · rw [v]; exact beq_iff_eq.2 ((text_valid s).2 v)
  · rw [Bool.eq_false_iff.mpr v]; exact beq_eq_false_iff_ne.2 (fun h => v ((text_valid s).1 h))
theorem spec_nf (f : Int) (s : ByteArray) (hs : s.size ≤ 1048576) (k : Nat) (hk : s.size + 60 ≤ k) : spec_NormerFault.f k f s = some (nfault f s) := by
  obtain ⟨k, rfl⟩ : ∃ m, k = m + 1 := ⟨k - 1, by omega⟩
  unfold spec_NormerFault.f nfault
  rw [isForm_eq, Option.bind_some]
  by_cases a : 1 ≤ f ∧ f ≤ 4
  · rw [ite_t (decide_eq_true a)]
    by_cases b : s.size ≤ 1000
    · rw [if_neg (by omega), wellWritten_eq s hs _ (by omega), Option.bind_some, spec_NormerFault.j0]
      by_cases v : Go.Lib.validD s.data.toList = true
      · rw [ite_f (by rw [v]; rfl), if_pos ⟨a, b, v⟩, specPoints_eq s k (by omega) hs, Option.bind_some]
        have hl := pts_len s
        have hp := pts_pt s
        generalize pts s = l at hl hp
        by_cases e : l.length = 0
        · obtain ⟨k, rfl⟩ : ∃ m, k = m + 1 := ⟨k - 1, by omega⟩
          rw [spec_NormerFault.l0, if_neg (by omega), anySafe_end l 1 f (by omega)]
        · exact nf_spec_l0 l f s (by omega) hp (l.length - 1) 1 k (by omega) (by omega)
      · rw [ite_t (by rw [Bool.eq_false_iff.mpr v]; rfl), if_neg (fun h => v h.2.2)]
    · rw [if_pos (by omega), spec_NormerFault.j0, ite_t rfl, if_neg (fun h => b h.2.1)]
  · rw [ite_f (decide_eq_false a), spec_NormerFault.j0, ite_t rfl, if_neg (fun h => a h.1)]

end Go.Proofs.YtnbedmihgnjdpaaDoor.PFnExactNormerFault

/- The program's SpansFault returns what the reference's returns. For every input: the law answers true; each argument reads afterwards as it read before. -/
import Derived.Test.YtpibhoaegbeonaaPFnExactSpansFaultx
import Derived.Test.YtpibhoaegbeonaaLib
import Derived.Test.YtpibhoaegbeonaaSpanSSpansFault
namespace Go.Proofs.Ytpibhoaegbeonaa.Pure
open Go.RowKit Go.Proofs.Ytpibhoaegbeonaa.PFnExactSpansFault Go.Proofs.YtpibhoaegbeonaaW.PrintWords Go.Proofs.YtpibhoaegbeonaaW.PrintLast Go.Proofs.Ytpibhoaegbeonaa.Lib

theorem same (l : List S54) : ∀ (k : Nat) (n : Int), spec_SpansFault.l0 k l n = impl_SpansFault.l0 k l l (l.length : Int) n
  | 0, _ => rfl
  | k + 1, n => by
    simp only [spec_SpansFault.l0, impl_SpansFault.l0, same l k]
    generalize (rd_T54 l n).f0 = a
    generalize (rd_T54 l n).f1 = b
    generalize (rd_T54 l (wrap64 (n - 1))).f1 = c
    repeat' split
    all_goals first | rfl | omega
theorem ends (l : List S54) (hl : l.length ≤ 1048576) : ∀ (d n k : Nat), n + d = l.length → d < k → ∃ r, spec_SpansFault.l0 k l (n : Int) = some r := by
  intro d
  induction d with
  | zero =>
    intro n k hn hk
    obtain ⟨k, rfl⟩ : ∃ m, k = m + 1 := ⟨k - 1, by omega⟩
    simp only [spec_SpansFault.l0]
    rw [if_neg (by omega)]
    exact ⟨_, rfl⟩
  | succ d ih =>
    intro n k hn hk
    obtain ⟨k, rfl⟩ : ∃ m, k = m + 1 := ⟨k - 1, by omega⟩
    obtain ⟨r, hr⟩ := ih (n + 1) k (by omega) (by omega)
    have hlt : n < l.length := by omega
    simp only [spec_SpansFault.l0, w64s hlt (by omega), hr]
    rw [if_pos (by omega), if_pos (by omega)]
    have hw : wrap64 ((n : Int) - 1) = (n : Int) - 1 := w64 (by omega) (by omega)
    rw [hw]
    repeat' split
    all_goals first | exact ⟨_, rfl⟩ | (exfalso; omega)
theorem FnExactSpansFault : laws_FnExactSpansFault.Pure := by
  intro l ⟨hm, _⟩
  refine ⟨l.length + 1, ?_⟩
  unfold laws_FnExactSpansFault.f
  rw [szSpanS_eq l hm]
  simp only [Option.bind_some]
  by_cases c : (l.length : Int) > 1048576
  · rw [if_pos c]; rfl
  · rw [if_neg c, if_neg (by omega), toSpanS_eq l _ (by omega) (by omega)]
    simp only [Option.bind_some]
    have hlen : (l.map asSpan).length = l.length := by simp
    obtain ⟨r, hr⟩ : ∃ r, spec_SpansFault.f (l.length + 1) (l.map asSpan) = some r := by
      unfold spec_SpansFault.f
      split
      · exact ⟨_, rfl⟩
      · exact ends _ (by rw [hlen]; omega) (l.map asSpan).length 0 _ (by omega) (by rw [hlen]; omega)
    have hi : impl_SpansFault.f (l.length + 1) (l.map asSpan) = some r := by
      rw [← hr]
      unfold spec_SpansFault.f impl_SpansFault.f
      split
      · rfl
      · rw [same]
    rw [hr, hi]
    simp only [Option.bind_some]
    rw [if_pos trivial, eqSpanS_eq _ _ (by rw [hlen]; omega) (by rw [hlen]; omega)]
    simp

end Go.Proofs.Ytpibhoaegbeonaa.Pure

/- The program's SetHas returns what the reference's returns. For every input: the law answers true; each argument reads afterwards as it read before. -/
import Derived.Test.YtogdmjcdfjnifaaPFnExactSetHasx
import Derived.Test.YtogdmjcdfjnifaaLib
import Derived.Test.YtogdmjcdfjnifaaSpanSSetHas
set_option linter.unusedSimpArgs false
set_option linter.unusedVariables false
namespace Go.Proofs.Ytogdmjcdfjnifaa.Pure
open Go.RowKit Go.Proofs.Ytogdmjcdfjnifaa.PFnExactSetHas Go.Proofs.YtogdmjcdfjnifaaW.PrintWords Go.Proofs.YtogdmjcdfjnifaaW.PrintLast Go.Proofs.YtogdmjcdfjnifaaW.PrintMore Go.Proofs.Ytogdmjcdfjnifaa.Lib

abbrev Sp := S57
abbrev el (l : List Sp) (x : Nat) : Sp := rd_T57 l (x : Int)
theorem spans_same (l : List Sp) : ∀ (k : Nat) (n : Int), spec_SpansFault.l0 k l n = impl_SpansFault.l0 k l l (l.length : Int) n
  | 0, _ => rfl
  | k + 1, n => by
    simp only [spec_SpansFault.l0, impl_SpansFault.l0, spans_same l k]
    generalize (rd_T57 l n).f0 = a
    generalize (rd_T57 l n).f1 = b
    generalize (rd_T57 l (wrap64 (n - 1))).f1 = c
    repeat' split
    all_goals first | rfl | omega
theorem spansF_same (l : List Sp) (k : Nat) : spec_SpansFault.f k l = impl_SpansFault.f k l := by
  unfold spec_SpansFault.f impl_SpansFault.f
  rw [spans_same]
theorem spans_ends (l : List Sp) (hl : l.length ≤ 1048576) : ∀ (d n k : Nat), n + d = l.length → d < k → ∃ r, spec_SpansFault.l0 k l (n : Int) = some r ∧ (r = 0 → ∀ i, n ≤ i → i < l.length → (el l i).f0 ≤ (el l i).f1 ∧ (0 < i → (el l (i - 1)).f1 < (el l i).f0)) := by
  intro d
  induction d with
  | zero =>
    intro n k hn hk
    obtain ⟨k, rfl⟩ : ∃ m, k = m + 1 := ⟨k - 1, by omega⟩
    simp only [spec_SpansFault.l0]
    rw [if_neg (by omega)]
    exact ⟨_, rfl, fun _ i h1 h2 => by omega⟩
  | succ d ih =>
    intro n k hn hk
    obtain ⟨k, rfl⟩ : ∃ m, k = m + 1 := ⟨k - 1, by omega⟩
    obtain ⟨r, hr, hg⟩ := ih (n + 1) k (by omega) (by omega)
    have hlt : n < l.length := by omega
    simp only [spec_SpansFault.l0, w64s hlt (by omega), hr]
    rw [if_pos (by omega), if_pos (by omega)]
    have hw : wrap64 ((n : Int) - 1) = (n : Int) - 1 := w64 (by omega) (by omega)
    rw [hw]
    have step : ((el l n).f0 ≤ (el l n).f1 ∧ (0 < n → (el l (n - 1)).f1 < (el l n).f0)) → r = 0 → ∀ i, n ≤ i → i < l.length → (el l i).f0 ≤ (el l i).f1 ∧ (0 < i → (el l (i - 1)).f1 < (el l i).f0) := by
      intro h0 hr0 i h1 h2
      by_cases e : i = n
      · subst e; exact h0
      · exact hg hr0 i (by omega) h2
    by_cases a1 : (rd_T57 l (n : Int)).f0 < 0
    · rw [if_pos a1]; exact ⟨_, rfl, fun h => absurd h (by decide)⟩
    rw [if_neg a1]
    by_cases a2 : (rd_T57 l (n : Int)).f1 > 32767
    · rw [if_pos a2]; exact ⟨_, rfl, fun h => absurd h (by decide)⟩
    rw [if_neg a2]
    by_cases a3 : (rd_T57 l (n : Int)).f0 > (rd_T57 l (n : Int)).f1
    · rw [if_pos a3]; exact ⟨_, rfl, fun h => absurd h (by decide)⟩
    rw [if_neg a3]
    by_cases a4 : (n : Int) > 0
    · rw [if_pos a4, if_pos (by omega), if_pos (by omega)]
      have e1 : (n : Int) - 1 = ((n - 1 : Nat) : Int) := by omega
      rw [e1]
      by_cases a5 : (rd_T57 l ((n - 1 : Nat) : Int)).f1 ≥ (rd_T57 l (n : Int)).f0
      · rw [if_pos a5]; exact ⟨_, rfl, fun h => absurd h (by decide)⟩
      · rw [if_neg a5]
        exact ⟨r, rfl, step ⟨Int.not_lt.1 a3, fun _ => Int.not_le.1 a5⟩⟩
    · rw [if_neg a4]
      exact ⟨r, rfl, step ⟨Int.not_lt.1 a3, fun h => by omega⟩⟩
/-- A set's spans, as both texts find them right. -/
def Good (l : List Sp) : Prop := ∀ i, i < l.length → (el l i).f0 ≤ (el l i).f1 ∧ (0 < i → (el l (i - 1)).f1 < (el l i).f0)
def Has (l : List Sp) (p : Int) : Prop := ∃ j, j < l.length ∧ (el l j).f0 ≤ p ∧ p ≤ (el l j).f1
theorem good_rise {l : List Sp} (h : Good l) : ∀ (d i : Nat), i + d < l.length → (el l i).f0 ≤ (el l (i + d)).f0
  | 0, i, _ => Int.le_refl _
  | d + 1, i, hd => by
    have h1 := good_rise h d i (by omega)
    have h2 := h (i + d) (by omega)
    have h3 := (h (i + d + 1) hd).2 (by omega)
    have e : i + d + 1 - 1 = i + d := by omega
    rw [e] at h3
    show (el l i).f0 ≤ (el l (i + d + 1)).f0
    omega
theorem has_spec (l : List Sp) (p : Int) (hl : l.length ≤ 1048576) : ∀ (d i k : Nat), i + d = l.length → d < k → ∃ b, spec_l04Has.l0 k l p (i : Int) = some b ∧ (b = true ↔ ∃ j, i ≤ j ∧ j < l.length ∧ (el l j).f0 ≤ p ∧ p ≤ (el l j).f1) := by
  intro d
  induction d with
  | zero =>
    intro i k hn hk
    obtain ⟨k, rfl⟩ : ∃ m, k = m + 1 := ⟨k - 1, by omega⟩
    rw [spec_l04Has.l0, if_neg (by omega)]
    exact ⟨false, rfl, by simp; intro j h1 h2; omega⟩
  | succ d ih =>
    intro i k hn hk
    obtain ⟨k, rfl⟩ : ∃ m, k = m + 1 := ⟨k - 1, by omega⟩
    have hi : i < l.length := by omega
    obtain ⟨b, hb, hiff⟩ := ih (i + 1) k (by omega) (by omega)
    rw [spec_l04Has.l0, if_pos (by omega), if_pos (by omega), w64s hi (by omega), hb]
    by_cases c : (el l i).f0 ≤ p ∧ p ≤ (el l i).f1
    · rw [if_pos (show p ≥ (rd_T57 l (i : Int)).f0 from c.1), if_pos c.2]
      exact ⟨true, rfl, by simp only [true_iff]; exact ⟨i, Nat.le_refl _, hi, c⟩⟩
    · have e : (if p ≥ (rd_T57 l (i : Int)).f0 then (if p ≤ (rd_T57 l (i : Int)).f1 then some true else some b) else some b) = some b := by
        by_cases c1 : p ≥ (rd_T57 l (i : Int)).f0
        · rw [if_pos c1, if_neg (fun h => c ⟨c1, h⟩)]
        · rw [if_neg c1]
      refine ⟨b, e, hiff.trans ⟨fun ⟨j, h1, h2⟩ => ⟨j, by omega, h2⟩, fun ⟨j, h1, h2, h3⟩ => ?_⟩⟩
      by_cases ej : j = i
      · subst ej; exact absurd h3 c
      · exact ⟨j, by omega, h2, h3⟩
theorem mid (i j : Nat) (hj : j ≤ 1048576) (hi : i < j) : wrap64 ((IntKind.u64.wrap (wrap64 ((i : Int) + (j : Int)))) / 2) = (((i + j) / 2 : Nat) : Int) := by
  have e : IntKind.u64.wrap (wrap64 ((i : Int) + (j : Int))) = (i : Int) + (j : Int) := by
    rw [w64 (by omega) (by omega), IntKind.wrap_u64]
    omega
  rw [e, w64 (by omega) (by omega)]
  omega
theorem has_impl (l : List Sp) (p : Int) (hl : l.length ≤ 1048576) (hg : Good l) : ∀ (d i j k : Nat), j ≤ i + d → i ≤ j → j ≤ l.length → d + 1 < k → (∀ x, x < i → (el l x).f1 < p) → (∀ x, j ≤ x → x < l.length → ¬ (el l x).f1 < p) →
    ∃ q b, impl_Span_int64.l0 k l p (l.length : Int) (i : Int) (j : Int) = some (q, b) ∧ (b = true ↔ Has l p) := by
  intro d
  induction d with
  | zero =>
    intro i j k hd hij hj hk hlo hhi
    obtain ⟨k, rfl⟩ : ∃ m, k = m + 1 := ⟨k - 1, by omega⟩
    obtain rfl : i = j := by omega
    rw [impl_Span_int64.l0, if_neg (by omega)]
    by_cases c : i < l.length
    · have hL := hhi i (Nat.le_refl _) c
      rw [if_pos (by omega), if_pos (by omega), if_pos (by omega)]
      unfold impl_has_1.f
      rw [if_neg hL]
      by_cases c2 : (el l i).f0 > p
      · rw [if_pos c2, Option.bind_some]
        refine ⟨_, _, rfl, ?_⟩
        have : ¬ Has l p := by
          rintro ⟨x, hx, h1, h2⟩
          by_cases hxi : x < i
          · have := hlo x hxi; omega
          · have hr := good_rise hg (x - i) i (by omega)
            rw [show i + (x - i) = x by omega] at hr
            omega
        simp [this]
      · rw [if_neg c2, Option.bind_some]
        refine ⟨_, _, rfl, ?_⟩
        have : Has l p := ⟨i, c, by omega, by omega⟩
        simp [this]
    · rw [if_neg (by omega)]
      refine ⟨_, _, rfl, ?_⟩
      have : ¬ Has l p := by
        rintro ⟨x, hx, h1, h2⟩
        have := hlo x (by omega); omega
      simp [this]
  | succ d ih =>
    intro i j k hd hij hj hk hlo hhi
    by_cases c : i < j
    · obtain ⟨k, rfl⟩ : ∃ m, k = m + 1 := ⟨k - 1, by omega⟩
      have hm := mid i j (by omega) c
      have hm1 : i ≤ (i + j) / 2 := by omega
      have hm2 : (i + j) / 2 < j := by omega
      rw [impl_Span_int64.l0, hm, if_pos (by omega), if_pos (by omega), if_pos (by omega), w64s (n := (i + j) / 2) (m := l.length) (by omega) (by omega)]
      have hmono : ∀ (e x : Nat), x + e < l.length → (el l x).f1 ≤ (el l (x + e)).f1 := by
        intro e x he
        cases e with
        | zero => exact Int.le_refl _
        | succ e =>
          have h1 := (hg x (by omega)).1
          have hr := good_rise hg e (x + 1) (by omega)
          have h2 := (hg (x + 1) (by omega)).2 (by omega)
          have h3 := (hg (x + (e + 1)) he).1
          rw [show x + 1 + e = x + (e + 1) by omega] at hr
          rw [show x + 1 - 1 = x by omega] at h2
          omega
      generalize hM : (i + j) / 2 = m at hm1 hm2
      unfold impl_has_1.f
      by_cases a : (el l m).f1 < p
      · rw [if_pos a, Option.bind_some, if_pos (by decide)]
        refine ih (m + 1) j k (by omega) (by omega) hj (by omega) (fun x hx => ?_) hhi
        have := hmono (m - x) x (by omega)
        rw [show x + (m - x) = m by omega] at this
        omega
      · rw [if_neg a]
        have hb : ∃ t : Int, (if (rd_T57 l (m : Int)).f0 > p then some 1 else some 0) = some t ∧ ¬ t < 0 := by
          by_cases c3 : (rd_T57 l (m : Int)).f0 > p
          · exact ⟨1, if_pos c3, by decide⟩
          · exact ⟨0, if_neg c3, by decide⟩
        obtain ⟨t, ht, hn⟩ := hb
        rw [ht, Option.bind_some, if_neg hn]
        refine ih i m k (by omega) (by omega) (by omega) (by omega) hlo (fun x h1 h2 => ?_)
        have := hmono (x - m) m (by omega)
        rw [show m + (x - m) = x by omega] at this
        omega
    · obtain rfl : i = j := by omega
      obtain ⟨k, rfl⟩ : ∃ m, k = m + 1 := ⟨k - 1, by omega⟩
      exact ih i i (k + 1) (by omega) (Nat.le_refl _) hj (by omega) hlo hhi
theorem FnExactSetHas : laws_FnExactSetHas.Pure := by
  intro l p hl hp
  refine ⟨1100000, ?_⟩
  unfold laws_FnExactSetHas.f
  rw [szSpanS_eq l hl.1]
  simp only [Option.bind_some]
  by_cases c : (l.length : Int) > 1048576
  · rw [if_pos c, if_pos (by decide)]
  · rw [if_neg c, if_neg (by omega), toSpanS_eq l 1100000 (by omega) (by omega)]
    simp only [Option.bind_some]
    have hX : (l.map asSpan).length ≤ 1048576 := by rw [List.length_map]; omega
    generalize l.map asSpan = X at hX
    have key : ∃ b, spec_SetHas.f 1100000 X p = some b ∧ impl_SetHas.f 1100000 X p = some b := by
      unfold spec_SetHas.f impl_SetHas.f
      rw [← spansF_same]
      have hf : ∃ r, spec_SpansFault.f 1100000 X = some r ∧ (r = 0 → Good X) := by
        unfold spec_SpansFault.f
        by_cases g : (X.length : Int) > 1000
        · rw [if_pos g]; exact ⟨1, rfl, fun h => absurd h (by decide)⟩
        · rw [if_neg g]
          obtain ⟨r, hr, h2⟩ := spans_ends X hX X.length 0 1100000 (by omega) (by omega)
          exact ⟨r, hr, fun h i hi => h2 h i (by omega) hi⟩
      obtain ⟨r, hr, hgood⟩ := hf
      rw [hr]
      simp only [Option.bind_some]
      by_cases g : r = 0
      · rw [if_pos g, if_pos g]
        unfold spec_l04Has.f impl_has.f impl_Span_int64.f
        obtain ⟨b1, h1, i1⟩ := has_spec X p hX X.length 0 1100000 (by omega) (by omega)
        obtain ⟨q, b2, h2, i2⟩ := has_impl X p hX (hgood g) X.length 0 X.length 1100000 (by omega) (by omega) (by omega) (by omega) (fun x hx => by omega) (fun x h1 h2 => by omega)
        have e : b1 = b2 := by
          rw [Bool.eq_iff_iff, i1, i2]
          exact ⟨fun ⟨j, _, h⟩ => ⟨j, h⟩, fun ⟨j, h⟩ => ⟨j, by omega, h⟩⟩
        refine ⟨b1, ?_, ?_⟩
        · have h1' : spec_l04Has.l0 1100000 X p 0 = some b1 := h1
          rw [h1']; rfl
        · have h2' : impl_Span_int64.l0 1100000 X p (X.length : Int) 0 (X.length : Int) = some (q, b2) := h2
          rw [h2', e]; rfl
      · rw [if_neg g, if_neg g]; exact ⟨false, rfl, rfl⟩
    obtain ⟨b, h1, h2⟩ := key
    rw [h1]
    simp only [Option.bind_some]
    rw [h2]
    simp only [Option.bind_some]
    rw [if_neg (by simp), eqSpanS_eq X 1100000 (by omega) hX]
    simp only [Option.bind_some, if_true]

end Go.Proofs.Ytogdmjcdfjnifaa.Pure

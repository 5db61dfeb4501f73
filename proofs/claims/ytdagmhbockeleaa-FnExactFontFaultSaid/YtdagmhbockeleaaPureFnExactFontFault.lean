/- The program's FontFault returns what the reference's returns. For every input: the law answers true; each argument reads afterwards as it read before. -/
import Derived.Test.YtdagmhbockeleaaPFnExactFontFaultx
import Derived.Test.YtdagmhbockeleaaLib
import Derived.Test.YtdagmhbockeleaaSpanSFontFault
import Derived.Test.YtdagmhbockeleaaInt64SFontFault
set_option linter.unusedSimpArgs false
set_option linter.unusedVariables false
namespace Go.Proofs.Ytdagmhbockeleaa.Pure
open Go.RowKit Go.Proofs.Ytdagmhbockeleaa.PFnExactFontFault Go.Proofs.YtdagmhbockeleaaW.PrintWords Go.Proofs.YtdagmhbockeleaaW.PrintLast Go.Proofs.YtdagmhbockeleaaW.PrintMore Go.Proofs.Ytdagmhbockeleaa.Lib

/-! the two sides, round for round -/
theorem spans_same (l : List S78) : ∀ (k : Nat) (n : Int), spec_SpansFault.l0 k l n = impl_SpansFault.l0 k l l (l.length : Int) n
  | 0, _ => rfl
  | k + 1, n => by
    simp only [spec_SpansFault.l0, impl_SpansFault.l0, spans_same l k]
    generalize (rd_T78 l n).f0 = a
    generalize (rd_T78 l n).f1 = b
    generalize (rd_T78 l (wrap64 (n - 1))).f1 = c
    repeat' split
    all_goals first | rfl | omega
theorem spansF_same (l : List S78) (k : Nat) : spec_SpansFault.f k l = impl_SpansFault.f k l := by
  unfold spec_SpansFault.f impl_SpansFault.f
  rw [spans_same]
theorem valued_same (l : List S78) (a b : Int) : ∀ (k : Nat) (n : Int), spec_l10Spans.l0 k l a b n = impl_valued.l0 k l a b l (l.length : Int) n
  | 0, _ => rfl
  | k + 1, n => by
    simp only [spec_l10Spans.l0, impl_valued.l0, valued_same l a b k, spansF_same]
    by_cases h : n < (l.length : Int)
    · simp only [if_pos h]
    · simp only [if_neg h]
theorem ids_same (l : List Int) (m : Int) : ∀ (k : Nat) (n : Int), spec_l10Ids.l0 k l m n = impl_ids.l0 k l m l (l.length : Int) n
  | 0, _ => rfl
  | k + 1, n => by
    simp only [spec_l10Ids.l0, impl_ids.l0, ids_same l m k]
    by_cases h : n < (l.length : Int)
    · simp only [if_pos h]
    · simp only [if_neg h]
theorem idsF_same (l : List Int) (m : Int) (k : Nat) : spec_l10Ids.f k l m = impl_ids.f k l m := ids_same l m k 0
theorem rules_same (l : List S80) : ∀ (k : Nat) (n : Int), spec_l10RulesRight.l0 k l n = impl_rulesRight.l0 k l l (l.length : Int) n
  | 0, _ => rfl
  | k + 1, n => by
    simp only [spec_l10RulesRight.l0, impl_rulesRight.l0, rules_same l k, idsF_same]
    by_cases h : n < (l.length : Int)
    · simp only [if_pos h]
    · simp only [if_neg h]
theorem kerns_same (w : Int) (s1 s4 : List S78) (r : List S80) (l : List S61) : ∀ (k : Nat),
    (∀ n : Int, spec_FontFault.l0 k n w s1 r l s4 = impl_FontFault.l0 k l (l.length : Int) n w s1 r l s4) ∧
    (∀ (n : Int) (c : Bool) (x y z : Int), spec_FontFault.j2 k n c w s1 r l s4 x y z = impl_FontFault.j2 k n l (l.length : Int) n c w s1 r l s4 x y z)
  | 0 => ⟨fun _ => rfl, fun _ _ _ _ _ => rfl⟩
  | k + 1 => by
    obtain ⟨i0, i2⟩ := kerns_same w s1 s4 r l k
    refine ⟨fun n => ?_, fun n c x y z => ?_⟩
    · simp only [spec_FontFault.l0, impl_FontFault.l0, i2]
      by_cases h : n < (l.length : Int)
      · simp only [if_pos h]
      · simp only [if_neg h]
    · simp only [spec_FontFault.j2, impl_FontFault.j2, i0]
theorem j0_same (w : Int) (s1 s4 : List S78) (r : List S80) (l : List S61) (k : Nat) (c : Bool) : spec_FontFault.j0 k c w s1 r l s4 = impl_FontFault.j0 k c w s1 r l s4 := by
  cases k with
  | zero => rfl
  | succ k => simp only [spec_FontFault.j0, impl_FontFault.j0, (kerns_same w s1 s4 r l k).1]
theorem font_same (w : Int) (s1 s4 : List S78) (r : List S80) (l : List S61) (k : Nat) : spec_FontFault.f k w s1 r l s4 = impl_FontFault.f k w s1 r l s4 := by
  unfold spec_FontFault.f impl_FontFault.f spec_l10Spans.f impl_valued.f spec_l10RulesRight.f impl_rulesRight.f
  simp only [valued_same, rules_same, j0_same]

/-! it ends -/
theorem spans_ends (l : List S78) (hl : l.length ≤ 1048576) : ∀ (d n k : Nat), n + d = l.length → d < k → ∃ r, spec_SpansFault.l0 k l (n : Int) = some r := by
  intro d
  induction d with
  | zero =>
    intro n k hn hk
    obtain ⟨k, rfl⟩ : ∃ m, k = m + 1 := ⟨k - 1, by omega⟩
    simp only [spec_SpansFault.l0]
    rw [if_neg (by omega)]
    exact ⟨_, rfl⟩
  | succ d ih =>
    intro n k hn hk
    obtain ⟨k, rfl⟩ : ∃ m, k = m + 1 := ⟨k - 1, by omega⟩
    obtain ⟨r, hr⟩ := ih (n + 1) k (by omega) (by omega)
    have hlt : n < l.length := by omega
    simp only [spec_SpansFault.l0, w64s hlt (by omega), hr]
    rw [if_pos (by omega), if_pos (by omega)]
    have hw : wrap64 ((n : Int) - 1) = (n : Int) - 1 := w64 (by omega) (by omega)
    rw [hw]
    repeat' split
    all_goals first | exact ⟨_, rfl⟩ | (exfalso; omega)
theorem spansF_ends (l : List S78) (hl : l.length ≤ 1048576) (k : Nat) (hk : l.length < k) : ∃ r, impl_SpansFault.f k l = some r := by
  rw [← spansF_same]
  unfold spec_SpansFault.f
  split
  · exact ⟨_, rfl⟩
  · exact spans_ends l hl l.length 0 k (by omega) hk
theorem valued_ends (l : List S78) (hl : l.length ≤ 1048576) (a b : Int) : ∀ (d n k : Nat), n + d = l.length → d + l.length + 1 < k → ∃ r, impl_valued.l0 k l a b l (l.length : Int) (n : Int) = some r := by
  intro d
  induction d with
  | zero =>
    intro n k hn hk
    obtain ⟨k, rfl⟩ : ∃ m, k = m + 1 := ⟨k - 1, by omega⟩
    obtain ⟨r, hr⟩ := spansF_ends l hl k (by omega)
    rw [impl_valued.l0, if_neg (by omega), hr]
    exact ⟨_, rfl⟩
  | succ d ih =>
    intro n k hn hk
    obtain ⟨k, rfl⟩ : ∃ m, k = m + 1 := ⟨k - 1, by omega⟩
    obtain ⟨r, hr⟩ := ih (n + 1) k (by omega) (by omega)
    have hlt : n < l.length := by omega
    rw [impl_valued.l0, if_pos (by omega), if_pos (by omega), if_pos (by omega), w64s hlt (by omega), hr]
    repeat' split
    all_goals exact ⟨_, rfl⟩
theorem ids_ends (l : List Int) (hl : l.length ≤ 1048576) (m : Int) : ∀ (d n k : Nat), n + d = l.length → d < k → ∃ r, impl_ids.l0 k l m l (l.length : Int) (n : Int) = some r := by
  intro d
  induction d with
  | zero =>
    intro n k hn hk
    obtain ⟨k, rfl⟩ : ∃ m, k = m + 1 := ⟨k - 1, by omega⟩
    rw [impl_ids.l0, if_neg (by omega)]
    exact ⟨_, rfl⟩
  | succ d ih =>
    intro n k hn hk
    obtain ⟨k, rfl⟩ : ∃ m, k = m + 1 := ⟨k - 1, by omega⟩
    obtain ⟨r, hr⟩ := ih (n + 1) k (by omega) (by omega)
    have hlt : n < l.length := by omega
    rw [impl_ids.l0, if_pos (by omega), if_pos (by omega), if_pos (by omega), w64s hlt (by omega), hr]
    repeat' split
    all_goals exact ⟨_, rfl⟩
theorem idsF_ends (l : List Int) (hl : l.length ≤ 1048576) (m : Int) (k : Nat) (hk : 1048577 ≤ k) : ∃ r, impl_ids.f k l m = some r := ids_ends l hl m l.length 0 k (by omega) (by omega)
theorem rdRule_nat (xs : List S80) (n : Nat) (h : n < xs.length) : rd_T80 xs (n : Int) = xs[n] := by
  simp [rd_T80, List.getD_eq_getElem?_getD, List.getElem?_eq_getElem h]
def Small (x : S80) : Prop := x.f0.length ≤ 1048576 ∧ x.f1.length ≤ 1048576 ∧ x.f2.length ≤ 1048576 ∧ x.f3.length ≤ 1048576
theorem rules_ends (l : List S80) (hl : l.length ≤ 1048576) (hs : ∀ x ∈ l, Small x) : ∀ (d n k : Nat), n + d = l.length → d + 1048577 < k → ∃ r, impl_rulesRight.l0 k l l (l.length : Int) (n : Int) = some r := by
  intro d
  induction d with
  | zero =>
    intro n k hn hk
    obtain ⟨k, rfl⟩ : ∃ m, k = m + 1 := ⟨k - 1, by omega⟩
    rw [impl_rulesRight.l0, if_neg (by omega)]
    exact ⟨_, rfl⟩
  | succ d ih =>
    intro n k hn hk
    obtain ⟨k, rfl⟩ : ∃ m, k = m + 1 := ⟨k - 1, by omega⟩
    obtain ⟨r, hr⟩ := ih (n + 1) k (by omega) (by omega)
    have hlt : n < l.length := by omega
    obtain ⟨a0, a1, a2, a3⟩ := hs l[n] (List.getElem_mem hlt)
    obtain ⟨r0, e0⟩ := idsF_ends l[n].f0 a0 4 k (by omega)
    obtain ⟨r1, e1⟩ := idsF_ends l[n].f1 a1 8 k (by omega)
    obtain ⟨r2, e2⟩ := idsF_ends l[n].f2 a2 4 k (by omega)
    obtain ⟨r3, e3⟩ := idsF_ends l[n].f3 a3 8 k (by omega)
    rw [impl_rulesRight.l0, if_pos (by omega), if_pos (by omega), if_pos (by omega), w64s hlt (by omega), rdRule_nat l n hlt, hr, e0, e1, e2, e3]
    simp only [Option.bind_some]
    repeat' split
    all_goals exact ⟨_, rfl⟩
theorem kerns_ends (w : Int) (s1 s4 : List S78) (r : List S80) (l : List S61) (hl : l.length ≤ 1048576) : ∀ (d n k : Nat), n + d = l.length → 2 * d < k → ∃ r', impl_FontFault.l0 k l (l.length : Int) (n : Int) w s1 r l s4 = some r' := by
  intro d
  induction d with
  | zero =>
    intro n k hn hk
    obtain ⟨k, rfl⟩ : ∃ m, k = m + 1 := ⟨k - 1, by omega⟩
    rw [impl_FontFault.l0, if_neg (by omega)]
    exact ⟨_, rfl⟩
  | succ d ih =>
    intro n k hn hk
    obtain ⟨k, rfl⟩ : ∃ m, k = m + 2 := ⟨k - 2, by omega⟩
    obtain ⟨r', hr⟩ := ih (n + 1) k (by omega) (by omega)
    have hlt : n < l.length := by omega
    have hw : wrap64 ((n : Int) - 1) = (n : Int) - 1 := w64 (by omega) (by omega)
    have key : ∀ (c : Bool) (x y z : Int), ∃ r', impl_FontFault.j2 (k + 1) (n : Int) l (l.length : Int) (n : Int) c w s1 r l s4 x y z = some r' := by
      intro c x y z
      simp only [impl_FontFault.j2, w64s hlt (show l.length ≤ 9223372036854775807 by omega), hr, hw]
      repeat' split
      all_goals first | exact ⟨_, rfl⟩ | (exfalso; omega)
    rw [show k + 2 = (k + 1) + 1 from rfl, impl_FontFault.l0, if_pos (by omega), if_pos (by omega), if_pos (by omega)]
    split
    · exact key _ _ _ _
    · exact key _ _ _ _
theorem font_ends (w : Int) (s1 s4 : List S78) (r : List S80) (l : List S61) (h1 : s1.length ≤ 1048576) (h4 : s4.length ≤ 1048576) (h2 : r.length ≤ 1048576) (hs : ∀ x ∈ r, Small x) (h3 : l.length ≤ 1048576) (k : Nat) (hk : 4000000 ≤ k) : ∃ r', impl_FontFault.f k w s1 r l s4 = some r' := by
  obtain ⟨a, ha⟩ := valued_ends s1 h1 0 1000 s1.length 0 k (by omega) (by omega)
  obtain ⟨b, hb⟩ := valued_ends s4 h4 (-1000) 1000 s4.length 0 k (by omega) (by omega)
  obtain ⟨c, hc⟩ := rules_ends r h2 hs r.length 0 k (by omega) (by omega)
  have hj : ∀ q : Bool, ∃ r', impl_FontFault.j0 k q w s1 r l s4 = some r' := by
    intro q
    obtain ⟨k, rfl⟩ : ∃ m, k = m + 1 := ⟨k - 1, by omega⟩
    obtain ⟨d, hd⟩ := kerns_ends w s1 s4 r l h3 l.length 0 k (by omega) (by omega)
    rw [show ((0 : Nat) : Int) = 0 from rfl] at hd
    simp only [impl_FontFault.j0, hd]
    split <;> exact ⟨_, rfl⟩
  rw [show ((0 : Nat) : Int) = 0 from rfl] at ha hb hc
  unfold impl_FontFault.f impl_valued.f impl_rulesRight.f
  rw [ha, hb, hc]
  simp only [Option.bind_some]
  repeat' split
  all_goals exact hj _

/-! sizes -/
theorem sz_row (n : Nat) (a : Int) (ha : 0 ≤ a ∧ a ≤ 1048576) (hn : n ≤ maxLen) : ∃ r, (if (wrap64 (a - (n : Int))) < 0 then (some (-1) : Option Int) else some (wrap64 (a - (n : Int)))) = some r ∧ r ≤ 1048576 ∧ (0 ≤ r → (n : Int) ≤ 1048576 ∧ r ≤ a) ∧ (r < 0 → r = -1) := by
  unfold maxLen at hn
  rw [w64 (by omega) (by omega)]
  by_cases c : a - (n : Int) < 0
  · rw [if_pos c]; exact ⟨_, rfl, by omega, by omega, by omega⟩
  · rw [if_neg c]; exact ⟨_, rfl, by omega, by omega, by omega⟩
theorem sz_int64s (l : List Int) (a : Int) (ha : 0 ≤ a ∧ a ≤ 1048576) (hn : l.length ≤ maxLen) : ∃ r, laws_szInt64S.f l a = some r ∧ r ≤ 1048576 ∧ (0 ≤ r → (l.length : Int) ≤ 1048576 ∧ r ≤ a) := by
  obtain ⟨r, h1, h2, h3, _⟩ := sz_row l.length a ha hn
  exact ⟨r, h1, h2, h3⟩
def SmallL (x : S76) : Prop := x.f0.length ≤ 1048576 ∧ x.f1.length ≤ 1048576 ∧ x.f2.length ≤ 1048576 ∧ x.f3.length ≤ 1048576
theorem sz_rule (x : S76) (hq : Q76 x) (a : Int) (ha : 0 ≤ a ∧ a ≤ 1048576) : ∃ r, laws_szShapeRule.f x.f0 x.f1 x.f2 x.f3 a = some r ∧ r ≤ 1048576 ∧ (0 ≤ r → SmallL x ∧ r ≤ a) := by
  obtain ⟨q0, q1, q2, q3⟩ := hq
  unfold laws_szShapeRule.f
  obtain ⟨r0, e0, b0, c0⟩ := sz_int64s x.f0 a ha q0.1
  rw [e0, Option.bind_some]
  by_cases d0 : r0 < 0
  · rw [if_pos d0]; exact ⟨_, rfl, by omega, by omega⟩
  obtain ⟨r1, e1, b1, c1⟩ := sz_int64s x.f1 r0 (by omega) q1.1
  rw [if_neg d0, e1, Option.bind_some]
  by_cases d1 : r1 < 0
  · rw [if_pos d1]; exact ⟨_, rfl, by omega, by omega⟩
  obtain ⟨r2, e2, b2, c2⟩ := sz_int64s x.f2 r1 (by omega) q2.1
  rw [if_neg d1, e2, Option.bind_some]
  by_cases d2 : r2 < 0
  · rw [if_pos d2]; exact ⟨_, rfl, by omega, by omega⟩
  obtain ⟨r3, e3, b3, c3⟩ := sz_int64s x.f3 r2 (by omega) q3.1
  rw [if_neg d2, e3, Option.bind_some]
  by_cases d3 : r3 < 0
  · rw [if_pos d3]; exact ⟨_, rfl, by omega, by omega⟩
  · rw [if_neg d3]
    refine ⟨_, rfl, by omega, fun _ => ⟨⟨by omega, by omega, by omega, by omega⟩, by omega⟩⟩
theorem rdRuleL_nat (xs : List S76) (n : Nat) (h : n < xs.length) : rd_T76 xs (n : Int) = xs[n] := by
  simp [rd_T76, List.getD_eq_getElem?_getD, List.getElem?_eq_getElem h]
theorem sz_rules_l0 (l : List S76) (hl : l.length ≤ 1048576) (hq : ∀ x ∈ l, Q76 x) : ∀ (d n k : Nat) (a : Int), n + d = l.length → d < k → (0 ≤ a ∧ a ≤ 1048576) → ∃ r, laws_szShapeRuleS.l0 k l a (n : Int) = some r ∧ r ≤ 1048576 ∧ (0 ≤ r → (∀ x ∈ l.drop n, SmallL x) ∧ r ≤ a) := by
  intro d
  induction d with
  | zero =>
    intro n k a hn hk ha
    obtain ⟨k, rfl⟩ : ∃ m, k = m + 1 := ⟨k - 1, by omega⟩
    rw [laws_szShapeRuleS.l0, if_neg (by omega), List.drop_eq_nil_of_le (by omega)]
    exact ⟨a, rfl, by omega, fun _ => ⟨by simp, by omega⟩⟩
  | succ d ih =>
    intro n k a hn hk ha
    obtain ⟨k, rfl⟩ : ∃ m, k = m + 1 := ⟨k - 1, by omega⟩
    have hlt : n < l.length := by omega
    obtain ⟨r, e, b, c⟩ := sz_rule l[n] (hq _ (List.getElem_mem hlt)) a ha
    rw [laws_szShapeRuleS.l0, if_pos (by omega), if_pos (by omega), rdRuleL_nat l n hlt, e, Option.bind_some]
    by_cases h : r < 0
    · rw [if_pos h]; exact ⟨_, rfl, by omega, by omega⟩
    · obtain ⟨r2, e2, b2, c2⟩ := ih (n + 1) k r (by omega) (by omega) (by omega)
      rw [if_neg h, w64s hlt (by omega), e2, List.drop_eq_getElem_cons hlt]
      refine ⟨r2, rfl, b2, fun h2 => ⟨fun x hx => ?_, by have := (c2 h2).2; have := (c (by omega)).2; omega⟩⟩
      rcases List.mem_cons.1 hx with rfl | hx
      · exact (c (by omega)).1
      · exact (c2 h2).1 x hx
theorem sz_font (w : Int) (s1 s4 : List S83) (r : List S76) (l : List S86) (h1 : s1.length ≤ maxLen) (h4 : s4.length ≤ maxLen) (h2 : r.length ≤ maxLen) (hq : ∀ x ∈ r, Q76 x) (h3 : l.length ≤ maxLen) (k : Nat) (hk : 1048578 ≤ k) :
    ∃ t, laws_szFont.f k w s1 r l s4 1048576 = some t ∧ (0 ≤ t → s1.length ≤ 1048576 ∧ s4.length ≤ 1048576 ∧ r.length ≤ 1048576 ∧ l.length ≤ 1048576 ∧ ∀ x ∈ r, SmallL x) := by
  unfold laws_szFont.f
  obtain ⟨r0, e0, b0, c0, _⟩ := sz_row s1.length 1048576 (by omega) h1
  rw [show laws_szSpanS.f s1 1048576 = some r0 from e0, Option.bind_some]
  by_cases d0 : r0 < 0
  · rw [if_pos d0]; exact ⟨_, rfl, by omega⟩
  rw [if_neg d0]
  have rl : ∃ r1, laws_szShapeRuleS.f k r r0 = some r1 ∧ r1 ≤ 1048576 ∧ (0 ≤ r1 → r.length ≤ 1048576 ∧ (∀ x ∈ r, SmallL x) ∧ r1 ≤ r0) := by
    unfold laws_szShapeRuleS.f
    unfold maxLen at h2
    rw [w64 (x := r0 - (r.length : Int)) (by omega) (by omega)]
    by_cases c : r0 - (r.length : Int) < 0
    · rw [if_pos c]; exact ⟨_, rfl, by omega, by omega⟩
    · obtain ⟨r1, e1, b1, c1⟩ := sz_rules_l0 r (by omega) hq r.length 0 k (r0 - (r.length : Int)) (by omega) (by omega) (by omega)
      rw [if_neg c]
      refine ⟨r1, e1, b1, fun h => ⟨by omega, ?_, by have := (c1 h).2; omega⟩⟩
      have := (c1 h).1
      rwa [List.drop_zero] at this
  obtain ⟨r1, e1, b1, c1⟩ := rl
  rw [e1, Option.bind_some]
  by_cases d1 : r1 < 0
  · rw [if_pos d1]; exact ⟨_, rfl, by omega⟩
  obtain ⟨r2, e2, b2, c2, _⟩ := sz_row l.length r1 (by omega) h3
  rw [if_neg d1, show laws_szKernS.f l r1 = some r2 from e2, Option.bind_some]
  by_cases d2 : r2 < 0
  · rw [if_pos d2]; exact ⟨_, rfl, by omega⟩
  obtain ⟨r3, e3, b3, c3, _⟩ := sz_row s4.length r2 (by omega) h4
  rw [if_neg d2, show laws_szSpanS.f s4 r2 = some r3 from e3, Option.bind_some]
  by_cases d3 : r3 < 0
  · rw [if_pos d3]; exact ⟨_, rfl, by omega⟩
  · rw [if_neg d3]
    have q1 := c1 (by omega)
    exact ⟨_, rfl, fun _ => ⟨by omega, by omega, q1.1, by omega, q1.2.1⟩⟩

/-! copies and comparisons -/
def asRule (x : S76) : S80 := ⟨x.f0, x.f1, x.f2, x.f3⟩
def asKern (x : S86) : S61 := ⟨x.f0, x.f1, x.f2⟩
theorem rdKernL_nat (xs : List S86) (n : Nat) (h : n < xs.length) : rd_T86 xs (n : Int) = xs[n] := by
  simp [rd_T86, List.getD_eq_getElem?_getD, List.getElem?_eq_getElem h]
theorem toRules_eq (l : List S76) (k : Nat) (hk : 2100000 ≤ k) (hl : l.length ≤ 1048576) (hs : ∀ x ∈ l, SmallL x) : laws_toShapeRuleS.f k l = some (l.map asRule) := by
  unfold laws_toShapeRuleS.f
  rw [if_pos (by omega), if_pos (by simp; omega), Int.toNat_natCast, ← laidRow_zero asRule z80 l]
  have key : ∀ (d i k : Nat), i + d = l.length → d + 1048578 < k → laws_toShapeRuleS.l0 k l (laidRow asRule z80 l i) (i : Int) = some (l.map asRule) := by
    intro d
    induction d with
    | zero =>
      intro i k hi hk
      obtain ⟨k, rfl⟩ : ∃ m, k = m + 1 := ⟨k - 1, by omega⟩
      obtain rfl : i = l.length := by omega
      rw [laws_toShapeRuleS.l0, if_neg (by omega), laidRow_all]
    | succ d ih =>
      intro i k hi hk
      obtain ⟨k, rfl⟩ : ∃ m, k = m + 1 := ⟨k - 1, by omega⟩
      have hlt : i < l.length := by omega
      obtain ⟨a0, a1, a2, a3⟩ := hs l[i] (List.getElem_mem hlt)
      rw [laws_toShapeRuleS.l0, if_pos (by omega), if_pos (by omega), rdRuleL_nat l i hlt, w64s hlt (by omega)]
      unfold laws_toShapeRule.f
      rw [toInt64S_eq _ k (by omega) (by omega), toInt64S_eq _ k (by omega) (by omega), toInt64S_eq _ k (by omega) (by omega), toInt64S_eq _ k (by omega) (by omega)]
      simp only [Option.bind_some]
      rw [if_pos (by rw [laidRow_length _ _ _ _ (by omega)]; omega), Int.toNat_natCast]
      have := laidRow_set asRule z80 l i hlt
      rw [show (⟨l[i].f0, l[i].f1, l[i].f2, l[i].f3⟩ : S80) = asRule l[i] from rfl, this]
      exact ih (i + 1) k (by omega) (by omega)
  exact key l.length 0 k (by omega) (by omega)
theorem toKerns_eq (l : List S86) (k : Nat) (hk : l.length + 1 ≤ k) (hl : l.length ≤ 1048576) : laws_toKernS.f k l = some (l.map asKern) := by
  unfold laws_toKernS.f
  rw [if_pos (by omega), if_pos (by simp; omega), Int.toNat_natCast, ← laidRow_zero asKern z61 l]
  refine forLoop (fun k x i => laws_toKernS.l0 k l x i) l.length (laidRow asKern z61 l) _ (fun k i hi => ?_) (fun k => ?_) k (by omega)
  · simp only [laws_toKernS.l0]
    rw [if_pos (by omega), if_pos (by omega), rdKernL_nat l i hi, w64s hi (by omega)]
    simp only [laws_toKern.f, Option.bind_some]
    rw [if_pos (by rw [laidRow_length _ _ _ _ (by omega)]; omega), Int.toNat_natCast]
    exact congrArg (fun y => laws_toKernS.l0 k l y ((i + 1 : Nat) : Int)) (laidRow_set asKern z61 l i hi)
  · simp only [laws_toKernS.l0]
    rw [if_neg (by omega), laidRow_all]
theorem eqKerns_eq (l : List S61) (k : Nat) (hk : l.length + 1 ≤ k) (hl : l.length ≤ 1048576) : laws_eqKernS.f k l l = some true := by
  unfold laws_eqKernS.f
  rw [if_pos rfl]
  refine forLoop (fun k (_ : Unit) i => laws_eqKernS.l0 k l l i) l.length (fun _ => ()) _ (fun k i hi => ?_) (fun k => ?_) k (by omega)
  · simp only [laws_eqKernS.l0]
    rw [if_pos (by omega), if_pos (by omega), if_pos (by omega), w64s hi (by omega)]
    simp [laws_eqKern.f]
  · simp only [laws_eqKernS.l0]
    rw [if_neg (by omega)]
theorem eqRules_eq (l : List S80) (k : Nat) (hk : 2100000 ≤ k) (hl : l.length ≤ 1048576) (hs : ∀ x ∈ l, Small x) : laws_eqShapeRuleS.f k l l = some true := by
  unfold laws_eqShapeRuleS.f
  rw [if_pos rfl]
  have key : ∀ (d i k : Nat), i + d = l.length → d + 1048578 < k → laws_eqShapeRuleS.l0 k l l (i : Int) = some true := by
    intro d
    induction d with
    | zero =>
      intro i k hi hk
      obtain ⟨k, rfl⟩ : ∃ m, k = m + 1 := ⟨k - 1, by omega⟩
      rw [laws_eqShapeRuleS.l0, if_neg (by omega)]
    | succ d ih =>
      intro i k hi hk
      obtain ⟨k, rfl⟩ : ∃ m, k = m + 1 := ⟨k - 1, by omega⟩
      have hlt : i < l.length := by omega
      obtain ⟨a0, a1, a2, a3⟩ := hs l[i] (List.getElem_mem hlt)
      rw [laws_eqShapeRuleS.l0, if_pos (by omega), if_pos (by omega), if_pos (by omega), w64s hlt (by omega), rdRule_nat l i hlt]
      unfold laws_eqShapeRule.f
      rw [eqInt64S_eq _ k (by omega) (by omega), eqInt64S_eq _ k (by omega) (by omega), eqInt64S_eq _ k (by omega) (by omega), eqInt64S_eq _ k (by omega) (by omega)]
      simp only [Option.bind_some, if_true]
      exact ih (i + 1) k (by omega) (by omega)
  exact key l.length 0 k (by omega) (by omega)
theorem FnExactFontFault : laws_FnExactFontFault.Pure := by
  intro w s1 r l s4 _ q1 q2 q3 q4
  refine ⟨4000000, ?_⟩
  unfold laws_FnExactFontFault.f
  obtain ⟨t, e, ht⟩ := sz_font w s1 s4 r l q1.1 q4.1 q2.1 q2.2 q3.1 4000000 (by omega)
  rw [e, Option.bind_some]
  by_cases c : t < 0
  · rw [if_pos c]
  · obtain ⟨h1, h4, h2, h3, hs⟩ := ht (by omega)
    have hs' : ∀ x ∈ r.map asRule, Small x := by
      intro x hx
      obtain ⟨y, hy, rfl⟩ := List.mem_map.1 hx
      exact hs y hy
    rw [if_neg c]
    have ef : laws_toFont.f 4000000 w s1 r l s4 = some (w, s1.map asSpan, r.map asRule, l.map asKern, s4.map asSpan) := by
      unfold laws_toFont.f
      rw [toSpanS_eq s1 _ (by omega) h1, Option.bind_some, toRules_eq r _ (by omega) h2 hs, Option.bind_some, toKerns_eq l _ (by omega) h3, Option.bind_some, toSpanS_eq s4 _ (by omega) h4, Option.bind_some]
    rw [ef]
    simp only [Option.bind_some]
    obtain ⟨r', hr⟩ := font_ends w (s1.map asSpan) (s4.map asSpan) (r.map asRule) (l.map asKern) (by simpa using h1) (by simpa using h4) (by simpa using h2) hs' (by simpa using h3) 4000000 (Nat.le_refl _)
    rw [font_same, hr]
    simp only [Option.bind_some, if_true]
    unfold laws_eqFont.f
    rw [if_pos rfl, eqSpanS_eq _ _ (by simp; omega) (by simpa using h1), Option.bind_some, if_pos rfl, eqRules_eq _ _ (by omega) (by simpa using h2) hs', Option.bind_some, if_pos rfl, eqKerns_eq _ _ (by simp; omega) (by simpa using h3), Option.bind_some, if_pos rfl, eqSpanS_eq _ _ (by simp; omega) (by simpa using h4), Option.bind_some, if_pos rfl]
    simp

end Go.Proofs.Ytdagmhbockeleaa.Pure

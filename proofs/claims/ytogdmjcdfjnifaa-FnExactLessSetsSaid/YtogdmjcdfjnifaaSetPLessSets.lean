/- Sets by the ends of their spans, and by their points: one row of spans. -/
import Derived.Test.YtogdmjcdfjnifaaRunsPLessSets
set_option linter.unusedSimpArgs false
set_option linter.unusedVariables false
namespace Go.Proofs.Ytogdmjcdfjnifaa.PFnExactLessSets
open Go.RowKit Go.Proofs.YtogdmjcdfjnifaaW.PrintWords Go.Proofs.YtogdmjcdfjnifaaW.PrintLast Go.Proofs.YtogdmjcdfjnifaaW.PrintMore Go.Proofs.Ytogdmjcdfjnifaa.Lib Go.Proofs.Ytogdmjcdfjnifaa.EvKit

abbrev el (l : List Sp) (x : Nat) : Sp := rdP l (x : Int)
theorem el_eq (l : List Sp) (x : Nat) (h : x < l.length) : el l x = l[x] := by
  simp [el, rdP, rd_T57, List.getD_eq_getElem?_getD, List.getElem?_eq_getElem h]
theorem wpred (n : Nat) (h : 0 < n) (h2 : n ≤ 1000000000) : wrap64 ((n : Int) - 1) = ((n - 1 : Nat) : Int) := by rw [w64 (by omega) (by omega)]; omega
/-! ### spans without a fault -/
theorem spans_same (l : List Sp) : ∀ (k : Nat) (n : Int), spec_SpansFault.l0 k l n = impl_SpansFault.l0 k l l (l.length : Int) n
  | 0, _ => rfl
  | k + 1, n => by
    simp only [spec_SpansFault.l0, impl_SpansFault.l0, spans_same l k]
    generalize (rd_T57 l n).f0 = a
    generalize (rd_T57 l n).f1 = b
    generalize (rd_T57 l (wrap64 (n - 1))).f1 = c
    repeat' split
    all_goals first | rfl | omega
theorem spansF_same (l : List Sp) (k : Nat) : spec_SpansFault.f k l = impl_SpansFault.f k l := by
  unfold spec_SpansFault.f impl_SpansFault.f
  rw [spans_same]
def GoodAt (l : List Sp) (i : Nat) : Prop := 0 ≤ (el l i).f0 ∧ (el l i).f0 ≤ (el l i).f1 ∧ (el l i).f1 ≤ 32767 ∧ (0 < i → (el l (i - 1)).f1 < (el l i).f0)
def Good (l : List Sp) : Prop := ∀ i, i < l.length → GoodAt l i
theorem spans_ok (l : List Sp) (hl : l.length ≤ 1048576) : ∀ (d n : Nat), n + d = l.length → ∃ r, Ev (fun k => spec_SpansFault.l0 k l (n : Int)) r ∧ (r = 0 → ∀ i, n ≤ i → i < l.length → GoodAt l i) := by
  intro d
  induction d with
  | zero =>
    intro n hn
    refine ⟨0, succ_ ?_, fun _ i h1 h2 => by omega⟩
    simp only [spec_SpansFault.l0, if_neg (show ¬ (n : Int) < (l.length : Int) by omega)]
    exact Ev.now _
  | succ d ih =>
    intro n hn
    obtain ⟨r, hr, hg⟩ := ih (n + 1) (by omega)
    have hlt : n < l.length := by omega
    have bad : ∀ {g : Nat → Option Int}, (∀ k, g k = some 1) → ∃ r, Ev g r ∧ (r = 0 → ∀ i, n ≤ i → i < l.length → GoodAt l i) := fun h => ⟨1, ⟨0, fun k _ => h k⟩, fun h => absurd h (by decide)⟩
    have step : GoodAt l n → r = 0 → ∀ i, n ≤ i → i < l.length → GoodAt l i := by
      intro h0 hr0 i h1 h2
      by_cases e : i = n
      · subst e; exact h0
      · exact hg hr0 i (by omega) h2
    have up : ∀ r', (Ev (fun k => spec_SpansFault.l0 (k + 1) l (n : Int)) r' ∧ (r' = 0 → ∀ i, n ≤ i → i < l.length → GoodAt l i)) → ∃ r, Ev (fun k => spec_SpansFault.l0 k l (n : Int)) r ∧ (r = 0 → ∀ i, n ≤ i → i < l.length → GoodAt l i) := fun r' h => ⟨r', succ_ h.1, h.2⟩
    have hw : wrap64 ((n : Int) + 1) = ((n + 1 : Nat) : Int) := w64s hlt (by omega)
    have hw1 : wrap64 ((n : Int) - 1) = (n : Int) - 1 := w64 (by omega) (by omega)
    by_cases a1 : (rd_T57 l (n : Int)).f0 < 0
    · refine up 1 ⟨?_, fun h => absurd h (by decide)⟩
      simp only [spec_SpansFault.l0, if_pos (show (n : Int) < (l.length : Int) by omega), if_pos (show (0 : Int) ≤ (n : Int) by omega), if_pos a1]
      exact Ev.now _
    by_cases a2 : (rd_T57 l (n : Int)).f1 > 32767
    · refine up 1 ⟨?_, fun h => absurd h (by decide)⟩
      simp only [spec_SpansFault.l0, if_pos (show (n : Int) < (l.length : Int) by omega), if_pos (show (0 : Int) ≤ (n : Int) by omega), if_neg a1, if_pos a2]
      exact Ev.now _
    by_cases a3 : (rd_T57 l (n : Int)).f0 > (rd_T57 l (n : Int)).f1
    · refine up 1 ⟨?_, fun h => absurd h (by decide)⟩
      simp only [spec_SpansFault.l0, if_pos (show (n : Int) < (l.length : Int) by omega), if_pos (show (0 : Int) ≤ (n : Int) by omega), if_neg a1, if_neg a2, if_pos a3]
      exact Ev.now _
    by_cases a4 : (n : Int) > 0
    · by_cases a5 : (rd_T57 l ((n : Int) - 1)).f1 ≥ (rd_T57 l (n : Int)).f0
      · refine up 1 ⟨?_, fun h => absurd h (by decide)⟩
        simp only [spec_SpansFault.l0, if_pos (show (n : Int) < (l.length : Int) by omega), if_pos (show (0 : Int) ≤ (n : Int) by omega), if_neg a1, if_neg a2, if_neg a3, if_pos a4, hw1, if_pos (show (0 : Int) ≤ (n : Int) - 1 by omega), if_pos (show (n : Int) - 1 < (l.length : Int) by omega), if_pos a5]
        exact Ev.now _
      · refine up r ⟨?_, step ⟨Int.not_lt.1 a1, Int.not_lt.1 a3, Int.not_lt.1 a2, fun _ => ?_⟩⟩
        · simp only [spec_SpansFault.l0, if_pos (show (n : Int) < (l.length : Int) by omega), if_pos (show (0 : Int) ≤ (n : Int) by omega), if_neg a1, if_neg a2, if_neg a3, if_pos a4, hw1, if_pos (show (0 : Int) ≤ (n : Int) - 1 by omega), if_pos (show (n : Int) - 1 < (l.length : Int) by omega), if_neg a5, hw]
          exact hr
        · have e1 : (n : Int) - 1 = ((n - 1 : Nat) : Int) := by omega
          rw [e1] at a5
          exact Int.not_le.1 a5
    · refine up r ⟨?_, step ⟨Int.not_lt.1 a1, Int.not_lt.1 a3, Int.not_lt.1 a2, fun h => by omega⟩⟩
      simp only [spec_SpansFault.l0, if_pos (show (n : Int) < (l.length : Int) by omega), if_pos (show (0 : Int) ≤ (n : Int) by omega), if_neg a1, if_neg a2, if_neg a3, if_neg a4, hw]
      exact hr
theorem fault_ev (X : List Sp) (hX : X.length ≤ 1048576) : ∃ r, Ev (fun k => spec_SpansFault.f k X) r ∧ Ev (fun k => impl_SpansFault.f k X) r ∧ (r = 0 → Good X ∧ X.length ≤ 1000) := by
  have key : ∃ r, Ev (fun k => spec_SpansFault.f k X) r ∧ (r = 0 → Good X ∧ X.length ≤ 1000) := by
    unfold spec_SpansFault.f
    by_cases g : (X.length : Int) > 1000
    · simp only [if_pos g]
      exact ⟨1, Ev.now _, fun h => absurd h (by decide)⟩
    · simp only [if_neg g]
      obtain ⟨r, hr, h2⟩ := spans_ok X hX X.length 0 (by omega)
      exact ⟨r, hr, fun h => ⟨fun i hi => h2 h i (by omega) hi, by omega⟩⟩
  obtain ⟨r, h1, h2⟩ := key
  refine ⟨r, h1, ?_, h2⟩
  have e : (fun k => impl_SpansFault.f k X) = (fun k => spec_SpansFault.f k X) := funext fun k => (spansF_same X k).symm
  rw [e]
  exact h1
/-! ### whether a set holds a point -/
def Has (l : List Sp) (p : Int) : Prop := ∃ j, j < l.length ∧ (el l j).f0 ≤ p ∧ p ≤ (el l j).f1
theorem good_rise {l : List Sp} (h : Good l) : ∀ (d i : Nat), i + d < l.length → (el l i).f0 ≤ (el l (i + d)).f0
  | 0, i, _ => Int.le_refl _
  | d + 1, i, hd => by
    have h1 := good_rise h d i (by omega)
    have h2 := (h (i + d) (by omega)).2.1
    have h3 := (h (i + d + 1) hd).2.2.2 (by omega)
    have e : i + d + 1 - 1 = i + d := by omega
    rw [e] at h3
    show (el l i).f0 ≤ (el l (i + d + 1)).f0
    omega
theorem mid (i j : Nat) (hj : j ≤ 1048576) (hi : i < j) : wrap64 ((IntKind.u64.wrap (wrap64 ((i : Int) + (j : Int)))) / 2) = (((i + j) / 2 : Nat) : Int) := by
  have e : IntKind.u64.wrap (wrap64 ((i : Int) + (j : Int))) = (i : Int) + (j : Int) := by
    rw [w64 (by omega) (by omega), IntKind.wrap_u64]
    omega
  rw [e, w64 (by omega) (by omega)]
  omega
theorem has_impl (l : List Sp) (p : Int) (hl : l.length ≤ 1048576) (hg : Good l) : ∀ (d i j k : Nat), j ≤ i + d → i ≤ j → j ≤ l.length → d + 1 < k → (∀ x, x < i → (el l x).f1 < p) → (∀ x, j ≤ x → x < l.length → ¬ (el l x).f1 < p) →
    ∃ q b, impl_Span_int64.l0 k l p (l.length : Int) (i : Int) (j : Int) = some (q, b) ∧ (b = true ↔ Has l p) := by
  intro d
  induction d with
  | zero =>
    intro i j k hd hij hj hk hlo hhi
    obtain ⟨k, rfl⟩ : ∃ m, k = m + 1 := ⟨k - 1, by omega⟩
    obtain rfl : i = j := by omega
    rw [impl_Span_int64.l0, if_neg (by omega)]
    by_cases c : i < l.length
    · have hL := hhi i (Nat.le_refl _) c
      rw [if_pos (by omega), if_pos (by omega), if_pos (by omega)]
      unfold impl_has_1.f
      rw [if_neg hL]
      by_cases c2 : (el l i).f0 > p
      · rw [if_pos c2, Option.bind_some]
        refine ⟨_, _, rfl, ?_⟩
        have : ¬ Has l p := by
          rintro ⟨x, hx, h1, h2⟩
          by_cases hxi : x < i
          · have := hlo x hxi; omega
          · have hr := good_rise hg (x - i) i (by omega)
            rw [show i + (x - i) = x by omega] at hr
            omega
        simp [this]
      · rw [if_neg c2, Option.bind_some]
        refine ⟨_, _, rfl, ?_⟩
        have : Has l p := ⟨i, c, by omega, by omega⟩
        simp [this]
    · rw [if_neg (by omega)]
      refine ⟨_, _, rfl, ?_⟩
      have : ¬ Has l p := by
        rintro ⟨x, hx, h1, h2⟩
        have := hlo x (by omega); omega
      simp [this]
  | succ d ih =>
    intro i j k hd hij hj hk hlo hhi
    by_cases c : i < j
    · obtain ⟨k, rfl⟩ : ∃ m, k = m + 1 := ⟨k - 1, by omega⟩
      have hm := mid i j (by omega) c
      have hm1 : i ≤ (i + j) / 2 := by omega
      have hm2 : (i + j) / 2 < j := by omega
      rw [impl_Span_int64.l0, hm, if_pos (by omega), if_pos (by omega), if_pos (by omega), w64s (n := (i + j) / 2) (m := l.length) (by omega) (by omega)]
      have hmono : ∀ (e x : Nat), x + e < l.length → (el l x).f1 ≤ (el l (x + e)).f1 := by
        intro e x he
        cases e with
        | zero => exact Int.le_refl _
        | succ e =>
          have h1 := (hg x (by omega)).2.1
          have hr := good_rise hg e (x + 1) (by omega)
          have h2 := (hg (x + 1) (by omega)).2.2.2 (by omega)
          have h3 := (hg (x + (e + 1)) he).2.1
          rw [show x + 1 + e = x + (e + 1) by omega] at hr
          rw [show x + 1 - 1 = x by omega] at h2
          omega
      generalize hM : (i + j) / 2 = m at hm1 hm2
      unfold impl_has_1.f
      by_cases a : (el l m).f1 < p
      · rw [if_pos a, Option.bind_some, if_pos (by decide)]
        refine ih (m + 1) j k (by omega) (by omega) hj (by omega) (fun x hx => ?_) hhi
        have := hmono (m - x) x (by omega)
        rw [show x + (m - x) = m by omega] at this
        omega
      · rw [if_neg a]
        have hb : ∃ t : Int, (if (rd_T57 l (m : Int)).f0 > p then some 1 else some 0) = some t ∧ ¬ t < 0 := by
          by_cases c3 : (rd_T57 l (m : Int)).f0 > p
          · exact ⟨1, if_pos c3, by decide⟩
          · exact ⟨0, if_neg c3, by decide⟩
        obtain ⟨t, ht, hn⟩ := hb
        rw [ht, Option.bind_some, if_neg hn]
        refine ih i m k (by omega) (by omega) (by omega) (by omega) hlo (fun x h1 h2 => ?_)
        have := hmono (x - m) m (by omega)
        rw [show m + (x - m) = x by omega] at this
        omega
    · obtain rfl : i = j := by omega
      obtain ⟨k, rfl⟩ : ∃ m, k = m + 1 := ⟨k - 1, by omega⟩
      exact ih i i (k + 1) (by omega) (Nat.le_refl _) hj (by omega) hlo hhi
open Classical in
noncomputable def hasB (l : List Sp) (p : Int) : Bool := decide (Has l p)
theorem hasB_iff (l : List Sp) (p : Int) : hasB l p = true ↔ Has l p := by simp [hasB]
theorem has_ev (l : List Sp) (p : Int) (hl : l.length ≤ 1048576) (hg : Good l) : Ev (fun k => impl_has.f k l p) (hasB l p) := by
  refine from_ (l.length + 2) (fun k hk => ?_)
  obtain ⟨q, b, h, hi⟩ := has_impl l p hl hg l.length 0 l.length k (by omega) (by omega) (Nat.le_refl _) (by omega) (fun x hx => by omega) (fun x h1 h2 => by omega)
  have e : b = hasB l p := by rw [Bool.eq_iff_iff, hi, hasB_iff]
  unfold impl_has.f impl_Span_int64.f
  have h' : impl_Span_int64.l0 k l p (l.length : Int) 0 (l.length : Int) = some (q, b) := h
  rw [h', Option.bind_some, e]
/-! ### rows of spans, point by point -/
def blockC (out : List Sp) (p q : Int) : List Sp :=
  if (out.length : Int) > 0 then (if (rdP out ((out.length : Int) - 1)).f1 = p - 1 then out.set ((out.length : Int) - 1).toNat ⟨(rdP out ((out.length : Int) - 1)).f0, q, (rdP out ((out.length : Int) - 1)).f2⟩ else out ++ [⟨p, q, 1⟩]) else out ++ [⟨p, q, 1⟩]
def stepC (out : List Sp) (p : Int) (b : Bool) : List Sp := if b = true then blockC out p p else out
def foldC (g : Int → Bool) : Nat → Int → List Sp → List Sp
  | 0, _, out => out
  | n + 1, p, out => foldC g n (p + 1) (stepC out p (g p))
theorem foldC_false (g : Int → Bool) : ∀ (n : Nat) (p : Int) (out : List Sp), (∀ q, p ≤ q → q < p + n → g q = false) → foldC g n p out = out
  | 0, _, _, _ => rfl
  | n + 1, p, out, h => by
    have h0 := h p (Int.le_refl _) (by omega)
    rw [foldC, stepC, h0, if_neg (by decide)]
    exact foldC_false g n (p + 1) out (fun q h1 h2 => h q (by omega) (by omega))
theorem foldC_add (g : Int → Bool) : ∀ (m n : Nat) (p : Int) (out : List Sp), foldC g (m + n) p out = foldC g n (p + m) (foldC g m p out)
  | 0, n, p, out => by simp [foldC]
  | m + 1, n, p, out => by
    rw [show m + 1 + n = (m + n) + 1 by omega, foldC, foldC, foldC_add g m n (p + 1), show p + 1 + (m : Int) = p + ((m + 1 : Nat) : Int) by omega]
/-- How a row with something in it ends. -/
theorem row_cases (out : List Sp) : out = [] ∨ ∃ R s, out = R ++ [s] := by
  rcases List.eq_nil_or_concat out with h | ⟨R, s, h⟩
  · exact .inl h
  · exact .inr ⟨R, s, by simpa using h⟩
theorem last_rd (R : List Sp) (s : Sp) : rdP (R ++ [s]) (((R ++ [s]).length : Int) - 1) = s := by
  have : (((R ++ [s]).length : Int) - 1) = ((R.length : Nat) : Int) := by simp
  rw [this]
  have h : R.length < (R ++ [s]).length := by simp
  have := el_eq (R ++ [s]) R.length h
  rw [show rdP (R ++ [s]) ((R.length : Nat) : Int) = el (R ++ [s]) R.length from rfl, this]
  simp
theorem last_set (R : List Sp) (s t : Sp) : (R ++ [s]).set (((R ++ [s]).length : Int) - 1).toNat t = R ++ [t] := by
  have : (((R ++ [s]).length : Int) - 1).toNat = R.length := by simp
  rw [this]
  simp
theorem last_pos (R : List Sp) (s : Sp) : ((R ++ [s]).length : Int) > 0 := by simp
theorem blockC_nil (p q : Int) : blockC [] p q = [⟨p, q, 1⟩] := by simp [blockC]
theorem blockC_on (R : List Sp) (s : Sp) (p q : Int) : blockC (R ++ [s]) p q = if s.f1 = p - 1 then R ++ [⟨s.f0, q, s.f2⟩] else (R ++ [s]) ++ [⟨p, q, 1⟩] := by
  unfold blockC
  rw [if_pos (last_pos R s), last_rd, last_set]
theorem stepR_nil (p v : Int) : stepR [] p v = [⟨p, p, v⟩] := by simp [stepR]
theorem stepR_on (R : List Sp) (s : Sp) (p v : Int) : stepR (R ++ [s]) p v = if s.f2 = v then R ++ [⟨s.f0, p, s.f2⟩] else (R ++ [s]) ++ [⟨p, p, v⟩] := by
  unfold stepR
  rw [if_pos (last_pos R s), last_rd, last_set]
theorem blockC_twice (out : List Sp) (p q r : Int) : blockC (blockC out p q) (q + 1) r = blockC out p r := by
  have e : q = q + 1 - 1 := by omega
  rcases row_cases out with rfl | ⟨R, s, rfl⟩
  · rw [blockC_nil, blockC_nil, show [(⟨p, q, 1⟩ : Sp)] = [] ++ [⟨p, q, 1⟩] from rfl, blockC_on, if_pos e]
    rfl
  · rw [blockC_on, blockC_on]
    by_cases c : s.f1 = p - 1
    · rw [if_pos c, if_pos c, blockC_on, if_pos e]
    · rw [if_neg c, if_neg c, blockC_on, if_pos e]
theorem foldC_block (g : Int → Bool) : ∀ (n : Nat) (p : Int) (out : List Sp), (∀ q, p ≤ q → q < p + ((n + 1 : Nat) : Int) → g q = true) → foldC g (n + 1) p out = blockC out p (p + n)
  | 0, p, out, h => by
    rw [foldC, foldC, stepC, h p (Int.le_refl _) (by omega), if_pos rfl]
    simp
  | n + 1, p, out, h => by
    rw [foldC, stepC, h p (Int.le_refl _) (by omega), if_pos rfl, foldC_block g n (p + 1) _ (fun q h1 h2 => h q (by omega) (by omega)), blockC_twice]
    congr 1
    omega
theorem blockC_len (out : List Sp) (p q : Int) : (blockC out p q).length ≤ out.length + 1 := by
  rcases row_cases out with rfl | ⟨R, s, rfl⟩
  · rw [blockC_nil]; simp
  · rw [blockC_on]; split <;> simp
theorem stepC_len (out : List Sp) (p : Int) (b : Bool) : (stepC out p b).length ≤ out.length + 1 := by
  unfold stepC; split
  · exact blockC_len _ _ _
  · omega
theorem foldC_len (g : Int → Bool) : ∀ (n : Nat) (p : Int) (out : List Sp), (foldC g n p out).length ≤ out.length + n
  | 0, p, out => by simp [foldC]
  | n + 1, p, out => by
    have h1 := foldC_len g n (p + 1) (stepC out p (g p))
    have h2 := stepC_len out p (g p)
    rw [foldC]; omega
/-! ### the values' spans, of which those with the value 1 are kept -/
def keep1 (s : Sp) : Bool := decide (s.f2 = 1)
def b1 (b : Bool) : Int := if b = true then 1 else 0
/-- What the row of the values' spans is, up to p. -/
def Upto (R : List Sp) (p : Int) : Prop := R = [] ∨ ∃ R' s, R = R' ++ [s] ∧ s.f1 = p - 1 ∧ ∀ t ∈ R', t.f1 < p - 1
theorem upto_step (R : List Sp) (p : Int) (b : Bool) (h : Upto R p) : Upto (stepR R p (b1 b)) (p + 1) ∧ (stepR R p (b1 b)).filter keep1 = stepC (R.filter keep1) p b := by
  rcases h with rfl | ⟨R', s, rfl, hs, ht⟩
  · rw [stepR_nil]
    refine ⟨.inr ⟨[], ⟨p, p, b1 b⟩, rfl, by show p = p + 1 - 1; omega, fun t h => by cases h⟩, ?_⟩
    cases b
    · simp [keep1, b1, stepC]
    · simp [keep1, b1, stepC, blockC]
  · rw [stepR_on, List.filter_append]
    have hnew : blockC (R'.filter keep1) p p = R'.filter keep1 ++ [⟨p, p, 1⟩] := by
      rcases row_cases (R'.filter keep1) with h | ⟨C, t, h⟩
      · rw [h, blockC_nil]; rfl
      · rw [h, blockC_on]
        have htm : t ∈ R' := (List.mem_filter.1 (show t ∈ R'.filter keep1 from by rw [h]; simp)).1
        have := ht t htm
        rw [if_neg (by omega)]
    by_cases c : s.f2 = b1 b
    · rw [if_pos c]
      refine ⟨.inr ⟨R', _, rfl, by show p = p + 1 - 1; omega, fun t h => by have := ht t h; omega⟩, ?_⟩
      rw [List.filter_append]
      cases b
      · have c0 : s.f2 = 0 := c
        simp [keep1, c0, stepC]
      · have c1 : s.f2 = 1 := c
        have e1 : [s].filter keep1 = [s] := by simp [keep1, c1]
        have e2 : [(⟨s.f0, p, s.f2⟩ : Sp)].filter keep1 = [⟨s.f0, p, s.f2⟩] := by simp [keep1, c1]
        rw [e1, e2, stepC, if_pos rfl, blockC_on, if_pos hs]
    · rw [if_neg c]
      refine ⟨.inr ⟨R' ++ [s], _, rfl, by show p = p + 1 - 1; omega, fun t h => ?_⟩, ?_⟩
      · rcases List.mem_append.1 h with h | h
        · have := ht t h; omega
        · rw [List.mem_singleton.1 h]; omega
      · rw [List.filter_append, List.filter_append]
        cases b
        · simp [keep1, b1, stepC]
        · have c1 : ¬ s.f2 = 1 := c
          have e1 : [s].filter keep1 = [] := by simp [keep1, c1]
          have e2 : [(⟨p, p, b1 true⟩ : Sp)].filter keep1 = [⟨p, p, 1⟩] := by simp [keep1, b1]
          rw [e1, e2, List.append_nil, stepC, if_pos rfl, hnew]
def ptsFrom (g : Int → Bool) : Nat → Int → List Int
  | 0, _ => []
  | n + 1, p => b1 (g p) :: ptsFrom g n (p + 1)
theorem keep_fold (g : Int → Bool) : ∀ (n : Nat) (p : Int) (R : List Sp), Upto R p → (foldR (ptsFrom g n p) p R).filter keep1 = foldC g n p (R.filter keep1)
  | 0, p, R, _ => rfl
  | n + 1, p, R, h => by
    obtain ⟨h1, h2⟩ := upto_step R p (g p) h
    rw [ptsFrom, foldR, foldC, keep_fold g n (p + 1) _ h1, h2]
theorem ptsFrom_len (g : Int → Bool) : ∀ (n : Nat) (p : Int), (ptsFrom g n p).length = n
  | 0, _ => rfl
  | n + 1, p => by rw [ptsFrom, List.length_cons, ptsFrom_len g n]
theorem ptsFrom_get (g : Int → Bool) : ∀ (n : Nat) (p : Int) (j : Nat) (h : j < (ptsFrom g n p).length), (ptsFrom g n p)[j] = b1 (g (p + j))
  | 0, _, j, h => by rw [ptsFrom_len] at h; omega
  | n + 1, p, 0, h => by simp [ptsFrom]
  | n + 1, p, j + 1, h => by
    simp only [ptsFrom, List.getElem_cons_succ]
    rw [ptsFrom_get g n (p + 1) j (by simpa [ptsFrom] using h)]
    congr 2
    omega
/-! ### tables of values -/
def tab (N : Nat) (f : Nat → Int) : List Int := (List.range N).map f
theorem tab_len (N : Nat) (f : Nat → Int) : (tab N f).length = N := by simp [tab]
theorem tab_get (N : Nat) (f : Nat → Int) (i : Nat) (h : i < (tab N f).length) : (tab N f)[i] = f i := by simp [tab]
theorem tab_rd (N : Nat) (f : Nat → Int) (i : Nat) (h : i < N) : rd (tab N f) (i : Int) = f i := by
  rw [rd_nat _ i (by rw [tab_len]; exact h), tab_get]
theorem tab_set (N : Nat) (f : Nat → Int) (i : Nat) (y : Int) : (tab N f).set i y = tab N (fun p => if p = i then y else f p) := by
  refine List.ext_getElem (by simp [tab]) (fun j h1 h2 => ?_)
  have e := tab_get N (fun p => if p = i then y else f p) j h2
  rw [List.getElem_set, e]
  by_cases c : i = j
  · rw [if_pos c, if_pos c.symm]
  · rw [if_neg c, if_neg (fun h => c h.symm), tab_get]
theorem tab_congr (N : Nat) (f g : Nat → Int) (h : ∀ p, p < N → f p = g p) : tab N f = tab N g := List.map_congr_left fun p hp => h p (by simpa using hp)
theorem tab_of (N : Nat) (l : List Int) (f : Nat → Int) (hl : l.length = N) (h : ∀ j (hj : j < l.length), l[j] = f j) : l = tab N f := by
  refine List.ext_getElem (by rw [tab_len, hl]) (fun j h1 h2 => ?_)
  rw [h j h1, tab_get]
/-- The values after the first i spans. -/
def valF (l : List Sp) (other : Int) : Nat → Nat → Int
  | 0, _ => other
  | i + 1, p => if (el l i).f0 ≤ (p : Int) ∧ (p : Int) ≤ (el l i).f1 then (el l i).f2 else valF l other i p
theorem val_l2 (l : List Sp) (other : Int) (N : Nat) (hN : N = 32768) (hl : l.length ≤ 1048576) (hg : Good l) (i : Nat) (hi : i < l.length) (r : List Int) (hr : Ev (fun k => spec_l04Values.l1 k l (tab N (valF l other (i + 1))) ((i + 1 : Nat) : Int)) r) : ∀ (d q : Nat), (q : Int) + d = (el l i).f1 + 1 → (el l i).f0 ≤ (q : Int) →
    Ev (fun k => spec_l04Values.l2 k l (tab N (fun p => if (el l i).f0 ≤ (p : Int) ∧ p < q then (el l i).f2 else valF l other i p)) (i : Int) (q : Int)) r := by
  have hgi := hg i hi
  intro d
  induction d with
  | zero =>
    intro q hq h0
    refine succ_ ?_
    have e : tab N (fun p => if (el l i).f0 ≤ (p : Int) ∧ p < q then (el l i).f2 else valF l other i p) = tab N (valF l other (i + 1)) := by
      refine tab_congr N _ _ (fun p _ => ?_)
      simp only [valF]
      by_cases c : (el l i).f0 ≤ (p : Int) ∧ p < q
      · rw [if_pos c, if_pos ⟨c.1, by omega⟩]
      · rw [if_neg c, if_neg (fun h => c ⟨h.1, by omega⟩)]
    rw [e]
    simp only [spec_l04Values.l2, if_pos (show (0 : Int) ≤ (i : Int) by omega), if_pos (show (i : Int) < (l.length : Int) by omega), if_neg (show ¬ (q : Int) ≤ (el l i).f1 by omega), w64s hi (by omega)]
    exact hr
  | succ d ih =>
    intro q hq h0
    refine succ_ ?_
    have hq2 : (q : Int) ≤ (el l i).f1 := by omega
    have h2 := hgi.2.2.1
    have hw : wrap64 ((q : Int) + 1) = ((q + 1 : Nat) : Int) := by rw [w64 (by omega) (by omega)]; omega
    have hlen : (tab N (fun p => if (el l i).f0 ≤ (p : Int) ∧ p < q then (el l i).f2 else valF l other i p)).length = N := tab_len N _
    simp only [spec_l04Values.l2, if_pos (show (0 : Int) ≤ (i : Int) by omega), if_pos (show (i : Int) < (l.length : Int) by omega), if_pos (show (q : Int) ≤ (el l i).f1 by omega), if_pos (show (0 : Int) ≤ (q : Int) by omega), hlen, if_pos (show (q : Int) < (N : Int) by omega), Int.toNat_natCast, hw, tab_set]
    have e : tab N (fun p => if p = q then (el l i).f2 else if (el l i).f0 ≤ (p : Int) ∧ p < q then (el l i).f2 else valF l other i p) = tab N (fun p => if (el l i).f0 ≤ (p : Int) ∧ p < q + 1 then (el l i).f2 else valF l other i p) := by
      refine tab_congr N _ _ (fun p _ => ?_)
      by_cases c : p = q
      · subst c
        rw [if_pos rfl, if_pos ⟨h0, by omega⟩]
      · rw [if_neg c]
        by_cases c2 : (el l i).f0 ≤ (p : Int) ∧ p < q
        · rw [if_pos c2, if_pos ⟨c2.1, by omega⟩]
        · rw [if_neg c2, if_neg (fun h => c2 ⟨h.1, by omega⟩)]
    have := ih (q + 1) (by omega) (by omega)
    rw [← e] at this
    exact this
theorem val_l1 (l : List Sp) (other : Int) (N : Nat) (hN : N = 32768) (hl : l.length ≤ 1048576) (hg : Good l) : ∀ (d i : Nat), i + d = l.length → Ev (fun k => spec_l04Values.l1 k l (tab N (valF l other i)) (i : Int)) (tab N (valF l other l.length)) := by
  intro d
  induction d with
  | zero =>
    intro i hi
    obtain rfl : i = l.length := by omega
    refine succ_ ?_
    simp only [spec_l04Values.l1, if_neg (show ¬ (l.length : Int) < (l.length : Int) by omega)]
    exact Ev.now _
  | succ d ih =>
    intro i hi
    have hlt : i < l.length := by omega
    have hgi := hg i hlt
    refine succ_ ?_
    simp only [spec_l04Values.l1, if_pos (show (i : Int) < (l.length : Int) by omega), if_pos (show (0 : Int) ≤ (i : Int) by omega)]
    have h0 := hgi.1
    have h1 := hgi.2.1
    obtain ⟨q, hq⟩ : ∃ q : Nat, (el l i).f0 = (q : Int) := ⟨(el l i).f0.toNat, by omega⟩
    have := val_l2 l other N hN hl hg i hlt _ (ih (i + 1) (by omega)) ((el l i).f1 + 1 - (el l i).f0).toNat q (by omega) (by omega)
    have e : tab N (fun p => if (el l i).f0 ≤ (p : Int) ∧ p < q then (el l i).f2 else valF l other i p) = tab N (valF l other i) := tab_congr N _ _ (fun p _ => if_neg (fun h => by omega))
    rw [e, ← hq] at this
    exact this
theorem val_l0 (l : List Sp) (other : Int) (N : Nat) (hN : N = 32768) (hl : l.length ≤ 1048576) (hg : Good l) : ∀ (d j : Nat), j + d = N → Ev (fun k => spec_l04Values.l0 k l other (tab N (fun p => if p < j then other else 0)) (j : Int)) (tab N (valF l other l.length)) := by
  intro d
  induction d with
  | zero =>
    intro j hj
    refine succ_ ?_
    have e : tab N (fun p => if p < j then other else 0) = tab N (valF l other 0) := tab_congr N _ _ (fun p hp => by simp only [valF]; rw [if_pos (by omega)])
    rw [e]
    simp only [spec_l04Values.l0, if_neg (show ¬ (j : Int) ≤ 32767 by omega)]
    exact val_l1 l other N hN hl hg l.length 0 (by omega)
  | succ d ih =>
    intro j hj
    refine succ_ ?_
    have hw : wrap64 ((j : Int) + 1) = ((j + 1 : Nat) : Int) := by rw [w64 (by omega) (by omega)]; omega
    have hlen : (tab N (fun p => if p < j then other else 0)).length = N := tab_len N _
    simp only [spec_l04Values.l0, if_pos (show (j : Int) ≤ 32767 by omega), if_pos (show (0 : Int) ≤ (j : Int) by omega), hlen, if_pos (show (j : Int) < (N : Int) by omega), Int.toNat_natCast, hw, tab_set]
    have e : tab N (fun p => if p = j then other else if p < j then other else 0) = tab N (fun p => if p < j + 1 then other else 0) := by
      refine tab_congr N _ _ (fun p _ => ?_)
      by_cases c : p = j
      · rw [if_pos c, if_pos (by omega)]
      · rw [if_neg c]
        by_cases c2 : p < j
        · rw [if_pos c2, if_pos (by omega)]
        · rw [if_neg c2, if_neg (by omega)]
    rw [e]
    exact ih (j + 1) (by omega)
theorem values_ev (l : List Sp) (other : Int) (N : Nat) (hN : N = 32768) (hl : l.length ≤ 1048576) (hg : Good l) : Ev (fun k => spec_l04Values.f k l other) (tab N (valF l other l.length)) := by
  have h := val_l0 l other N hN hl hg N 0 (by omega)
  have e : tab N (fun p => if p < 0 then other else 0) = List.replicate N 0 := by
    refine List.ext_getElem (by simp [tab]) (fun j h1 h2 => ?_)
    rw [tab_get, if_neg (by omega), List.getElem_replicate]
  rw [e, hN] at h
  unfold spec_l04Values.f
  simp only [if_pos (show 32768 ≤ 35184372088832 by omega)]
  rw [hN]
  exact h
end Go.Proofs.Ytogdmjcdfjnifaa.PFnExactLessSets

/- The forms of letters that join: both texts' rows are the same. -/
import Derived.Test.YtmlhnpggjkoinaaDoorJoinsGlyphsOf
set_option linter.unusedSimpArgs false
set_option linter.unusedVariables false
namespace Go.Proofs.YtmlhnpggjkoinaaDoor.PFnExactGlyphsOf
open Go.RowKit Go.Proofs.YtmlhnpggjkoinaaDoorW.PrintWords Go.Proofs.YtmlhnpggjkoinaaDoorW.PrintLast Go.Proofs.YtmlhnpggjkoinaaDoorW.PrintMore Go.Proofs.YtmlhnpggjkoinaaDoor.Lib

/-- The forms behind a join of 'a' with 'n'. -/
def joinF (l : List Int) (a n : Nat) (out : List Int) : List Int :=
  let o1 := if lt5 (rd l a) = true then out.set a (if rd out a = 3 then 2 else 1) else out
  if lt5 (rd l n) = true then o1.set n 3 else o1
/-- One step: the last that joins ('none': there is none yet) and the forms. -/
def stepF (l : List Int) (n : Nat) (last : Option Nat) (out : List Int) : Option Nat × List Int :=
  if jt (rd l n) < 0 then (last, out) else
    (some n, match last with
      | none => out
      | some a => if jt (rd l a) = 3 ∧ jt (rd l n) ≥ 2 then joinF l a n out else out)
def runF (l : List Int) : Nat → Nat → Option Nat → List Int → List Int
  | 0, _, _, out => out
  | d + 1, n, last, out => runF l d (n + 1) (stepF l n last out).1 (stepF l n last out).2
/-- The forms of points. -/
def formsF (l : List Int) : List Int := runF l l.length 0 none (List.replicate l.length 0)
def lastI : Option Nat → Int
  | none => -1
  | some a => (a : Int)
theorem joinF_len (l : List Int) (a n : Nat) (out : List Int) : (joinF l a n out).length = out.length := by
  unfold joinF; dsimp only; split <;> split <;> simp
theorem stepF_len (l : List Int) (n : Nat) (last : Option Nat) (out : List Int) : (stepF l n last out).2.length = out.length := by
  unfold stepF
  split
  · rfl
  · cases last with
    | none => rfl
    | some a => dsimp only; split
                · exact joinF_len l a n out
                · rfl
theorem runF_len (l : List Int) : ∀ d n last out, (runF l d n last out).length = out.length := by
  intro d; induction d with
  | zero => intro n last out; rfl
  | succ d ih => intro n last out; rw [runF, ih, stepF_len]
theorem formsF_len (l : List Int) : (formsF l).length = l.length := by rw [formsF, runF_len, List.length_replicate]
theorem stepF_last (l : List Int) (n : Nat) (last : Option Nat) (out : List Int) (h : ∀ a, last = some a → a < n) : ∀ a, (stepF l n last out).1 = some a → a < n + 1 := by
  intro a
  unfold stepF
  split
  · intro e; have := h a e; omega
  · intro e; injection e with e; omega
theorem rd_set_self (xs : List Int) (i : Nat) (x : Int) (h : i < xs.length) : rd (xs.set i x) (i : Int) = x := by
  rw [rd_nat _ _ (by simpa using h)]; simp
theorem rd_set_other (xs : List Int) (i j : Nat) (x : Int) (h : i ≠ j) : rd (xs.set i x) (j : Int) = rd xs (j : Int) := by
  unfold rd; simp [h]
/-- What the row says of places that are not written yet, and of the last that joins. -/
def Inv (n : Nat) (last : Option Nat) (out : List Int) : Prop := (∀ j : Nat, n ≤ j → rd out (j : Int) = 0) ∧ ∀ a, last = some a → rd out (a : Int) = 0 ∨ rd out (a : Int) = 3
theorem stepF_inv (l : List Int) (n : Nat) (last : Option Nat) (out : List Int) (hl : ∀ a, last = some a → a < n) (hn : n < out.length) (h : Inv n last out) : Inv (n + 1) (stepF l n last out).1 (stepF l n last out).2 := by
  unfold stepF
  split
  · exact ⟨fun j hj => h.1 j (by omega), h.2⟩
  · cases last with
    | none => exact ⟨fun j hj => h.1 j (by omega), fun a e => by injection e with e; subst e; exact .inl (h.1 n (Nat.le_refl _))⟩
    | some a =>
      have ha := hl a rfl
      dsimp only
      split
      · unfold joinF
        dsimp only
        refine ⟨fun j hj => ?_, fun b e => ?_⟩
        · have h0 := h.1 j (by omega)
          split <;> split <;> first | exact h0 | (simp only [rd_set_other _ _ _ _ (show n ≠ j by omega), rd_set_other _ _ _ _ (show a ≠ j by omega)]; exact h0)
        · injection e with e
          subst e
          split
          · right; split
            · exact rd_set_self _ _ _ (by simpa using hn)
            · exact rd_set_self _ _ _ hn
          · left; split
            · rw [rd_set_other _ _ _ _ (show a ≠ n by omega)]; exact h.1 n (Nat.le_refl _)
            · exact h.1 n (Nat.le_refl _)
      · exact ⟨fun j hj => h.1 j (by omega), fun b e => by injection e with e; subst e; exact .inl (h.1 n (Nat.le_refl _))⟩
theorem join_impl (l : List Int) (a n : Nat) (out : List Int) (ha : a < l.length) (hn : n < l.length) (ho : out.length = l.length) : impl_formsOf_1.f (a : Int) (n : Int) l out = some (joinF l a n out) := by
  unfold impl_formsOf_1.f joinF lt5
  simp only [jin, Option.bind_some, Int.toNat_natCast, decide_eq_true_eq]
  have a0 : 0 ≤ (a : Int) := Int.natCast_nonneg a
  have n0 : 0 ≤ (n : Int) := Int.natCast_nonneg n
  have a1 : (a : Int) < (l.length : Int) := by omega
  have n1 : (n : Int) < (l.length : Int) := by omega
  have a2 : (a : Int) < (out.length : Int) := by omega
  have n2 : (n : Int) < (out.length : Int) := by omega
  simp only [if_pos a0, if_pos n0, if_pos a1, if_pos n1, if_pos a2, if_pos n2]
  by_cases c1 : 1280 ≤ rd l a ∧ rd l a ≤ 1311
  · by_cases c2 : rd out a = 3
    · by_cases c3 : 1280 ≤ rd l n ∧ rd l n ≤ 1311
      · simp only [if_pos c1, if_pos c2, if_pos c3]
      · simp only [if_pos c1, if_pos c2, if_neg c3]
    · by_cases c3 : 1280 ≤ rd l n ∧ rd l n ≤ 1311
      · simp only [if_pos c1, if_neg c2, if_pos c3]
      · simp only [if_pos c1, if_neg c2, if_neg c3]
  · by_cases c3 : 1280 ≤ rd l n ∧ rd l n ≤ 1311
    · simp only [if_neg c1, if_pos c3]
    · simp only [if_neg c1, if_neg c3]
theorem forms_l0 (l : List Int) (hl : l.length ≤ 1048576) (hp : ∀ p ∈ l, isPt p = true) : ∀ (d n k : Nat) (last : Option Nat) (out : List Int), n + d = l.length → d + 43 ≤ k → out.length = l.length → (∀ a, last = some a → a < n) →
    impl_formsOf.l0 k (lastI last) l (l.length : Int) (n : Int) l out = some (runF l d n last out) := by
  have bd : ∀ n : Nat, n < l.length → -9223372036854775808 ≤ rd l (n : Int) ∧ rd l (n : Int) ≤ 9223372036854775807 := by
    intro n hn
    rw [rd_nat l n hn]
    have := (isPt_iff _).1 (hp _ (List.getElem_mem hn))
    omega
  intro d
  induction d with
  | zero =>
    intro n k last out hd hk ho hla
    obtain ⟨k, rfl⟩ : ∃ m, k = m + 1 := ⟨k - 1, by omega⟩
    rw [impl_formsOf.l0, if_neg (by omega)]; rfl
  | succ d ih =>
    intro n k last out hd hk ho hla
    obtain ⟨k, rfl⟩ : ∃ m, k = m + 1 := ⟨k - 1, by omega⟩
    have e := w64s (n := n) (m := l.length) (by omega) (by omega)
    rw [impl_formsOf.l0, if_pos (by omega), if_pos (by omega), if_pos (by omega), joins_impl k (by omega) _ (bd n (by omega))]
    simp only [Option.bind_some, e]
    have go : ∀ last' out', (stepF l n last out) = (last', out') → impl_formsOf.l0 k (lastI last') l (l.length : Int) ((n + 1 : Nat) : Int) l out' = some (runF l (d + 1) n last out) := by
      intro last' out' es
      have h1 := stepF_last l n last out hla
      have h2 := stepF_len l n last out
      rw [runF, es]
      rw [es] at h1 h2
      exact ih (n + 1) k last' out' (by omega) (by omega) (by dsimp only at h2; omega) h1
    by_cases c : jt (rd l n) < 0
    · rw [if_pos c]
      exact go last out (by unfold stepF; rw [if_pos c])
    · rw [if_neg c]
      cases last with
      | none =>
        rw [if_neg (by simp [lastI])]
        exact go (some n) out (by unfold stepF; rw [if_neg c])
      | some a =>
        have ha := hla a rfl
        rw [show lastI (some a) = (a : Int) from rfl]
        rw [if_pos (show (a : Int) ≥ 0 by omega), if_pos (show 0 ≤ (a : Int) by omega), if_pos (show (a : Int) < (l.length : Int) by omega), joins_impl k (by omega) _ (bd a (by omega))]
        simp only [Option.bind_some]
        by_cases c2 : jt (rd l a) = 3
        · rw [if_pos c2]
          by_cases c3 : jt (rd l n) ≥ 2
          · rw [if_pos c3, join_impl l a n out (by omega) (by omega) ho]
            simp only [Option.bind_some]
            exact go (some n) _ (by unfold stepF; rw [if_neg c]; dsimp only; rw [if_pos ⟨c2, c3⟩])
          · rw [if_neg c3]
            exact go (some n) out (by unfold stepF; rw [if_neg c]; dsimp only; rw [if_neg (fun h => c3 h.2)])
        · rw [if_neg c2]
          exact go (some n) out (by unfold stepF; rw [if_neg c]; dsimp only; rw [if_neg (fun h => c2 h.1)])
theorem forms_impl (l : List Int) (hl : l.length ≤ 1048576) (hp : ∀ p ∈ l, isPt p = true) (k : Nat) (hk : l.length + 43 ≤ k) : impl_formsOf.f k l = some (formsF l) := by
  unfold impl_formsOf.f formsF
  rw [if_pos (by omega), if_pos (by omega)]
  simp only [Int.toNat_natCast]
  exact forms_l0 l hl hp l.length 0 k none _ (by omega) hk (by simp) (fun a e => by cases e)
theorem tab_spec (x : Int) (h : x = 0 ∨ x = 3) : rd [1, 1, 2, 2] x = if x = 3 then 2 else 1 := by
  rcases h with rfl | rfl <;> rfl
theorem formsS_l0 (l : List Int) (hl : l.length ≤ 1048576) (hp : ∀ p ∈ l, isPt p = true) : ∀ (d n k : Nat) (last : Option Nat) (out : List Int), n + d = l.length → 2 * d + 43 ≤ k → out.length = l.length → (∀ a, last = some a → a < n) → Inv n last out →
    spec_l10Forms.l0 k l out (lastI last) (n : Int) = some (runF l d n last out) := by
  have bd : ∀ n : Nat, n < l.length → -9223372036854775808 ≤ rd l (n : Int) ∧ rd l (n : Int) ≤ 9223372036854775807 := by
    intro n hn
    rw [rd_nat l n hn]
    have := (isPt_iff _).1 (hp _ (List.getElem_mem hn))
    omega
  intro d
  induction d with
  | zero =>
    intro n k last out hd hk ho hla hI
    obtain ⟨k, rfl⟩ : ∃ m, k = m + 1 := ⟨k - 1, by omega⟩
    rw [spec_l10Forms.l0, if_neg (by omega)]; rfl
  | succ d ih =>
    intro n k last out hd hk ho hla hI
    obtain ⟨k, rfl⟩ : ∃ m, k = m + 2 := ⟨k - 2, by omega⟩
    have e := w64s (n := n) (m := l.length) (by omega) (by omega)
    rw [spec_l10Forms.l0, if_pos (by omega), if_pos (by omega), joins_spec (k + 1) (by omega) _ (bd n (by omega))]
    simp only [Option.bind_some, e]
    have go : ∀ last' out', (stepF l n last out) = (last', out') → ∀ k', k ≤ k' → spec_l10Forms.l0 k' l out' (lastI last') ((n + 1 : Nat) : Int) = some (runF l (d + 1) n last out) := by
      intro last' out' es k' hk'
      have h1 := stepF_last l n last out hla
      have h2 := stepF_len l n last out
      have h3 := stepF_inv l n last out hla (by omega) hI
      rw [runF, es]
      rw [es] at h1 h2 h3
      exact ih (n + 1) k' last' out' (by omega) (by omega) (by dsimp only at h2; omega) h1 h3
    by_cases c : jt (rd l n) < 0
    · rw [if_pos c]
      exact go last out (by unfold stepF; rw [if_pos c]) _ (by omega)
    · rw [if_neg c]
      have noj : ∀ last', lastI last' = lastI last → (stepF l n last out) = (some n, out) → spec_l10Forms.j1 (k + 1) l out (lastI last) (n : Int) false = some (runF l (d + 1) n last out) := by
        intro last' el es
        rw [spec_l10Forms.j1, if_neg (by simp), e]
        exact go (some n) out es _ (by omega)
      cases last with
      | none =>
        rw [if_neg (by simp [lastI])]
        exact noj none rfl (by unfold stepF; rw [if_neg c])
      | some a =>
        have ha := hla a rfl
        rw [show lastI (some a) = (a : Int) from rfl] at noj ⊢
        rw [if_pos (show (a : Int) ≥ 0 by omega), if_pos (show 0 ≤ (a : Int) by omega), if_pos (show (a : Int) < (l.length : Int) by omega), joins_spec (k + 1) (by omega) _ (bd a (by omega))]
        simp only [Option.bind_some]
        by_cases c2 : jt (rd l a) = 3
        · rw [if_pos c2]
          by_cases c3 : jt (rd l n) ≥ 2
          · rw [decide_eq_true c3, spec_l10Forms.j1]
            have ia := hI.2 a rfl
            have ir : 0 ≤ rd out a ∧ rd out a < 4 := by rcases ia with h | h <;> rw [h] <;> decide
            have es : stepF l n (some a) out = (some n, joinF l a n out) := by unfold stepF; rw [if_neg c]; dsimp only; rw [if_pos ⟨c2, c3⟩]
            have g2 := go (some n) _ es k (Nat.le_refl _)
            rw [← g2]
            simp only [jletter, Option.bind_some, Int.toNat_natCast, e, if_true]
            have a0 : 0 ≤ (a : Int) := Int.natCast_nonneg a
            have n0 : 0 ≤ (n : Int) := Int.natCast_nonneg n
            have a1 : (a : Int) < (l.length : Int) := by omega
            have n1 : (n : Int) < (l.length : Int) := by omega
            have a2 : (a : Int) < (out.length : Int) := by omega
            have n2 : (n : Int) < (out.length : Int) := by omega
            have t1 : rd out a < ((([1, 1, 2, 2] : List Int).length : Nat) : Int) := by simpa using ir.2
            simp only [if_pos a0, if_pos n0, if_pos a1, if_pos n1, if_pos a2, if_pos n2, if_pos ir.1, if_pos t1, tab_spec _ ia]
            unfold joinF
            by_cases d1 : lt5 (rd l a) = true
            · by_cases d2 : lt5 (rd l n) = true
              · simp only [if_pos d1, if_pos d2, lastI]
              · simp only [if_pos d1, if_neg d2, lastI]
            · by_cases d2 : lt5 (rd l n) = true
              · simp only [if_neg d1, if_pos d2, lastI]
              · simp only [if_neg d1, if_neg d2, lastI]
          · rw [decide_eq_false c3]
            exact noj (some a) rfl (by unfold stepF; rw [if_neg c]; dsimp only; rw [if_neg (fun h => c3 h.2)])
        · rw [if_neg c2]
          exact noj (some a) rfl (by unfold stepF; rw [if_neg c]; dsimp only; rw [if_neg (fun h => c2 h.1)])
theorem forms_spec (l : List Int) (hl : l.length ≤ 1048576) (hp : ∀ p ∈ l, isPt p = true) (k : Nat) (hk : 2 * l.length + 43 ≤ k) : spec_l10Forms.f k l = some (formsF l) := by
  unfold spec_l10Forms.f formsF
  rw [if_pos (by omega), if_pos (by omega)]
  simp only [Int.toNat_natCast]
  refine formsS_l0 l hl hp l.length 0 k none _ (by omega) hk (by simp) (fun a e => by cases e) ⟨fun j hj => ?_, fun a e => by cases e⟩
  unfold rd
  simp only [Int.toNat_natCast, List.getD_eq_getElem?_getD, List.getElem?_replicate]
  split <;> rfl

end Go.Proofs.YtmlhnpggjkoinaaDoor.PFnExactGlyphsOf

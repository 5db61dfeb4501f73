/- Cuts of characters over a row of points: what each text's loops come to. -/
import Derived.Test.YtmlhnpggjkoinaaDoorCutAWords
import Derived.Test.YtmlhnpggjkoinaaDoorPointsWords
set_option linter.unusedSimpArgs false
set_option linter.unusedVariables false
namespace Go.Proofs.YtmlhnpggjkoinaaDoor.PFnExactWords
open Go.RowKit Go.Proofs.YtmlhnpggjkoinaaDoorW.PrintWords Go.Proofs.YtmlhnpggjkoinaaDoorW.PrintLast Go.Proofs.YtmlhnpggjkoinaaDoorW.PrintMore Go.Proofs.YtmlhnpggjkoinaaDoor.Lib

abbrev at0 (l : List Int) (i : Nat) : Int := l.getD i 0
def okPts (l : List Int) : Prop := ∀ p ∈ l, isPt p = true
theorem at0_eq (l : List Int) (i : Nat) (h : i < l.length) : at0 l i = l[i] := by simp [at0, List.getD_eq_getElem?_getD, List.getElem?_eq_getElem h]
theorem rd_at0 (l : List Int) (i : Nat) (h : i < l.length) : rd l (i : Int) = at0 l i := by rw [rd_nat l i h, at0_eq l i h]
theorem at0_bd {l : List Int} (hl : okPts l) (i : Nat) (h : i < l.length) : 0 ≤ at0 l i ∧ at0 l i ≤ 1114111 := by
  rw [at0_eq l i h]
  have := (isPt_iff _).1 (hl _ (List.getElem_mem h))
  omega
/-! what the loop keeps: after the first i points -/
def picS (l : List Int) : Nat → Bool
  | 0 => false
  | i + 1 => if cc (at0 l i) = 2 then picS l i else decide (cc (at0 l i) = 8)
def bindS (l : List Int) : Nat → Bool
  | 0 => false
  | i + 1 => if at0 l i = 1584 then true else if at0 l i = 1585 then bindS l i else false
def flagS (l : List Int) : Nat → Nat
  | 0 => 0
  | i + 1 => if cc (at0 l i) = 9 then flagS l i + 1 else 0
theorem flagS_le (l : List Int) : ∀ i, flagS l i ≤ i
  | 0 => Nat.le_refl _
  | i + 1 => by
    unfold flagS
    have := flagS_le l i
    split <;> omega
/-- Whether a cut is ahead of point i (but the first). -/
def cutAt (l : List Int) (i : Nat) : Bool := cutG (at0 l (i - 1)) (at0 l i) (cc (at0 l i)) (cc (at0 l (i - 1))) (bindS l i) (picS l i) (flagS l i)
/-- The row of which the first i have been told. -/
def rowB (l : List Int) (i : Nat) : List Bool := (List.range l.length).map (fun j => decide (0 < j) && decide (j < i) && cutAt l j)
theorem rowB_len (l : List Int) (i : Nat) : (rowB l i).length = l.length := by simp [rowB]
theorem rowB_zero (l : List Int) : rowB l 0 = List.replicate l.length false := by
  apply List.ext_getElem
  · simp [rowB]
  · intro j h1 h2; simp [rowB]
theorem rowB_one (l : List Int) : rowB l 1 = rowB l 0 := by
  apply List.ext_getElem
  · simp [rowB]
  · intro j h1 h2
    simp only [rowB, List.getElem_map, List.getElem_range]
    by_cases h : j = 0
    · subst h; rfl
    · have e1 : decide (j < 1) = false := by simp; omega
      have e2 : decide (j < 0) = false := by simp
      rw [e1, e2]
theorem rowB_set (l : List Int) (i : Nat) (h0 : 0 < i) (h : i < l.length) : (rowB l i).set i (cutAt l i) = rowB l (i + 1) := by
  apply List.ext_getElem
  · simp [rowB]
  · intro j h1 h2
    rw [List.getElem_set]
    simp only [rowB, List.getElem_map, List.getElem_range]
    by_cases e : i = j
    · subst e
      have e1 : decide (0 < i) = true := decide_eq_true h0
      have e2 : decide (i < i + 1) = true := decide_eq_true (by omega)
      rw [if_pos rfl, e1, e2]; rfl
    · rw [if_neg e]
      have e1 : decide (j < i + 1) = decide (j < i) := decide_eq_decide.2 (by omega)
      rw [e1]
/-- One round's end: the three that are kept. -/
theorem cuts_j1 (K : Nat) (l : List Int) (x : List Bool) (hl : l.length ≤ 1048576) (i : Nat) (hi : i < l.length) :
    impl_charCuts.j1 (K + 1) l x l (l.length : Int) (i : Int) (picS l i) (bindS l i) ((flagS l i : Nat) : Int) (at0 l i) (cc (at0 l i)) = impl_charCuts.l0 K l x l (l.length : Int) ((i + 1 : Nat) : Int) (picS l (i + 1)) (bindS l (i + 1)) ((flagS l (i + 1) : Nat) : Int) := by
  have hf := flagS_le l i
  have w1 : wrap64 (((flagS l i : Nat) : Int) + 1) = ((flagS l i + 1 : Nat) : Int) := w64s (m := 1048577) (by omega) (by omega)
  rw [impl_charCuts.j1, w64s hi (by omega), w1]
  have e8 : ∀ c : Int, (c == 8) = decide (c = 8) := fun c => by by_cases h : c = 8 <;> simp [h]
  simp only [picS, bindS, flagS, e8]
  generalize cc (at0 l i) = c
  generalize at0 l i = q
  by_cases a : c = 2
  · subst a
    by_cases b : q = 1584
    · simp [b]
    · by_cases e : q = 1585 <;> simp [b, e]
  · by_cases n9 : c = 9
    · subst n9
      by_cases b : q = 1584
      · simp [b]
      · by_cases e : q = 1585 <;> simp [b, e]
    · by_cases b : q = 1584
      · simp [a, n9, b]
      · by_cases e : q = 1585 <;> simp [a, n9, b, e]
theorem cuts_l0 (l : List Int) (hl : l.length ≤ 1048576) (hp : okPts l) : ∀ (d i k : Nat), i + d = l.length → 2 * d + 40 < k → impl_charCuts.l0 k l (rowB l i) l (l.length : Int) (i : Int) (picS l i) (bindS l i) ((flagS l i : Nat) : Int) = some (rowB l l.length) := by
  intro d
  induction d with
  | zero =>
    intro i k hn hk
    obtain ⟨k, rfl⟩ : ∃ m, k = m + 1 := ⟨k - 1, by omega⟩
    obtain rfl : i = l.length := by omega
    rw [impl_charCuts.l0, if_neg (by omega)]
  | succ d ih =>
    intro i k hn hk
    obtain ⟨k, rfl⟩ : ∃ m, k = m + 2 := ⟨k - 2, by omega⟩
    have hi : i < l.length := by omega
    have hb := at0_bd hp i hi
    rw [impl_charCuts.l0, if_pos (by omega), if_pos (by omega), if_pos (by omega), rd_at0 l i hi, cc_eq _ (by omega) _ (by omega), Option.bind_some]
    by_cases h0 : i = 0
    · rw [if_neg (by omega), cuts_j1 k l _ hl i hi]
      have e : rowB l i = rowB l (i + 1) := by subst h0; exact (rowB_one l).symm
      rw [e]
      exact ih (i + 1) k (by omega) (by omega)
    · have hw : wrap64 ((i : Int) - 1) = ((i - 1 : Nat) : Int) := by rw [w64 (by omega) (by omega)]; omega
      have hb1 := at0_bd hp (i - 1) (by omega)
      rw [if_pos (by omega), hw, if_pos (by omega), if_pos (by omega), rd_at0 l (i - 1) (by omega), cc_eq _ (by omega) _ (by omega), Option.bind_some, lit_eq _ (by omega) _ _ _ _ _ (by omega), Option.bind_some, if_pos (by rw [rowB_len]; omega), Int.toNat_natCast, show cutG (at0 l (i - 1)) (at0 l i) (cc (at0 l i)) (cc (at0 l (i - 1))) (bindS l i) (picS l i) (flagS l i) = cutAt l i from rfl, rowB_set l i (by omega) hi, cuts_j1 k l _ hl i hi]
      exact ih (i + 1) k (by omega) (by omega)
theorem cuts_eq (l : List Int) (hl : l.length ≤ 1048576) (hp : okPts l) (k : Nat) (hk : 2 * l.length + 40 < k) : impl_charCuts.f k l = some (rowB l l.length) := by
  unfold impl_charCuts.f
  rw [if_pos (by omega), if_pos (by omega), Int.toNat_natCast, ← rowB_zero]
  exact cuts_l0 l hl hp l.length 0 k (by omega) (by omega)

/-! the reference -/
def ctl (p : Int) : Bool := decide ((kindOf p).1 = 1 ∨ p = 7954)
def mrk (p : Int) : Bool := decide ((kindOf p).1 = 3 ∨ p = 7936 ∨ (7744 ≤ p ∧ p ≤ 7748))
theorem ctl_eq (k : Nat) (hk : 42 ≤ k) (p : Int) (hp : -9223372036854775808 ≤ p ∧ p ≤ 9223372036854775807) : spec_l07Control.f k p = some (ctl p) := by
  unfold spec_l07Control.f spec_l01Cat.f ctl
  rw [known_eq k hk p hp]
  simp only [Option.bind_some]
  by_cases a : (kindOf p).1 = 1
  · rw [if_pos a, decide_eq_true (show (kindOf p).1 = 1 ∨ p = 7954 from Or.inl a)]
  · rw [if_neg a]; congr 1
    by_cases b : p = 7954
    · rw [decide_eq_true (show (kindOf p).1 = 1 ∨ p = 7954 from Or.inr b)]; exact beq_iff_eq.2 b
    · rw [decide_eq_false (show ¬ ((kindOf p).1 = 1 ∨ p = 7954) from fun h => h.elim a b)]; exact beq_eq_false_iff_ne.2 b
theorem mrk_eq (k : Nat) (hk : 42 ≤ k) (p : Int) (hp : -9223372036854775808 ≤ p ∧ p ≤ 9223372036854775807) : spec_l07Mark.f k p = some (mrk p) := by
  unfold spec_l07Mark.f spec_l01Cat.f mrk
  rw [known_eq k hk p hp]
  simp only [Option.bind_some]
  by_cases a : (kindOf p).1 = 3
  · rw [if_pos a, decide_eq_true (show (kindOf p).1 = 3 ∨ p = 7936 ∨ (7744 ≤ p ∧ p ≤ 7748) from Or.inl a)]
  · rw [if_neg a]
    by_cases b : p = 7936
    · rw [if_pos b, decide_eq_true (show (kindOf p).1 = 3 ∨ p = 7936 ∨ (7744 ≤ p ∧ p ≤ 7748) from Or.inr (Or.inl b))]
    · rw [if_neg b]
      by_cases c : p ≥ 7744
      · rw [if_pos c]; congr 1; exact decide_eq_decide.2 (by omega)
      · rw [if_neg c, decide_eq_false (show ¬ ((kindOf p).1 = 3 ∨ p = 7936 ∨ (7744 ≤ p ∧ p ≤ 7748)) by omega)]
/-- The classes, as the reference's ranges say them. -/
theorem cc_1 (p : Int) : cc p = 1 ↔ ctl p = true := by
  unfold cc ctl
  by_cases a : (kindOf p).1 = 1 ∨ p = 7954
  · rw [if_pos a, decide_eq_true a]; simp
  · rw [if_neg a, decide_eq_false a]
    repeat' split
    all_goals simp
theorem cc_2 (p : Int) : cc p = 2 ↔ mrk p = true := by
  unfold cc mrk
  have hm := cat_mark p
  have hc := cat_ctrl p
  by_cases a : (kindOf p).1 = 1 ∨ p = 7954
  · rw [if_pos a, decide_eq_false (show ¬ ((kindOf p).1 = 3 ∨ p = 7936 ∨ (7744 ≤ p ∧ p ≤ 7748)) by omega)]
    simp
  · rw [if_neg a]
    by_cases b : (kindOf p).1 = 3 ∨ p = 7936 ∨ (7744 ≤ p ∧ p ≤ 7748)
    · rw [if_pos b, decide_eq_true b]; simp
    · rw [if_neg b, decide_eq_false b]
      repeat' split
      all_goals simp
/-- Beyond control and marks a class is told by ranges. -/
theorem cc_rest (p : Int) (h : (1792 ≤ p ∧ p ≤ 1883) ∨ (12288 ≤ p ∧ p ≤ 23459) ∨ (7680 ≤ p ∧ p ≤ 7743) ∨ (7760 ≤ p ∧ p ≤ 7785)) : cc p = if 1792 ≤ p ∧ p ≤ 1810 then 3 else if 1824 ≤ p ∧ p ≤ 1844 then 4 else if 1857 ≤ p ∧ p ≤ 1883 then 5
  else if (12288 ≤ p ∧ p ≤ 23459) ∧ (p - 12288) % 28 = 0 then 6 else if 12288 ≤ p ∧ p ≤ 23459 then 7 else if 7680 ≤ p ∧ p ≤ 7743 then 8 else if 7760 ≤ p ∧ p ≤ 7785 then 9 else 0 := by
  have hm := cat_mark p
  have hc := cat_ctrl p
  unfold cc
  rw [if_neg (show ¬ ((kindOf p).1 = 1 ∨ p = 7954) by omega), if_neg (show ¬ ((kindOf p).1 = 3 ∨ p = 7936 ∨ (7744 ≤ p ∧ p ≤ 7748)) by omega)]
theorem cc_else (p : Int) (h : ¬ ((1792 ≤ p ∧ p ≤ 1883) ∨ (12288 ≤ p ∧ p ≤ 23459) ∨ (7680 ≤ p ∧ p ≤ 7743) ∨ (7760 ≤ p ∧ p ≤ 7785))) : cc p = 0 ∨ cc p = 1 ∨ cc p = 2 := by
  unfold cc
  split
  · exact Or.inr (Or.inl rfl)
  · split
    · exact Or.inr (Or.inr rfl)
    · rw [if_neg (by omega), if_neg (by omega), if_neg (by omega), if_neg (by omega), if_neg (by omega), if_neg (by omega), if_neg (by omega)]
      exact Or.inl rfl
theorem cc_8 (p : Int) : cc p = 8 ↔ (7680 ≤ p ∧ p ≤ 7743) := by
  by_cases h : (1792 ≤ p ∧ p ≤ 1883) ∨ (12288 ≤ p ∧ p ≤ 23459) ∨ (7680 ≤ p ∧ p ≤ 7743) ∨ (7760 ≤ p ∧ p ≤ 7785)
  · rw [cc_rest p h]
    repeat' split
    all_goals omega
  · have := cc_else p h
    omega
theorem cc_9 (p : Int) : cc p = 9 ↔ (7760 ≤ p ∧ p ≤ 7785) := by
  by_cases h : (1792 ≤ p ∧ p ≤ 1883) ∨ (12288 ≤ p ∧ p ≤ 23459) ∨ (7680 ≤ p ∧ p ≤ 7743) ∨ (7760 ≤ p ∧ p ≤ 7785)
  · rw [cc_rest p h]
    repeat' split
    all_goals omega
  · have := cc_else p h
    omega
def prt (p : Int) : Int := if 1792 ≤ p ∧ p ≤ 1810 then 1 else if 1824 ≤ p ∧ p ≤ 1844 then 2 else if 1857 ≤ p ∧ p ≤ 1883 then 3 else if (12288 ≤ p ∧ p ≤ 23459) ∧ (p - 12288) % 28 = 0 then 4 else if 12288 ≤ p ∧ p ≤ 23459 then 5 else 0
theorem prt_cc (p : Int) (n : Int) (hn : 1 ≤ n ∧ n ≤ 5) : prt p = n ↔ cc p = n + 2 := by
  unfold prt
  by_cases h : (1792 ≤ p ∧ p ≤ 1883) ∨ (12288 ≤ p ∧ p ≤ 23459) ∨ (7680 ≤ p ∧ p ≤ 7743) ∨ (7760 ≤ p ∧ p ≤ 7785)
  · rw [cc_rest p h]
    repeat' split
    all_goals omega
  · have := cc_else p h
    rw [if_neg (by omega), if_neg (by omega), if_neg (by omega), if_neg (by omega), if_neg (by omega)]
    omega
theorem prt_eq (k : Nat) (hk : 5 ≤ k) (p : Int) : spec_l07Part.f k p = some (prt p) := by
  obtain ⟨k, rfl⟩ : ∃ m, k = m + 4 := ⟨k - 4, by omega⟩
  have j3 : ∀ (K : Nat) (b : Bool), spec_l07Part.j3 (K + 1) p b = some (if b = true then 4 else if 12288 ≤ p ∧ p ≤ 23459 then 5 else 0) := by
    intro K b
    rw [spec_l07Part.j3]
    by_cases a : 12288 ≤ p <;> by_cases c : p ≤ 23459 <;> cases b <;> simp [a, c]
  have j2 : ∀ (K : Nat) (b : Bool), spec_l07Part.j2 (K + 2) p b = some (if b = true then 3 else if (12288 ≤ p ∧ p ≤ 23459) ∧ (p - 12288) % 28 = 0 then 4 else if 12288 ≤ p ∧ p ≤ 23459 then 5 else 0) := by
    intro K b
    rw [spec_l07Part.j2]
    simp only [j3]
    by_cases a : 12288 ≤ p
    · by_cases c : p ≤ 23459
      · have e : Int.tmod (wrap64 (p - 12288)) 28 = (p - 12288) % 28 := by rw [w64 (by omega) (by omega)]; exact Int.tmod_eq_emod_of_nonneg (by omega)
        rw [e]
        generalize (p - 12288) % 28 = m
        by_cases d : m = 0 <;> cases b <;> simp [a, c, d]
      · cases b <;> simp [a, c]
    · cases b <;> simp [a]
  have j1 : ∀ (K : Nat) (b : Bool), spec_l07Part.j1 (K + 3) p b = some (if b = true then 2 else if 1857 ≤ p ∧ p ≤ 1883 then 3 else if (12288 ≤ p ∧ p ≤ 23459) ∧ (p - 12288) % 28 = 0 then 4 else if 12288 ≤ p ∧ p ≤ 23459 then 5 else 0) := by
    intro K b
    rw [spec_l07Part.j1]
    simp only [j2]
    generalize (if (12288 ≤ p ∧ p ≤ 23459) ∧ (p - 12288) % 28 = 0 then (4 : Int) else if 12288 ≤ p ∧ p ≤ 23459 then 5 else 0) = R
    by_cases a : 1857 ≤ p <;> by_cases c : p ≤ 1883 <;> cases b <;> simp [a, c]
  have j0 : ∀ (K : Nat) (b : Bool), spec_l07Part.j0 (K + 4) p b = some (if b = true then 1 else if 1824 ≤ p ∧ p ≤ 1844 then 2 else if 1857 ≤ p ∧ p ≤ 1883 then 3 else if (12288 ≤ p ∧ p ≤ 23459) ∧ (p - 12288) % 28 = 0 then 4 else if 12288 ≤ p ∧ p ≤ 23459 then 5 else 0) := by
    intro K b
    rw [spec_l07Part.j0]
    simp only [j1]
    generalize (if 1857 ≤ p ∧ p ≤ 1883 then (3 : Int) else if (12288 ≤ p ∧ p ≤ 23459) ∧ (p - 12288) % 28 = 0 then 4 else if 12288 ≤ p ∧ p ≤ 23459 then 5 else 0) = R
    by_cases a : 1824 ≤ p <;> by_cases c : p ≤ 1844 <;> cases b <;> simp [a, c]
  unfold spec_l07Part.f prt
  simp only [j0]
  generalize (if 1824 ≤ p ∧ p ≤ 1844 then (2 : Int) else if 1857 ≤ p ∧ p ≤ 1883 then 3 else if (12288 ≤ p ∧ p ≤ 23459) ∧ (p - 12288) % 28 = 0 then 4 else if 12288 ≤ p ∧ p ≤ 23459 then 5 else 0) = R
  by_cases a : 1792 ≤ p <;> by_cases c : p ≤ 1810 <;> simp [a, c]

end Go.Proofs.YtmlhnpggjkoinaaDoor.PFnExactWords

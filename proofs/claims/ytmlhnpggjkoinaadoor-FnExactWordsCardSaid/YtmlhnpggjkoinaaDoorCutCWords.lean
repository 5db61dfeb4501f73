/- The reference's word on a cut, and both texts' places of cuts. -/
import Derived.Test.YtmlhnpggjkoinaaDoorCutBWords
set_option linter.unusedSimpArgs false
set_option linter.unusedVariables false
namespace Go.Proofs.YtmlhnpggjkoinaaDoor.PFnExactWords
open Go.RowKit Go.Proofs.YtmlhnpggjkoinaaDoorW.PrintWords Go.Proofs.YtmlhnpggjkoinaaDoorW.PrintLast Go.Proofs.YtmlhnpggjkoinaaDoorW.PrintMore Go.Proofs.YtmlhnpggjkoinaaDoor.Lib

theorem beqD (c n : Int) : (c == n) = decide (c = n) := by by_cases h : c = n <;> simp [h]
def sylP (x y : Int) : Prop := (x = 1 ∧ (y = 1 ∨ y = 2 ∨ y = 4 ∨ y = 5)) ∨ ((x = 2 ∨ x = 4) ∧ (y = 2 ∨ y = 3)) ∨ ((x = 3 ∨ x = 5) ∧ y = 3)
instance (x y : Int) : Decidable (sylP x y) := by unfold sylP; infer_instance
theorem syl_eq (k : Nat) (hk : 8 ≤ k) (a b : Int) : spec_l07Syllable.f k a b = some (decide (sylP (prt a) (prt b))) := by
  obtain ⟨k, rfl⟩ : ∃ m, k = m + 1 := ⟨k - 1, by omega⟩
  unfold spec_l07Syllable.f
  rw [prt_eq _ (by omega), prt_eq _ (by omega)]
  simp only [Option.bind_some, spec_l07Syllable.j0, beqD, decide_eq_true_eq]
  generalize prt a = x
  generalize prt b = y
  by_cases h1 : x = 1
  · rw [if_pos h1]
    by_cases g1 : y = 1
    · rw [if_pos g1, decide_eq_true (show sylP x y by unfold sylP; omega)]
    · rw [if_neg g1]
      by_cases g2 : y = 2
      · rw [if_pos g2, decide_eq_true (show sylP x y by unfold sylP; omega)]
      · rw [if_neg g2]
        by_cases g4 : y = 4
        · rw [if_pos g4, decide_eq_true (show sylP x y by unfold sylP; omega)]
        · rw [if_neg g4]; exact congrArg some (decide_eq_decide.2 (by unfold sylP; omega))
  · rw [if_neg h1]
    by_cases h2 : x = 2
    · rw [if_pos h2, if_pos h2]
      by_cases g2 : y = 2
      · rw [if_pos g2, decide_eq_true (show sylP x y by unfold sylP; omega)]
      · rw [if_neg g2]; exact congrArg some (decide_eq_decide.2 (by unfold sylP; omega))
    · rw [if_neg h2]
      by_cases h4 : x = 4
      · rw [if_pos h4]
        by_cases g2 : y = 2
        · rw [if_pos g2, decide_eq_true (show sylP x y by unfold sylP; omega)]
        · rw [if_neg g2]; exact congrArg some (decide_eq_decide.2 (by unfold sylP; omega))
      · rw [if_neg h4]
        by_cases h3 : x = 3
        · rw [if_pos h3]; exact congrArg some (decide_eq_decide.2 (by unfold sylP; omega))
        · rw [if_neg h3]
          by_cases h5 : x = 5
          · rw [if_pos h5]; exact congrArg some (decide_eq_decide.2 (by unfold sylP; omega))
          · rw [if_neg h5, decide_eq_false (show ¬ sylP x y by unfold sylP; omega)]
theorem sylP_cc (q p : Int) : sylP (prt q) (prt p) ↔ ((cc q = 3 ∧ (cc p = 3 ∨ cc p = 4 ∨ cc p = 6 ∨ cc p = 7)) ∨ ((cc q = 4 ∨ cc q = 6) ∧ (cc p = 4 ∨ cc p = 5)) ∨ ((cc q = 5 ∨ cc q = 7) ∧ cc p = 5)) := by
  have q1 := prt_cc q 1 (by omega); have q2 := prt_cc q 2 (by omega); have q3 := prt_cc q 3 (by omega); have q4 := prt_cc q 4 (by omega); have q5 := prt_cc q 5 (by omega)
  have p1 := prt_cc p 1 (by omega); have p2 := prt_cc p 2 (by omega); have p3 := prt_cc p 3 (by omega); have p4 := prt_cc p 4 (by omega); have p5 := prt_cc p 5 (by omega)
  unfold sylP
  omega
theorem bound_eq (l : List Int) (hl : l.length ≤ 1048576) : ∀ (a k : Nat), a < l.length → a + 1 < k → spec_l07Bound.l0 k l (a : Int) = some (bindS l (a + 1)) := by
  intro a
  induction a with
  | zero =>
    intro k ha hk
    obtain ⟨k, rfl⟩ : ∃ m, k = m + 1 := ⟨k - 1, by omega⟩
    rw [spec_l07Bound.l0, if_neg (by omega), if_pos (by omega), if_pos (by omega), rd_at0 l 0 ha, beqD]
    simp only [bindS]
    by_cases h : at0 l 0 = 1584
    · rw [if_pos h, decide_eq_true h]
    · rw [if_neg h, decide_eq_false h]
      split <;> rfl
  | succ a ih =>
    intro k ha hk
    obtain ⟨k, rfl⟩ : ∃ m, k = m + 1 := ⟨k - 1, by omega⟩
    have hw : wrap64 (((a + 1 : Nat) : Int) - 1) = (a : Int) := by rw [w64 (by omega) (by omega)]; omega
    rw [spec_l07Bound.l0, if_pos (by omega), if_pos (by omega), if_pos (by omega), rd_at0 l (a + 1) ha, hw, beqD]
    show _ = some (if at0 l (a + 1) = 1584 then true else if at0 l (a + 1) = 1585 then bindS l (a + 1) else false)
    by_cases h : at0 l (a + 1) = 1585
    · rw [if_pos h, if_neg (by omega), if_pos h]
      exact ih k (by omega) (by omega)
    · rw [if_neg h, if_neg h]
      by_cases h2 : at0 l (a + 1) = 1584
      · rw [if_pos h2, decide_eq_true h2]
      · rw [if_neg h2, decide_eq_false h2]
theorem flag_eq (p : Int) : spec_l07Flag.f p = some (decide (cc p = 9)) := by
  unfold spec_l07Flag.f
  have := cc_9 p
  by_cases a : p ≥ 7760
  · rw [if_pos a]; exact congrArg some (decide_eq_decide.2 (by omega))
  · rw [if_neg a, decide_eq_false (show ¬ cc p = 9 by omega)]
theorem picture_eq (p : Int) : spec_l07Picture.f p = some (decide (cc p = 8)) := by
  unfold spec_l07Picture.f
  have := cc_8 p
  by_cases a : p ≥ 7680
  · rw [if_pos a]; exact congrArg some (decide_eq_decide.2 (by omega))
  · rw [if_neg a, decide_eq_false (show ¬ cc p = 8 by omega)]
theorem flags_eq (l : List Int) (hl : l.length ≤ 1048576) : ∀ (m n a k : Nat), a + 1 = n + m → a < l.length → m < k → spec_l07Flags.l0 k l (a : Int) (n : Int) = some (((n + flagS l m : Nat) : Int)) := by
  intro m
  induction m with
  | zero =>
    intro n a k h ha hk
    obtain ⟨k, rfl⟩ : ∃ m, k = m + 1 := ⟨k - 1, by omega⟩
    rw [spec_l07Flags.l0, w64 (x := (a : Int) - (n : Int)) (by omega) (by omega), if_neg (by omega)]
    rfl
  | succ m ih =>
    intro n a k h ha hk
    obtain ⟨k, rfl⟩ : ∃ m, k = m + 1 := ⟨k - 1, by omega⟩
    have e : (a : Int) - (n : Int) = (m : Int) := by omega
    rw [spec_l07Flags.l0, w64 (x := (a : Int) - (n : Int)) (by omega) (by omega), e, if_pos (by omega), if_pos (by omega), if_pos (by omega), rd_at0 l m (by omega), flag_eq, Option.bind_some, w64s (m := 1048580) (by omega) (by omega)]
    by_cases c : cc (at0 l m) = 9
    · rw [if_pos (decide_eq_true c), ih (n + 1) a k (by omega) ha (by omega)]
      simp only [flagS]
      rw [if_pos c]; congr 2; omega
    · rw [if_neg (by simpa using c)]
      simp only [flagS]
      rw [if_neg c]; rfl
theorem pic_eq (l : List Int) (hl : l.length ≤ 1048576) (hp : okPts l) : ∀ (m k : Nat), m ≤ l.length → m + 44 < k → spec_l07Char.l0 k l ((m : Int) - 1) = some (!picS l m) := by
  intro m
  induction m with
  | zero =>
    intro k hm hk
    obtain ⟨k, rfl⟩ : ∃ m, k = m + 1 := ⟨k - 1, by omega⟩
    rw [spec_l07Char.l0, if_neg (by omega), if_pos (by omega)]
    rfl
  | succ m ih =>
    intro k hm hk
    obtain ⟨k, rfl⟩ : ∃ m, k = m + 1 := ⟨k - 1, by omega⟩
    have e : ((m + 1 : Nat) : Int) - 1 = (m : Int) := by omega
    have hb := at0_bd hp m (by omega)
    rw [e, spec_l07Char.l0, if_pos (by omega), if_pos (by omega), if_pos (by omega), rd_at0 l m (by omega), mrk_eq _ (by omega) _ (by omega), Option.bind_some, w64 (x := (m : Int) - 1) (by omega) (by omega)]
    have h2 := cc_2 (at0 l m)
    simp only [picS]
    by_cases c : mrk (at0 l m) = true
    · rw [if_pos c, if_pos (h2.2 c)]
      exact ih k (by omega) (by omega)
    · rw [if_neg c, if_neg (fun h => c (h2.1 h)), if_neg (by omega), picture_eq, Option.bind_some]
theorem char_eq (l : List Int) (hl : l.length ≤ 1048576) (hp : okPts l) (i k : Nat) (h0 : 0 < i) (hi : i < l.length) (hk : i + 80 < k) : spec_l07Char.f k l (i : Int) = some (cutAt l i) := by
  obtain ⟨k, rfl⟩ : ∃ m, k = m + 6 := ⟨k - 6, by omega⟩
  have hw : wrap64 ((i : Int) - 1) = ((i - 1 : Nat) : Int) := by rw [w64 (by omega) (by omega)]; omega
  have hw2 : wrap64 ((i : Int) - 2) = (((i - 1 : Nat) : Int) - 1) := by rw [w64 (by omega) (by omega)]; omega
  have hbp := at0_bd hp i hi
  have hbq := at0_bd hp (i - 1) (by omega)
  have hpic : cc (at0 l (i - 1)) = 2 → picS l i = picS l (i - 1) := by
    intro h
    obtain ⟨j, rfl⟩ : ∃ j, i = j + 1 := ⟨i - 1, by omega⟩
    show (if cc (at0 l j) = 2 then picS l j else decide (cc (at0 l j) = 8)) = picS l j
    exact if_pos h
  have hbind : ∀ K, i < K → spec_l07Bound.f K l ((i - 1 : Nat) : Int) = some (bindS l i) := by
    intro K hK
    unfold spec_l07Bound.f
    rw [bound_eq l hl (i - 1) K (by omega) (by omega), show i - 1 + 1 = i by omega]
  have hflag : ∀ K, i < K → spec_l07Flags.f K l ((i - 1 : Nat) : Int) = some ((flagS l i : Nat) : Int) := by
    intro K hK
    unfold spec_l07Flags.f
    have := flags_eq l hl i 0 (i - 1) K (by omega) (by omega) hK
    simpa using this
  have hpicl : ∀ K, i + 50 < K → spec_l07Char.l0 K l ((i - 1 : Nat) - 1 : Int) = some (!picS l (i - 1)) := fun K hK => pic_eq l hl hp (i - 1) K (by omega) (by omega)
  unfold spec_l07Char.f cutAt cutG
  rw [hw, if_pos (by omega), if_pos (by omega), if_pos (by omega), if_pos (by omega), rd_at0 l i hi, rd_at0 l (i - 1) (by omega)]
  have q1 := cc_1 (at0 l (i - 1)); have p1 := cc_1 (at0 l i); have p2 := cc_2 (at0 l i); have q2 := cc_2 (at0 l (i - 1))
  have sy := sylP_cc (at0 l (i - 1)) (at0 l i)
  have q8 : at0 l (i - 1) = 7936 → cc (at0 l (i - 1)) = 2 := fun h => q2.2 (by rw [h]; unfold mrk; exact decide_eq_true (Or.inr (Or.inl rfl)))
  have fl0 : 0 ≤ ((flagS l i : Nat) : Int) := by omega
  generalize hF : ((flagS l i : Nat) : Int) = fl at hflag fl0
  generalize hP : picS l i = pc at hpic
  generalize hB : bindS l i = bd at hbind
  generalize at0 l (i - 1) = q at *
  generalize at0 l i = p at *
  have j4 : ∀ K b, i + 60 < K → (b = true → q = 7936 ∧ cc p = 8) → (b = false → ¬ (q = 7936 ∧ cc p = 8)) → spec_l07Char.j4 (K + 1) l (i : Int) q p b = some (t5 q (cc p) (cc q) pc fl) := by
    intro K b hK hb1 hb2
    rw [spec_l07Char.j4, hw2, hw, flag_eq, flag_eq]
    cases b with
    | true =>
      obtain ⟨g1, g2⟩ := hb1 rfl
      rw [iteT rfl, hpicl K (by omega), ← hpic (q8 g1)]
      unfold t5 t6
      cases pc <;> simp [g1, g2]
    | false =>
      have g := hb2 rfl
      have e5 : t5 q (cc p) (cc q) pc fl = t6 (cc p) (cc q) fl := by unfold t5; exact if_neg (fun h => g ⟨h.1, h.2.1⟩)
      rw [iteF rfl, Option.bind_some, e5]
      by_cases c : cc q = 9
      · rw [if_pos (decide_eq_true c), Option.bind_some]
        by_cases d : cc p = 9
        · rw [if_pos (decide_eq_true d), hflag K (by omega), Option.bind_some, Int.tmod_eq_emod_of_nonneg fl0, beqD]
          unfold t6
          by_cases e : fl % 2 = 1
          · simp [c, d, e]
          · have e0 : fl % 2 = 0 := by omega
            simp [c, d, e0]
        · rw [if_neg (by simpa using d)]
          unfold t6
          simp [d]
      · rw [if_neg (by simpa using c)]
        unfold t6
        simp [c]
  have j3 : ∀ K b, i + 60 < K → spec_l07Char.j3 (K + 2) l (i : Int) q p b = some (if b = true then false else t5 q (cc p) (cc q) pc fl) := by
    intro K b hK
    rw [spec_l07Char.j3, picture_eq, Option.bind_some]
    cases b with
    | true => rw [iteT rfl, iteT rfl]
    | false =>
      rw [iteF rfl, iteF rfl]
      by_cases c : q = 7936
      · rw [if_pos c]
        exact j4 (K) _ hK (fun h => ⟨c, of_decide_eq_true h⟩) (fun h g => of_decide_eq_false h g.2)
      · rw [if_neg c]
        exact j4 (K) _ hK (fun h => by cases h) (fun h g => c g.1)
  have j2 : ∀ K b, i + 60 < K → spec_l07Char.j2 (K + 3) l (i : Int) q p b = some (if b = true then false else if (1536 ≤ p ∧ p ≤ 1567) ∧ bd = true then false else t5 q (cc p) (cc q) pc fl) := by
    intro K b hK
    rw [spec_l07Char.j2, hw, hbind (K + 2) (by omega), Option.bind_some]
    simp only [j3 K _ hK]
    generalize t5 q (cc p) (cc q) pc fl = R
    by_cases c : 1536 ≤ p <;> by_cases d : p ≤ 1567 <;> cases bd <;> cases b <;> simp [c, d]
  have j1 : ∀ K b, i + 60 < K → spec_l07Char.j1 (K + 4) l (i : Int) q p b = some (if b = true then true else t1 q p (cc p) (cc q) bd pc fl) := by
    intro K b hK
    rw [spec_l07Char.j1, syl_eq _ (by omega), Option.bind_some, mrk_eq _ (by omega) _ (by omega), Option.bind_some]
    simp only [j2 K _ hK]
    by_cases c : sylP (prt q) (prt p)
    · have e : t1 q p (cc p) (cc q) bd pc fl = false := by
        unfold t1 t2 t3
        rcases sy.1 c with c2 | c2 | c2
        · rw [if_pos c2]
        · rw [if_pos c2]; simp
        · rw [if_pos c2]; simp
      rw [e, decide_eq_true c]
      cases b <;> simp
    · have e : t1 q p (cc p) (cc q) bd pc fl = t4 q p (cc p) (cc q) bd pc fl := by
        have c2 := fun h => c (sy.2 h)
        unfold t1 t2 t3
        rw [if_neg (fun h => c2 (Or.inl h)), if_neg (fun h => c2 (Or.inr (Or.inl h))), if_neg (fun h => c2 (Or.inr (Or.inr h)))]
      rw [e, decide_eq_false c]
      unfold t4
      generalize t5 q (cc p) (cc q) pc fl = R
      by_cases d : mrk p = true
      · have d2 := p2.2 d
        cases b <;> simp [d, d2]
      · have d2 : ¬ cc p = 2 := fun h => d (p2.1 h)
        cases b <;> simp [d, d2]
  have j0 : ∀ K b, i + 60 < K → spec_l07Char.j0 (K + 5) l (i : Int) q p b = some (if b = true then false else t0 q p (cc p) (cc q) bd pc fl) := by
    intro K b hK
    rw [spec_l07Char.j0, ctl_eq _ (by omega) _ (by omega), Option.bind_some, ctl_eq _ (by omega) _ (by omega), Option.bind_some]
    simp only [j1 K _ hK]
    unfold t0
    generalize t1 q p (cc p) (cc q) bd pc fl = R
    by_cases c : ctl q = true
    · have c1 := q1.2 c
      cases b <;> simp [c, c1]
    · have c1 : ¬ cc q = 1 := fun h => c (q1.1 h)
      by_cases d : ctl p = true
      · have d1 := p1.2 d
        cases b <;> simp [c, d, d1]
      · have d1 : ¬ cc p = 1 := fun h => d (p1.1 h)
        cases b <;> simp [c, c1, d, d1]
  rw [show k + 6 = (k + 1) + 5 from rfl]
  simp only [j0 (k + 1) _ (show i + 60 < k + 1 by omega)]
  generalize t0 q p (cc p) (cc q) bd pc fl = R
  by_cases c : q = 13 <;> by_cases d : p = 10 <;> simp [c, d]

end Go.Proofs.YtmlhnpggjkoinaaDoor.PFnExactWords

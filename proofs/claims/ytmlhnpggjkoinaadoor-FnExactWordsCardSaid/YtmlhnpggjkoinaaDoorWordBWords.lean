/- Between two points of words: the reference's cut. -/
import Derived.Test.YtmlhnpggjkoinaaDoorWordAWords
set_option linter.unusedSimpArgs false
set_option linter.unusedVariables false
namespace Go.Proofs.YtmlhnpggjkoinaaDoor.PFnExactWords
open Go.RowKit Go.Proofs.YtmlhnpggjkoinaaDoorW.PrintWords Go.Proofs.YtmlhnpggjkoinaaDoorW.PrintLast Go.Proofs.YtmlhnpggjkoinaaDoorW.PrintMore Go.Proofs.YtmlhnpggjkoinaaDoor.Lib

theorem wl_not (p : Int) (h : wl p = true) : dg p = false ∧ wp p = false := by
  have := of_decide_eq_true h
  exact ⟨beq_eq_false_iff_ne.2 (by omega), beq_eq_false_iff_ne.2 this.2.1⟩
theorem wp_not (p : Int) (h : wp p = true) : dg p = false := by
  have := part_other p (beq_iff_eq.1 h)
  exact beq_eq_false_iff_ne.2 (by omega)
theorem low_not : wl 95 = false ∧ dg 95 = false ∧ wp 95 = false := by decide +kernel
theorem none_not : wl (-1) = false ∧ dg (-1) = false := by decide +kernel
theorem wd_all (p : Int) : ((wd p = 1) ↔ wl p = true) ∧ ((wd p = 2) ↔ dg p = true) ∧ ((wd p = 3) ↔ p = 95) ∧ ((wd p = 5) ↔ wp p = true) := by
  have h1 := wl_not p
  have h2 := wp_not p
  have h3 : p = 95 → wl p = false ∧ dg p = false ∧ wp p = false := by rintro rfl; exact low_not
  unfold wd
  revert h1 h2 h3
  by_cases e : p = 95
  · intro h1 h2 h3
    obtain ⟨a, b, c⟩ := h3 e
    rw [a, b, c, if_pos e]
    simp [e]
  · intro h1 h2 h3
    rw [if_neg e]
    cases a : dg p
    · cases b : wp p
      · cases c : wl p <;> simp [e]
      · cases c : wl p
        · simp [e]
        · rw [b] at h1; have := (h1 c).2; contradiction
    · cases b : wp p
      · cases c : wl p
        · simp [e]
        · rw [a] at h1; have := (h1 c).1; contradiction
      · rw [a] at h2; have := h2 b; contradiction
theorem wd1 (p : Int) : (wd p = 1) = (wl p = true) := propext (wd_all p).1
theorem wd2 (p : Int) : (wd p = 2) = (dg p = true) := propext (wd_all p).2.1
theorem wd3 (p : Int) : (wd p = 3) = (p = 95) := propext (wd_all p).2.2.1
theorem wd5 (p : Int) : (wd p = 5) = (wp p = true) := propext (wd_all p).2.2.2
theorem wd2b (p : Int) : (wd p == 2) = dg p := by
  have := (wd_all p).2.1
  cases a : dg p
  · exact beq_eq_false_iff_ne.2 (fun h => by rw [this.1 h] at a; contradiction)
  · exact beq_iff_eq.2 (this.2 a)
/-- A joint or a point in the midst. -/
def btw (b m a : Int) : Bool := (wl b && jt m && wl a) || (dg b && pt m && dg a)
def bfO (X : List Int) (j : Nat) : Int := if 2 ≤ j then at0 X (j - 2) else -1
def bhO (X : List Int) (j : Nat) : Int := if j + 1 < X.length then at0 X (j + 1) else -1
theorem btw_l (m a : Int) : btw (-1) m a = false := by unfold btw; rw [none_not.1, none_not.2]; rfl
theorem btw_r (b m : Int) : btw b m (-1) = false := by unfold btw; rw [none_not.1, none_not.2]; cases wl b <;> cases jt m <;> cases dg b <;> cases pt m <;> rfl
abbrev in64s (X : List Int) : Prop := ∀ i, i < X.length → in64 (at0 X i)
theorem between_mid (X : List Int) (hX : X.length ≤ 1048576) (oX : in64s X) (k : Nat) (hk : 50 ≤ k) (i : Nat) (h0 : 1 ≤ i) (h1 : i + 1 < X.length) : spec_l07Between.f k X (i : Int) = some (btw (at0 X (i - 1)) (at0 X i) (at0 X (i + 1))) := by
  obtain ⟨k, rfl⟩ : ∃ m, k = m + 1 := ⟨k - 1, by omega⟩
  have e1 : wrap64 ((i : Int) - 1) = ((i - 1 : Nat) : Int) := by rw [w64 (by omega) (by omega)]; omega
  have e2 : wrap64 ((i : Int) + 1) = ((i + 1 : Nat) : Int) := w64s (m := X.length) (by omega) (by omega)
  unfold spec_l07Between.f
  rw [if_neg (by omega), e2, decide_eq_false (by omega), spec_l07Between.j0, if_neg (by decide), e1, e2, if_pos (by omega), if_pos (by omega), rd_at0 X (i - 1) (by omega), wd_eq k (by omega) _ (oX _ (by omega)), Option.bind_some,
    if_pos (by omega), if_pos (by omega), rd_at0 X (i + 1) h1, wd_eq k (by omega) _ (oX _ h1), Option.bind_some, if_pos (by omega), if_pos (by omega), rd_at0 X i (by omega), jtS, ptS]
  simp only [Option.bind_some, wd1, wd2, wd2b]
  unfold btw
  cases wl (at0 X (i - 1)) <;> cases wl (at0 X (i + 1)) <;> cases dg (at0 X (i - 1)) <;> cases dg (at0 X (i + 1)) <;> cases jt (at0 X i) <;> cases pt (at0 X i) <;> rfl
theorem between_end (X : List Int) (hX : X.length ≤ 1048576) (k : Nat) (hk : 50 ≤ k) (i : Nat) (h : i = 0 ∨ X.length ≤ i + 1) (hi : i ≤ 1048576) : spec_l07Between.f k X (i : Int) = some false := by
  obtain ⟨k, rfl⟩ : ∃ m, k = m + 1 := ⟨k - 1, by omega⟩
  have e2 : wrap64 ((i : Int) + 1) = ((i + 1 : Nat) : Int) := w64s (m := i + 1) (Nat.lt_succ_self i) (by omega)
  unfold spec_l07Between.f
  by_cases c : i = 0
  · rw [if_pos (by omega), spec_l07Between.j0, if_pos rfl]
  · rw [if_neg (by omega), e2, decide_eq_true (by omega), spec_l07Between.j0, if_pos rfl]
theorem between_1 (X : List Int) (hX : X.length ≤ 1048576) (oX : in64s X) (k : Nat) (hk : 50 ≤ k) (j : Nat) (h0 : 1 ≤ j) (h1 : j < X.length) : spec_l07Between.f k X (wrap64 ((j : Int) - 1)) = some (btw (bfO X j) (at0 X (j - 1)) (at0 X j)) := by
  have e1 : wrap64 ((j : Int) - 1) = ((j - 1 : Nat) : Int) := by rw [w64 (by omega) (by omega)]; omega
  rw [e1]
  unfold bfO
  by_cases c : 2 ≤ j
  · rw [if_pos c, between_mid X hX oX k hk (j - 1) (by omega) (by omega), show j - 1 - 1 = j - 2 by omega, show j - 1 + 1 = j by omega]
  · rw [if_neg c, between_end X hX k hk (j - 1) (by omega) (by omega), btw_l]
theorem between_2 (X : List Int) (hX : X.length ≤ 1048576) (oX : in64s X) (k : Nat) (hk : 50 ≤ k) (j : Nat) (h0 : 1 ≤ j) (h1 : j < X.length) : spec_l07Between.f k X (j : Int) = some (btw (at0 X (j - 1)) (at0 X j) (bhO X j)) := by
  unfold bhO
  by_cases c : j + 1 < X.length
  · rw [if_pos c, between_mid X hX oX k hk j (by omega) (by omega)]
  · rw [if_neg c, between_end X hX k hk j (by omega) (by omega), btw_r]
theorem u3_eq (q p bh bf : Int) : u3 q p bh bf = if btw bf q p = true then false else if btw q p bh = true then false else u7 q p := by
  unfold u3 u5 btw
  generalize (wl q && jt p && wl bh) = A
  generalize (wl bf && jt q && wl p) = B
  generalize (dg q && pt p && dg bh) = C
  generalize (dg bf && pt q && dg p) = D
  generalize u7 q p = T
  cases A <;> cases B <;> cases C <;> cases D <;> rfl
theorem j5S (k : Nat) (q p : Int) (b : Bool) : spec_l07WordCut.j5 (k + 1) (wd q) (wd p) b = some (if b = true then false else u9 q p) := by
  rw [spec_l07WordCut.j5]
  simp only [wd5]
  unfold u9
  cases b <;> cases wp q <;> cases wp p <;> rfl
theorem j4S (k : Nat) (q p : Int) (b : Bool) : spec_l07WordCut.j4 (k + 2) (wd q) (wd p) b = some (if b = true then false else u7 q p) := by
  rw [spec_l07WordCut.j4]
  simp only [wd1, wd2, wd3, wd2b, j5S]
  unfold u7
  generalize u9 q p = T
  by_cases c : p = 95
  · have e : (p == 95) = true := beq_iff_eq.2 c
    rw [e]
    simp only [if_pos c]
    by_cases d : q = 95
    · have f : (q == 95) = true := beq_iff_eq.2 d
      rw [f]
      simp only [if_pos d]
      cases b <;> cases wl q <;> cases dg q <;> cases wl p <;> cases dg p <;> rfl
    · have f : (q == 95) = false := beq_eq_false_iff_ne.2 d
      rw [f]
      simp only [if_neg d]
      cases b <;> cases wl q <;> cases dg q <;> cases wl p <;> cases dg p <;> rfl
  · have e : (p == 95) = false := beq_eq_false_iff_ne.2 c
    rw [e]
    simp only [if_neg c]
    by_cases d : q = 95
    · have f : (q == 95) = true := beq_iff_eq.2 d
      rw [f]
      simp only [if_pos d]
      cases b <;> cases wl q <;> cases dg q <;> cases wl p <;> cases dg p <;> rfl
    · have f : (q == 95) = false := beq_eq_false_iff_ne.2 d
      rw [f]
      simp only [if_neg d]
      cases b <;> cases wl q <;> cases dg q <;> cases wl p <;> cases dg p <;> rfl
theorem j3S (X : List Int) (hX : X.length ≤ 1048576) (oX : in64s X) (k : Nat) (hk : 60 ≤ k) (j : Nat) (h0 : 1 ≤ j) (h1 : j < X.length) (b : Bool) :
    spec_l07WordCut.j3 (k + 3) X (j : Int) (wd (at0 X (j - 1))) (wd (at0 X j)) b = some (if b = true then false else u3 (at0 X (j - 1)) (at0 X j) (bhO X j) (bfO X j)) := by
  rw [spec_l07WordCut.j3, between_1 X hX oX (k + 2) (by omega) j h0 h1, between_2 X hX oX (k + 2) (by omega) j h0 h1, u3_eq]
  simp only [Option.bind_some, j4S]
  generalize btw (bfO X j) (at0 X (j - 1)) (at0 X j) = A
  generalize btw (at0 X (j - 1)) (at0 X j) (bhO X j) = B
  generalize u7 (at0 X (j - 1)) (at0 X j) = T
  cases b <;> cases A <;> cases B <;> rfl
theorem j2S (X : List Int) (hX : X.length ≤ 1048576) (oX : in64s X) (k : Nat) (hk : 60 ≤ k) (j : Nat) (h0 : 1 ≤ j) (h1 : j < X.length) (b : Bool) :
    spec_l07WordCut.j2 (k + 4) X (j : Int) (wd (at0 X (j - 1))) (wd (at0 X j)) b = some (if b = true then false else u2 (at0 X (j - 1)) (at0 X j) (bhO X j) (bfO X j)) := by
  rw [spec_l07WordCut.j2]
  simp only [wd1, wd2, wd2b, j3S X hX oX k hk j h0 h1]
  unfold u2
  generalize u3 (at0 X (j - 1)) (at0 X j) (bhO X j) (bfO X j) = T
  cases b <;> cases wl (at0 X (j - 1)) <;> cases dg (at0 X (j - 1)) <;> cases wl (at0 X j) <;> cases dg (at0 X j) <;> rfl
theorem j1S (X : List Int) (hX : X.length ≤ 1048576) (oX : in64s X) (k : Nat) (hk : 60 ≤ k) (j : Nat) (h0 : 1 ≤ j) (h1 : j < X.length) (b : Bool) :
    spec_l07WordCut.j1 (k + 5) X (j : Int) (at0 X (j - 1)) (at0 X j) (wd (at0 X (j - 1))) (wd (at0 X j)) b = some (if b = true then true else u1 (at0 X (j - 1)) (at0 X j) (bhO X j) (bfO X j)) := by
  rw [spec_l07WordCut.j1, catS (k + 4) (by omega) _ (oX (j - 1) (by omega)), catS (k + 4) (by omega) _ (oX j h1)]
  simp only [Option.bind_some, j2S X hX oX k hk j h0 h1]
  unfold u1
  generalize u2 (at0 X (j - 1)) (at0 X j) (bhO X j) (bfO X j) = T
  have e1 : ((kindOf (at0 X (j - 1))).1 = 2) = (sp (at0 X (j - 1)) = true) := propext ⟨fun h => beq_iff_eq.2 h, fun h => beq_iff_eq.1 h⟩
  have e2 : ((kindOf (at0 X j)).1 == 2) = sp (at0 X j) := rfl
  simp only [e1, e2]
  cases b <;> cases sp (at0 X (j - 1)) <;> cases sp (at0 X j) <;> rfl
theorem cutS_l0 (T : List S54) (hT : T.length ≤ 1048576) (X : List Int) (hX : X.length ≤ 1048576) (oX : in64s X) (j : Nat) (h0 : 1 ≤ j) (h1 : j < X.length) (c : Bool) : ∀ (d n k : Nat), n + d = T.length → d + 70 < k →
    spec_l07WordCut.l0 k X (j : Int) c T (at0 X (j - 1)) (at0 X j) (n : Int) = some (wcut (T.drop n) (at0 X (j - 1)) (at0 X j) (bhO X j) (bfO X j) c) := by
  intro d
  induction d with
  | zero =>
    intro n k hn hk
    obtain ⟨k, rfl⟩ : ∃ m, k = m + 6 := ⟨k - 6, by omega⟩
    rw [show k + 6 = (k + 5) + 1 from rfl, spec_l07WordCut.l0, if_neg (by omega), List.drop_eq_nil_of_le (by omega), ctl_eq (k + 5) (by omega) _ (oX (j - 1) (by omega)), ctl_eq (k + 5) (by omega) _ (oX j h1), wd_eq (k + 5) (by omega) _ (oX (j - 1) (by omega)), wd_eq (k + 5) (by omega) _ (oX j h1)]
    simp only [Option.bind_some, j1S X hX oX k (by omega) j h0 h1]
    unfold wcut tl
    generalize u1 (at0 X (j - 1)) (at0 X j) (bhO X j) (bfO X j) = U
    cases c <;> cases ctl (at0 X (j - 1)) <;> cases ctl (at0 X j) <;> rfl
  | succ d ih =>
    intro n k hn hk
    obtain ⟨k, rfl⟩ : ∃ m, k = m + 1 := ⟨k - 1, by omega⟩
    have hlt : n < T.length := by omega
    have hd : wcut (T.drop n) (at0 X (j - 1)) (at0 X j) (bhO X j) (bfO X j) c = if T[n].f0 = at0 X (j - 1) ∧ T[n].f1 = at0 X j then T[n].f2 else wcut (T.drop (n + 1)) (at0 X (j - 1)) (at0 X j) (bhO X j) (bfO X j) c := by
      rw [List.drop_eq_getElem_cons hlt]
      unfold wcut
      rw [tl]
      by_cases c : T[n].f0 = at0 X (j - 1) ∧ T[n].f1 = at0 X j
      · rw [if_pos c, if_pos c]
      · rw [if_neg c, if_neg c]
    rw [spec_l07WordCut.l0, if_pos (by omega), if_pos (by omega), rdT_nat T n hlt, w64s hlt (by omega), ih (n + 1) k (by omega) (by omega), hd]
    by_cases a : T[n].f0 = at0 X (j - 1)
    · rw [if_pos a]
      by_cases b : T[n].f1 = at0 X j
      · rw [if_pos b, if_pos ⟨a, b⟩]
      · rw [if_neg b, if_neg (fun h => b h.2)]
    · rw [if_neg a, if_neg (fun h => a h.1)]
theorem cutS_eq (T : List S54) (hT : T.length ≤ 1048576) (X : List Int) (hX : X.length ≤ 1048576) (oX : in64s X) (j : Nat) (h0 : 1 ≤ j) (h1 : j < X.length) (c : Bool) (k : Nat) (hk : T.length + 70 < k) :
    spec_l07WordCut.f k X (j : Int) c T = some (wcut T (at0 X (j - 1)) (at0 X j) (bhO X j) (bfO X j) c) := by
  have e1 : wrap64 ((j : Int) - 1) = ((j - 1 : Nat) : Int) := by rw [w64 (by omega) (by omega)]; omega
  unfold spec_l07WordCut.f
  rw [e1, if_pos (by omega), if_pos (by omega), if_pos (by omega), if_pos (by omega), rd_at0 X (j - 1) (by omega), rd_at0 X j h1]
  exact cutS_l0 T hT X hX oX j h0 h1 c T.length 0 k (by omega) hk
/-- The program's literal between the same points. -/
theorem cutI_eq (T : List S54) (hT : T.length ≤ 1048576) (q p bh bf : Int) (hq : in64 q) (hp : in64 p) (hbh : in64 bh) (hbf : in64 bf) (R : List Bool) (i : Nat) (hi : i < R.length) (a b c : Int) (k : Nat) (hk : T.length + 60 < k) :
    impl_wordCuts_5.f k T q p R (i : Int) a b bh bf c = some (wcut T q p bh bf (rdOf false R (i : Int))) := by
  unfold impl_wordCuts_5.f
  exact litI T hT q p bh bf hq hp hbh hbf R i hi T.length 0 k (by omega) hk
theorem out_in64 : in64 (-1) := by decide
theorem bfO_in64 (X : List Int) (oX : in64s X) (j : Nat) (h : j < X.length) : in64 (bfO X j) := by
  unfold bfO
  split
  · exact oX _ (by omega)
  · exact out_in64
theorem bhO_in64 (X : List Int) (oX : in64s X) (j : Nat) : in64 (bhO X j) := by
  unfold bhO
  split
  · exact oX _ (by assumption)
  · exact out_in64
end Go.Proofs.YtmlhnpggjkoinaaDoor.PFnExactWords

/- Cuts of words: both texts' loops and their places. -/
import Derived.Test.YtmlhnpggjkoinaaDoorWordCWords
set_option linter.unusedSimpArgs false
set_option linter.unusedVariables false
namespace Go.Proofs.YtmlhnpggjkoinaaDoor.PFnExactWords
open Go.RowKit Go.Proofs.YtmlhnpggjkoinaaDoorW.PrintWords Go.Proofs.YtmlhnpggjkoinaaDoorW.PrintLast Go.Proofs.YtmlhnpggjkoinaaDoorW.PrintMore Go.Proofs.YtmlhnpggjkoinaaDoor.Lib

abbrev Tls := List S54
abbrev BY (l fr : List Int) : List Int := (Bf l l.length).map (at0 fr)
def cA (l : List Int) (i : Nat) : Bool := decide (i = 0) || cutAt l i
theorem specW_l0 (s : ByteArray) (T : Tls) (l fr : List Int) (n : Int) (hfr : fr.length = l.length) (hl : l.length ≤ 1048576) (hp : okPts l) (K : Nat) (hK : l.length + 100 ≤ K) : ∀ (d i : Nat), i + d = l.length →
    spec_l07Words.l0 (K + d + 1) s T ((Bf l i).map (at0 l)) ((Bf l i).map (at0 fr)) ((Bf l i).map (cA l)) (i : Int) l (fr ++ [n]) = spec_l07Words.l1 K s T (BX l) (BY l fr) ((Bf l l.length).map (cA l)) [] 0 := by
  intro d
  induction d with
  | zero =>
    intro i hn
    obtain rfl : i = l.length := by omega
    rw [Nat.add_zero, spec_l07Words.l0, if_neg (by omega)]
  | succ d ih =>
    intro i hn
    have hi : i < l.length := by omega
    have hb := Bf_le l i
    have hfi : rd (fr ++ [n]) (i : Int) = at0 fr i := by
      rw [rd_nat _ i (by simp; omega), List.getElem_append_left (by omega), at0_eq fr i (by omega)]
    have hfl : (i : Int) < ((fr ++ [n]).length : Int) := by simp; omega
    have this := ih (i + 1) (by omega)
    rw [Bf_succ] at this
    rw [← Nat.add_assoc, spec_l07Words.l0, if_pos (by omega), rd_at0 l i hi, hfi, w64s hi (by omega)]
    simp only [List.length_map]
    by_cases h0 : i = 0
    · rw [if_neg (by omega), if_pos (by omega), if_pos (by omega), Option.bind_some, if_pos hfl, if_pos (by omega), Option.bind_some, if_pos (by omega), if_pos (by omega)]
      rw [if_pos (show kp l i = true by rw [h0]; rfl)] at this
      simp only [List.map_append, List.map_cons, List.map_nil, cA, decide_eq_true h0, Bool.true_or] at this
      exact this
    · have e1 : wrap64 ((i : Int) - 1) = ((i - 1 : Nat) : Int) := by rw [w64 (by omega) (by omega)]; omega
      rw [if_pos (by omega), if_pos (by omega), e1, if_pos (by omega), if_pos (by omega), rd_at0 l (i - 1) (by omega), belS _ (by omega) _ _ (pts_in64 l hp i hi) (pts_in64 l hp (i - 1) (by omega)), Option.bind_some]
      by_cases c : bel (at0 l i) (at0 l (i - 1)) = true
      · rw [if_pos c]
        rw [if_neg (show ¬ kp l i = true by unfold kp; rw [decide_eq_false h0, c]; decide), List.append_nil] at this
        exact this
      · rw [if_neg c, if_pos (by omega), Option.bind_some, if_pos hfl, if_pos (by omega), Option.bind_some, if_neg (by omega), char_eq l hl hp i _ (by omega) hi (by omega), Option.bind_some, if_pos (by omega)]
        rw [if_pos (show kp l i = true by unfold kp; rw [decide_eq_false h0, Bool.eq_false_iff.2 c]; rfl)] at this
        simp only [List.map_append, List.map_cons, List.map_nil, cA, decide_eq_false h0, Bool.false_or] at this
        exact this
/-- The places of the words' cuts from the j-th point on. -/
def wout (l fr : List Int) (T : Tls) : Nat → Nat → List Int
  | 0, _ => []
  | d + 1, j => (if wc l T j = true then [at0 (BY l fr) j] else []) ++ wout l fr T d (j + 1)
theorem wout_len (l fr : List Int) (T : Tls) : ∀ d j, (wout l fr T d j).length ≤ d
  | 0, _ => Nat.le_refl _
  | d + 1, j => by
    have := wout_len l fr T d (j + 1)
    unfold wout
    rw [List.length_append]
    split
    · rw [List.length_singleton]; omega
    · rw [List.length_nil]; omega
theorem specW_l1 (s : ByteArray) (T : Tls) (hT : T.length ≤ 1048576) (l fr : List Int) (hl : l.length ≤ 1048576) (hp : okPts l) : ∀ (d j k : Nat) (x : List Int), j + d = (Bf l l.length).length → 1 ≤ j → d + T.length + 100 < k → x.length ≤ j →
    spec_l07Words.l1 k s T (BX l) (BY l fr) ((Bf l l.length).map (cA l)) x (j : Int) = some (x ++ wout l fr T d j ++ (if (s.size : Int) > 0 then [(s.size : Int)] else [])) := by
  have hb := Bf_le l l.length
  intro d
  induction d with
  | zero =>
    intro j k x hn h0 hk hx
    obtain ⟨k, rfl⟩ : ∃ m, k = m + 1 := ⟨k - 1, by omega⟩
    rw [spec_l07Words.l1, if_neg (by rw [BX_len]; omega)]
    by_cases c : (s.size : Int) > 0
    · rw [if_pos c, if_pos (by omega), if_pos c]; simp [wout]
    · rw [if_neg c, if_neg c]; simp [wout]
  | succ d ih =>
    intro j k x hn h0 hk hx
    obtain ⟨k, rfl⟩ : ∃ m, k = m + 1 := ⟨k - 1, by omega⟩
    have hj : j < (Bf l l.length).length := by omega
    have hc : rdOf false ((Bf l l.length).map (cA l)) (j : Int) = cutAt l ((Bf l l.length).getD j 0) := by
      unfold rdOf
      rw [Int.toNat_natCast, List.getD_eq_getElem?_getD, List.getD_eq_getElem?_getD, List.getElem?_eq_getElem (by simpa using hj), List.getElem?_eq_getElem hj]
      simp only [Option.getD_some, List.getElem_map]
      unfold cA
      rw [decide_eq_false (by have := Bf_ne l l.length j hj h0; omega), Bool.false_or]
    have hy : rd (BY l fr) (j : Int) = at0 (BY l fr) j := rd_at0 _ j (by simpa using hj)
    rw [spec_l07Words.l1, if_pos (by rw [BX_len]; omega), if_neg (by omega), if_pos (by omega), if_pos (by rw [List.length_map]; omega), hc, cutS_eq T hT (BX l) (by rw [BX_len]; omega) (BX_in64 l hp) j h0 (by rw [BX_len]; omega) _ k (by omega), Option.bind_some, hy, w64s hj (by omega)]
    simp only [wout]
    by_cases c : wc l T j = true
    · rw [if_pos c, if_pos (show wcut T _ _ _ _ _ = true from c), if_pos (by rw [List.length_map]; omega), if_pos (by omega), ih (j + 1) k _ (by omega) (by omega) (by omega) (by simp; omega)]
      simp
    · rw [if_neg c, if_neg (show ¬ wcut T _ _ _ _ _ = true from c), ih (j + 1) k _ (by omega) (by omega) (by omega) (by omega)]
      simp
/-! the program's loops -/
abbrev BI (l : List Int) (i : Nat) : List Int := (Bf l i).map (fun i : Nat => (i : Int))
theorem implW_l0 (T : Tls) (R x5 : List Bool) (l : List Int) (hl : l.length ≤ 1048576) (hp : okPts l) (K : Nat) (hK : l.length + 100 ≤ K) : ∀ (d i : Nat), i + d = l.length →
    impl_wordCuts.l0 (K + d + 1) x5 l (l.length : Int) (i : Int) l T R (BI l i) = impl_wordCuts.l1 K x5 1 l T R (BI l l.length) := by
  intro d
  induction d with
  | zero =>
    intro i hn
    obtain rfl : i = l.length := by omega
    rw [Nat.add_zero, impl_wordCuts.l0, if_neg (by omega)]
  | succ d ih =>
    intro i hn
    have hi : i < l.length := by omega
    have hb := Bf_le l i
    have hbl : (BI l i).length < 17592186044416 := by rw [List.length_map]; omega
    have app : kp l i = true → impl_wordCuts.l0 (K + d + 1) x5 l (l.length : Int) ((i + 1 : Nat) : Int) l T R (BI l i ++ [(i : Int)]) = impl_wordCuts.l1 K x5 1 l T R (BI l l.length) := by
      intro c
      have := ih (i + 1) (by omega)
      unfold BI at this ⊢
      rw [Bf_succ, if_pos c, List.map_append] at this
      exact this
    have drp : kp l i = false → impl_wordCuts.l0 (K + d + 1) x5 l (l.length : Int) ((i + 1 : Nat) : Int) l T R (BI l i) = impl_wordCuts.l1 K x5 1 l T R (BI l l.length) := by
      intro c
      have := ih (i + 1) (by omega)
      unfold BI at this ⊢
      rw [Bf_succ, if_neg (by rw [c]; decide), List.append_nil] at this
      exact this
    have pi := pts_in64 l hp i hi
    rw [← Nat.add_assoc, impl_wordCuts.l0, if_pos (by omega), if_pos (by omega), if_pos (by omega), rd_at0 l i hi, catI _ (by omega) _ pi, Option.bind_some, w64s hi (by omega), if_pos hbl]
    by_cases h0 : i = 0
    · rw [if_neg (by omega)]
      exact app (by rw [h0]; rfl)
    · have e1 : wrap64 ((i : Int) - 1) = ((i - 1 : Nat) : Int) := by rw [w64 (by omega) (by omega)]; omega
      have pj := pts_in64 l hp (i - 1) (by omega)
      have hk : kp l i = !bel (at0 l i) (at0 l (i - 1)) := by unfold kp; rw [decide_eq_false h0, Bool.false_or]
      rw [hk] at app drp
      unfold bel at app drp
      rw [if_pos (by omega), cc_eq _ (by omega) _ pi, Option.bind_some, e1, if_pos (show (0 : Int) ≤ ((i - 1 : Nat) : Int) by omega), if_pos (show ((i - 1 : Nat) : Int) < (l.length : Int) by omega), rd_at0 l (i - 1) (by omega), cc_eq _ (by omega) _ pj, Option.bind_some, isSpaceI _ (by omega) _ pj, Option.bind_some]
      have m2 := cc_2 (at0 l i)
      have m1 := cc_1 (at0 l (i - 1))
      generalize at0 l i = p at *
      generalize at0 l (i - 1) = q at *
      have rest : (mrk p || ((kindOf p).1 == 11 && !(p == 7954) && !(p == 173))) = true → (if cc q = 1 then impl_wordCuts.l0 (K + d + 1) x5 l (l.length : Int) ((i + 1 : Nat) : Int) l T R (BI l i ++ [(i : Int)]) else if sp q = true then impl_wordCuts.l0 (K + d + 1) x5 l (l.length : Int) ((i + 1 : Nat) : Int) l T R (BI l i ++ [(i : Int)]) else impl_wordCuts.l0 (K + d + 1) x5 l (l.length : Int) ((i + 1 : Nat) : Int) l T R (BI l i)) = impl_wordCuts.l1 K x5 1 l T R (BI l l.length) := by
        intro h
        rw [h] at app drp
        by_cases a : cc q = 1
        · rw [if_pos a]
          exact app (by rw [m1.1 a]; cases sp q <;> rfl)
        · rw [if_neg a]
          have a' : ctl q = false := Bool.eq_false_iff.2 (fun h => a (m1.2 h))
          cases b : sp q
          · rw [if_neg (by decide)]
            exact drp (by rw [a', b]; rfl)
          · rw [if_pos rfl]
            exact app (by rw [a', b]; rfl)
      by_cases a : cc p = 2
      · rw [if_pos a]
        exact rest (by rw [m2.1 a]; rfl)
      · rw [if_neg a]
        have a' : mrk p = false := Bool.eq_false_iff.2 (fun h => a (m2.2 h))
        by_cases b : (kindOf p).1 = 11
        · rw [if_pos b]
          by_cases c : p = 7954
          · rw [if_pos c]
            exact app (by rw [a', show (p == 7954) = true from beq_iff_eq.2 c]; cases (kindOf p).1 == 11 <;> rfl)
          · rw [if_neg c]
            by_cases e : p = 173
            · rw [if_pos e]
              exact app (by rw [a', show (p == 173) = true from beq_iff_eq.2 e]; cases (kindOf p).1 == 11 <;> cases p == 7954 <;> rfl)
            · rw [if_neg e]
              exact rest (by rw [a', show ((kindOf p).1 == 11) = true from beq_iff_eq.2 b, show (p == 7954) = false from beq_eq_false_iff_ne.2 c, show (p == 173) = false from beq_eq_false_iff_ne.2 e]; rfl)
        · rw [if_neg b]
          exact app (by rw [a', show ((kindOf p).1 == 11) = false from beq_eq_false_iff_ne.2 b]; rfl)
end Go.Proofs.YtmlhnpggjkoinaaDoor.PFnExactWords

/- Cuts of words over a text's points: both texts' rows. -/
import Derived.Test.YtmlhnpggjkoinaaDoorWordBWords
set_option linter.unusedSimpArgs false
set_option linter.unusedVariables false
namespace Go.Proofs.YtmlhnpggjkoinaaDoor.PFnExactWords
open Go.RowKit Go.Proofs.YtmlhnpggjkoinaaDoorW.PrintWords Go.Proofs.YtmlhnpggjkoinaaDoorW.PrintLast Go.Proofs.YtmlhnpggjkoinaaDoorW.PrintMore Go.Proofs.YtmlhnpggjkoinaaDoor.Lib

/-- Whether a point belongs to the one ahead of it. -/
def bel (p q : Int) : Bool := (mrk p || ((kindOf p).1 == 11 && !(p == 7954) && !(p == 173))) && !ctl q && !sp q
theorem belS (k : Nat) (hk : 44 ≤ k) (p q : Int) (hp : in64 p) (hq : in64 q) : spec_l07Belongs.f k p q = some (bel p q) := by
  obtain ⟨k, rfl⟩ : ∃ m, k = m + 1 := ⟨k - 1, by omega⟩
  have e : ∀ b, spec_l07Belongs.j0 (k + 1) q b = some (if b = true then false else !ctl q && !sp q) := by
    intro b
    rw [spec_l07Belongs.j0, ctl_eq k (by omega) q hq, catS k (by omega) q hq]
    simp only [Option.bind_some]
    unfold sp
    cases b <;> cases ctl q <;> rfl
  unfold spec_l07Belongs.f bel
  rw [mrk_eq (k + 1) (by omega) p hp, catS (k + 1) (by omega) p hp]
  simp only [Option.bind_some, e]
  rw [Bool.and_assoc]
  generalize (!ctl q && !sp q) = U
  cases mrk p
  · by_cases a : (kindOf p).1 = 11
    · rw [if_neg (by decide), if_pos a, show ((kindOf p).1 == 11) = true from beq_iff_eq.2 a]
      by_cases b : p = 7954
      · rw [if_pos b, show (p == 7954) = true from beq_iff_eq.2 b]; rfl
      · rw [if_neg b, show (p == 7954) = false from beq_eq_false_iff_ne.2 b]
        cases (p == 173) <;> rfl
    · rw [if_neg (by decide), if_neg a, show ((kindOf p).1 == 11) = false from beq_eq_false_iff_ne.2 a]; rfl
  · rfl
/-- Whether point i is told of by itself. -/
def kp (l : List Int) (i : Nat) : Bool := decide (i = 0) || !bel (at0 l i) (at0 l (i - 1))
/-- The first of the points that are told of by themselves. -/
def Bf (l : List Int) (i : Nat) : List Nat := (List.range i).filter (kp l)
theorem Bf_succ (l : List Int) (i : Nat) : Bf l (i + 1) = Bf l i ++ (if kp l i = true then [i] else []) := by
  unfold Bf
  rw [List.range_succ, List.filter_append]
  congr 1
  by_cases c : kp l i = true
  · rw [if_pos c, List.filter_cons_of_pos c]; rfl
  · rw [if_neg c, List.filter_cons_of_neg c]; rfl
theorem Bf_le (l : List Int) : ∀ i, (Bf l i).length ≤ i
  | 0 => by simp [Bf]
  | i + 1 => by
    have := Bf_le l i
    rw [Bf_succ, List.length_append]
    split <;> simp <;> omega
theorem Bf_pre (l : List Int) (i : Nat) : ∀ d, ∃ r, Bf l (i + d) = Bf l i ++ r
  | 0 => ⟨[], by simp⟩
  | d + 1 => by
    obtain ⟨r, hr⟩ := Bf_pre l i d
    exact ⟨r ++ (if kp l (i + d) = true then [i + d] else []), by rw [show i + (d + 1) = (i + d) + 1 from rfl, Bf_succ, hr, List.append_assoc]⟩
theorem Bf_mono (l : List Int) {i n : Nat} (h : i ≤ n) : (Bf l i).length ≤ (Bf l n).length := by
  obtain ⟨d, rfl⟩ : ∃ d, n = i + d := ⟨n - i, by omega⟩
  obtain ⟨r, hr⟩ := Bf_pre l i d
  rw [hr, List.length_append]; omega
theorem Bf_rank (l : List Int) {i n : Nat} (h : i < n) (c : kp l i = true) : (Bf l n)[(Bf l i).length]? = some i := by
  obtain ⟨d, rfl⟩ : ∃ d, n = (i + 1) + d := ⟨n - (i + 1), by omega⟩
  obtain ⟨r, hr⟩ := Bf_pre l (i + 1) d
  rw [hr, Bf_succ, if_pos c]
  simp
theorem Bf_mem (l : List Int) (n j : Nat) (h : j < (Bf l n).length) : (Bf l n)[j] < n ∧ kp l (Bf l n)[j] = true ∧ (Bf l (Bf l n)[j]).length = j := by
  have hm : (Bf l n)[j] ∈ Bf l n := List.getElem_mem h
  have h1 := List.mem_filter.1 hm
  have h2 : (Bf l n)[j] < n := List.mem_range.1 h1.1
  refine ⟨h2, h1.2, ?_⟩
  have h3 := Bf_rank l h2 h1.2
  have nd : (Bf l n).Nodup := (List.nodup_range).filter _
  have h4 : (Bf l (Bf l n)[j]).length < (Bf l n).length := by
    obtain ⟨a, _⟩ := List.getElem?_eq_some_iff.1 h3
    exact a
  rw [List.getElem?_eq_getElem h4] at h3
  exact (List.getElem_inj nd).1 (Option.some.inj h3)
theorem kp_zero (l : List Int) : kp l 0 = true := rfl
theorem Bf_one (l : List Int) : Bf l 1 = [0] := rfl
theorem Bf_pos (l : List Int) (i : Nat) (h : 0 < i) : 1 ≤ (Bf l i).length := Bf_mono l (i := 1) h
theorem Bf_ne (l : List Int) (n j : Nat) (h : j < (Bf l n).length) (h0 : 1 ≤ j) : 0 < (Bf l n)[j] := by
  have := (Bf_mem l n j h).2.2
  rcases Nat.eq_zero_or_pos (Bf l n)[j] with c | c
  · rw [c] at this
    simp [Bf] at this
    omega
  · exact c
abbrev BX (l : List Int) : List Int := (Bf l l.length).map (at0 l)
/-- Whether a cut of words is ahead of the j-th of them. -/
def wc (l : List Int) (T : List S54) (j : Nat) : Bool := wcut T (at0 (BX l) (j - 1)) (at0 (BX l) j) (bhO (BX l) j) (bfO (BX l) j) (cutAt l ((Bf l l.length).getD j 0))
theorem map_at0 (l : List Int) (B : List Nat) (j : Nat) (h : j < B.length) : at0 (B.map (at0 l)) j = at0 l B[j] := by
  rw [at0_eq _ j (by simpa using h), List.getElem_map]
theorem BX_len (l : List Int) : (BX l).length = (Bf l l.length).length := by simp [BX]
theorem pts_in64 (l : List Int) (hp : okPts l) (i : Nat) (h : i < l.length) : in64 (at0 l i) := by
  have := at0_bd hp i h
  exact ⟨by omega, by omega⟩
theorem BX_in64 (l : List Int) (hp : okPts l) : in64s (BX l) := by
  intro i hi
  rw [BX_len] at hi
  rw [map_at0 l _ i hi]
  exact pts_in64 l hp _ (Bf_mem l _ i hi).1
end Go.Proofs.YtmlhnpggjkoinaaDoor.PFnExactWords

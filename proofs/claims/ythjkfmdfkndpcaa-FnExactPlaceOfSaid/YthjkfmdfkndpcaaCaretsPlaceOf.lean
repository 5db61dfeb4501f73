/- The carets of a row of levels: the program's list and the reference's answer, place by place. -/
import Derived.Test.YthjkfmdfkndpcaaOrderPlaceOf
set_option linter.unusedSimpArgs false
set_option linter.unusedVariables false
namespace Go.Proofs.Ythjkfmdfkndpcaa.PFnExactPlaceOf
open Go.RowKit Go.Proofs.YthjkfmdfkndpcaaW.PrintWords Go.Proofs.YthjkfmdfkndpcaaW.PrintLast Go.Proofs.YthjkfmdfkndpcaaW.PrintMore Go.Proofs.Ythjkfmdfkndpcaa.Lib

/-- Where each place stands. -/
def fillAt (o : List Int) : Nat → Nat → List Int → List Int
  | 0, _, x => x
  | d + 1, j, x => fillAt o d (j + 1) (x.set (rd o (j : Int)).toNat (j : Int))
def Small (n : Nat) (x : List Int) : Prop := x.length = n ∧ ∀ y ∈ x, 0 ≤ y ∧ y ≤ 1000
theorem Small.set {n : Nat} {x : List Int} (h : Small n x) (t j : Nat) (hj : j ≤ 1000) : Small n (x.set t (j : Int)) := by
  refine ⟨by simpa using h.1, fun y hy => ?_⟩
  rcases List.mem_or_eq_of_mem_set hy with hy | rfl
  · exact h.2 y hy
  · omega
theorem fillAt_small (o : List Int) (n : Nat) (ho : o.length ≤ 1000) : ∀ (d j : Nat) (x : List Int), j + d ≤ o.length → Small n x → Small n (fillAt o d j x)
  | 0, _, _, _, h => h
  | d + 1, j, x, hj, h => fillAt_small o n ho d (j + 1) _ (by omega) (h.set _ j (by omega))
theorem seen_l0 (o : List Int) (n : Nat) (hn : n ≤ 1000) (ho : Good n o) : ∀ (d j K : Nat) (x : List Int), j + d = o.length → x.length = n → spec_l09Seen.l0 (K + d + 1) o x (j : Int) = some (fillAt o d j x) := by
  have hol := ho.1
  intro d
  induction d with
  | zero =>
    intro j K x hj hx
    rw [show K + 0 + 1 = K + 1 from rfl, spec_l09Seen.l0, if_neg (by omega)]
    rfl
  | succ d ih =>
    intro j K x hj hx
    have g := ho.at_ j (by omega)
    have r1 := rdx o j (by omega)
    rw [show K + (d + 1) + 1 = (K + d + 1) + 1 from rfl, spec_l09Seen.l0, if_pos (by omega), if_pos (by omega), r1, if_pos g.1, if_pos (by omega), pl hn j (by omega), ih (j + 1) K _ (by omega) (by simpa using hx), fillAt, r1]
theorem carets_l0 (l : List Int) (base : Int) (ahead : Bool) (o : List Int) (n : Nat) (hn : n ≤ 1000) (ho : Good n o) : ∀ (d j K : Nat) (x : List Int), j + d = o.length → x.length = n →
    impl_carets.l0 (K + d + 1) l base ahead (n : Int) x o (o.length : Int) (j : Int) = impl_carets.l1 K l base ahead (n : Int) (fillAt o d j x) (List.replicate (n + 1) 0) ((n + 1 : Nat) : Int) 0 := by
  have hol := ho.1
  intro d
  induction d with
  | zero =>
    intro j K x hj hx
    rw [show K + 0 + 1 = K + 1 from rfl, impl_carets.l0, if_neg (by omega), pl hn n (by omega), if_pos (by omega), if_pos (by omega), Int.toNat_natCast]
    rfl
  | succ d ih =>
    intro j K x hj hx
    have g := ho.at_ j (by omega)
    have r1 := rdx o j (by omega)
    rw [show K + (d + 1) + 1 = (K + d + 1) + 1 from rfl, impl_carets.l0, if_pos (by omega), if_pos (by omega), if_pos (by omega), r1, if_pos g.1, if_pos (by omega), pl hn j (by omega), ih (j + 1) K _ (by omega) (by simpa using hx), fillAt, r1]
/-- The caret of a place. -/
def caretAt (l pos : List Int) (base : Int) (ahead : Bool) (a : Nat) : Int :=
  if (if ahead = true then (a : Int) - 1 else (a : Int)) < 0 then base * (l.length : Int)
  else if (if ahead = true then (a : Int) - 1 else (a : Int)) ≥ (l.length : Int) then (1 - base) * (l.length : Int)
  else if (ahead == ((Int.tmod (rd l (if ahead = true then (a : Int) - 1 else (a : Int))) 2) == 0)) = true then rd pos (if ahead = true then (a : Int) - 1 else (a : Int)) + 1 else rd pos (if ahead = true then (a : Int) - 1 else (a : Int))
theorem rd_small {n : Nat} {x : List Int} (h : Small n x) (t : Nat) (ht : t < n) : 0 ≤ rd x (t : Int) ∧ rd x (t : Int) ≤ 1000 := by
  have hl := h.1
  rw [rdx x t (by omega)]
  exact h.2 _ (List.getElem_mem _)
theorem small01 {base : Int} (hb : 0 ≤ base ∧ base ≤ 1) (n : Nat) (hn : n ≤ 1000) : 0 ≤ base * (n : Int) ∧ base * (n : Int) ≤ 1000 ∧ 0 ≤ (1 - base) * (n : Int) ∧ (1 - base) * (n : Int) ≤ 1000 := by
  rcases (show base = 0 ∨ base = 1 by omega) with rfl | rfl <;> omega
theorem specCaret (l pos : List Int) (base : Int) (ahead : Bool) (n : Nat) (hl : l.length = n) (hn : n ≤ 1000) (hp : Small n pos) (hb : 0 ≤ base ∧ base ≤ 1) (a : Nat) (ha : a ≤ n) (K : Nat) :
    spec_l09Caret.f (K + 1) l pos base (a : Int) ahead = some (caretAt l pos base ahead a) := by
  subst hl
  have hpl := hp.1
  have hs := small01 hb l.length hn
  have w1 : wrap64 (base * (l.length : Int)) = base * (l.length : Int) := w64 (by omega) (by omega)
  have w2 : wrap64 (1 - base) = 1 - base := w64 (by omega) (by omega)
  have w3 : wrap64 ((1 - base) * (l.length : Int)) = (1 - base) * (l.length : Int) := w64 (by omega) (by omega)
  have key : ∀ i : Int, -1 ≤ i → i ≤ (l.length : Int) → spec_l09Caret.j0 (K + 1) l pos base ahead (l.length : Int) i = some (if i < 0 then base * (l.length : Int) else if i ≥ (l.length : Int) then (1 - base) * (l.length : Int) else if (ahead == ((Int.tmod (rd l i) 2) == 0)) = true then rd pos i + 1 else rd pos i) := by
    intro i h0 h1
    rw [spec_l09Caret.j0, w1, w2, w3]
    by_cases c : i < 0
    · rw [if_pos c, if_pos c]
    · rw [if_neg c, if_neg c]
      by_cases d : i ≥ (l.length : Int)
      · rw [if_pos d, if_pos d]
      · have hr := rd_small hp i.toNat (by omega)
        rw [Int.toNat_of_nonneg (by omega)] at hr
        rw [if_neg d, if_neg d, if_pos (by omega), if_pos (by omega), if_pos (by omega), w64 (x := rd pos i + 1) (by omega) (by omega)]
        split <;> rfl
  unfold spec_l09Caret.f caretAt
  cases ahead with
  | true =>
    rw [if_pos rfl, w64 (by omega) (by omega), key _ (by omega) (by omega)]
    rfl
  | false =>
    rw [if_neg (by decide), key _ (by omega) (by omega)]
    rfl
theorem caret_round (l pos : List Int) (base : Int) (ahead : Bool) (n : Nat) (hl : l.length = n) (hn : n ≤ 1000) (hp : Small n pos) (hb : 0 ≤ base ∧ base ≤ 1) (a : Nat) (ha : a ≤ n) (x : List Int) (hx : x.length = n + 1) (K : Nat) :
    impl_carets.l1 (K + 3) l base ahead (n : Int) pos x ((n + 1 : Nat) : Int) (a : Int) = impl_carets.l1 K l base ahead (n : Int) pos (x.set a (caretAt l pos base ahead a)) ((n + 1 : Nat) : Int) ((a + 1 : Nat) : Int) := by
  subst hl
  have hpl := hp.1
  have wa : wrap64 ((a : Int) + 1) = ((a + 1 : Nat) : Int) := pl hn a ha
  have key : ∀ i : Int, -1 ≤ i → i ≤ (l.length : Int) → (i < 0 → a = 0) → (i ≥ (l.length : Int) → a = l.length) → impl_carets.j2 (K + 2) l base ahead (l.length : Int) pos x (a : Int) i ((l.length + 1 : Nat) : Int) (a : Int) = impl_carets.l1 K l base ahead (l.length : Int) pos (x.set a (if i < 0 then base * (l.length : Int) else if i ≥ (l.length : Int) then (1 - base) * (l.length : Int) else if (ahead == ((Int.tmod (rd l i) 2) == 0)) = true then rd pos i + 1 else rd pos i)) ((l.length + 1 : Nat) : Int) ((a + 1 : Nat) : Int) := by
    intro i h0 h1 hz hf
    have out : (i < 0 ∨ i ≥ (l.length : Int)) → impl_carets.j2 (K + 2) l base ahead (l.length : Int) pos x (a : Int) i ((l.length + 1 : Nat) : Int) (a : Int) = if base = 1 then impl_carets.l1 K l base ahead (l.length : Int) pos (x.set a ((l.length : Int) - (a : Int))) ((l.length + 1 : Nat) : Int) ((a + 1 : Nat) : Int) else impl_carets.l1 K l base ahead (l.length : Int) pos (x.set a (a : Int)) ((l.length + 1 : Nat) : Int) ((a + 1 : Nat) : Int) := by
      intro h
      have j3 : impl_carets.j3 (K + 1) l base ahead (l.length : Int) pos x (a : Int) i ((l.length + 1 : Nat) : Int) (a : Int) true = if base = 1 then impl_carets.l1 K l base ahead (l.length : Int) pos (x.set a ((l.length : Int) - (a : Int))) ((l.length + 1 : Nat) : Int) ((a + 1 : Nat) : Int) else impl_carets.l1 K l base ahead (l.length : Int) pos (x.set a (a : Int)) ((l.length + 1 : Nat) : Int) ((a + 1 : Nat) : Int) := by
        rw [impl_carets.j3, if_pos rfl, if_pos (by omega), if_pos (by omega), Option.bind_some, Int.toNat_natCast, List.set_set, wa, w64 (x := (l.length : Int) - (a : Int)) (by omega) (by omega)]
      rw [show K + 2 = (K + 1) + 1 from rfl, impl_carets.j2]
      by_cases c : i < 0
      · rw [if_pos c, j3]
      · rw [if_neg c, decide_eq_true (by omega), j3]
    by_cases c : i < 0
    · have ea := hz c
      rw [out (.inl c), if_pos c]
      subst ea
      rcases (show base = 0 ∨ base = 1 by omega) with rfl | rfl
      · rw [if_neg (by decide), show (0 : Int) * (l.length : Int) = ((0 : Nat) : Int) by omega]
      · rw [if_pos rfl, show (1 : Int) * (l.length : Int) = (l.length : Int) - ((0 : Nat) : Int) by omega]
    · by_cases d : i ≥ (l.length : Int)
      · have ea := hf d
        rw [out (.inr d), if_neg c, if_pos d]
        rcases (show base = 0 ∨ base = 1 by omega) with rfl | rfl
        · rw [if_neg (by decide), show (1 - 0 : Int) * (l.length : Int) = (a : Int) by omega]
        · rw [if_pos rfl, show (1 - 1 : Int) * (l.length : Int) = (l.length : Int) - (a : Int) by omega]
      · have hr := rd_small hp i.toNat (by omega)
        rw [Int.toNat_of_nonneg (by omega)] at hr
        rw [if_neg c, if_neg d, show K + 2 = (K + 1) + 1 from rfl, impl_carets.j2, if_neg c, decide_eq_false d, impl_carets.j3, if_neg (by decide), if_pos (by omega), if_pos (by omega), if_pos (by omega), if_pos (by omega), Option.bind_some, if_pos (by omega), Int.toNat_natCast, List.set_set, wa, rdx _ a (by simp; omega), List.getElem_set_self, w64 (x := rd pos i + 1) (by omega) (by omega)]
        have e : (((Int.tmod (rd l i) 2) == 0) == ahead) = (ahead == ((Int.tmod (rd l i) 2) == 0)) := by
          generalize ((Int.tmod (rd l i) 2) == 0) = z
          cases z <;> cases ahead <;> rfl
        rw [e]
        split <;> rfl
  unfold caretAt
  rw [show K + 3 = (K + 2) + 1 from rfl, impl_carets.l1, if_pos (by omega)]
  cases ahead with
  | true =>
    rw [if_pos rfl, w64 (x := (a : Int) - 1) (by omega) (by omega), key _ (by omega) (by omega) (by omega) (by omega)]
    rfl
  | false =>
    rw [if_neg (by decide), key _ (by omega) (by omega) (by omega) (by omega)]
    rfl
def caretsOf (l pos : List Int) (base : Int) (ahead : Bool) : List Int := (List.range (l.length + 1)).map (caretAt l pos base ahead)
theorem caretsOf_length (l pos : List Int) (base : Int) (ahead : Bool) : (caretsOf l pos base ahead).length = l.length + 1 := by simp [caretsOf]
theorem caretsOf_get (l pos : List Int) (base : Int) (ahead : Bool) (t : Nat) (h : t < (caretsOf l pos base ahead).length) : (caretsOf l pos base ahead)[t] = caretAt l pos base ahead t := by simp [caretsOf]
theorem caret_rounds (l pos : List Int) (base : Int) (ahead : Bool) (n : Nat) (hl : l.length = n) (hn : n ≤ 1000) (hp : Small n pos) (hb : 0 ≤ base ∧ base ≤ 1) : ∀ (d a K : Nat) (x : List Int), a + d = n + 1 → x.length = n + 1 → x.take a = (caretsOf l pos base ahead).take a →
    impl_carets.l1 (K + 3 * d + 1) l base ahead (n : Int) pos x ((n + 1 : Nat) : Int) (a : Int) = some (caretsOf l pos base ahead) := by
  have hc := caretsOf_length l pos base ahead
  intro d
  induction d with
  | zero =>
    intro a K x ha hx ht
    rw [List.take_of_length_le (by omega), List.take_of_length_le (by omega)] at ht
    rw [show K + 3 * 0 + 1 = K + 1 from rfl, impl_carets.l1, if_neg (by omega), ht]
  | succ d ih =>
    intro a K x ha hx ht
    rw [show K + 3 * (d + 1) + 1 = (K + 3 * d + 1) + 3 by omega, caret_round l pos base ahead n hl hn hp hb a (by omega) x hx]
    refine ih (a + 1) K _ (by omega) (by simpa using hx) ?_
    rw [List.take_succ_eq_append_getElem (by simp; omega), List.take_succ_eq_append_getElem (by omega), List.take_set_of_le (Nat.le_refl a), ht, caretsOf_get]
    simp
/-- The program's list and the reference's answers. -/
theorem carets_eq (l : List Int) (hn : l.length ≤ 1000) : ∃ T pos, ∀ K, T ≤ K → spec_l09Seen.f K l = some pos ∧ ∀ (base : Int) (ahead : Bool), (0 ≤ base ∧ base ≤ 1) → impl_carets.f K l base ahead = some (caretsOf l pos base ahead) ∧ ∀ a, a ≤ l.length → spec_l09Caret.f K l pos base (a : Int) ahead = some (caretAt l pos base ahead a) := by
  obtain ⟨T, o, go, h⟩ := order_eq l hn
  have hol := go.1
  have sm : Small l.length (fillAt o o.length 0 (List.replicate l.length 0)) := by
    refine fillAt_small o l.length (by omega) _ _ _ (by omega) ⟨by simp, fun y hy => ?_⟩
    rw [(List.mem_replicate.1 hy).2]; omega
  refine ⟨T + 10000, fillAt o o.length 0 (List.replicate l.length 0), fun K hK => ⟨?_, fun base ahead hb => ⟨?_, fun a ha => ?_⟩⟩⟩
  · unfold spec_l09Seen.f
    have e := seen_l0 o l.length hn go o.length 0 (K - o.length - 1) (List.replicate l.length 0) (by omega) (by simp)
    rw [show K - o.length - 1 + o.length + 1 = K by omega] at e
    rw [(h K (by omega)).1, Option.bind_some, if_pos (by omega), if_pos (by simp; omega), Int.toNat_natCast]
    exact e
  · unfold impl_carets.f
    have e := carets_l0 l base ahead o l.length hn go o.length 0 (K - o.length - 1) (List.replicate l.length 0) (by omega) (by simp)
    rw [show K - o.length - 1 + o.length + 1 = K by omega] at e
    rw [if_pos (by omega), if_pos (by simp; omega), (h K (by omega)).2, Option.bind_some, Int.toNat_natCast]
    have f := caret_rounds l (fillAt o o.length 0 (List.replicate l.length 0)) base ahead l.length rfl hn sm hb (l.length + 1) 0 (K - o.length - 1 - 3 * (l.length + 1) - 1) (List.replicate (l.length + 1) 0) (by omega) (by simp) (by simp)
    rw [show K - o.length - 1 - 3 * (l.length + 1) - 1 + 3 * (l.length + 1) + 1 = K - o.length - 1 by omega] at f
    exact e.trans f
  · have e := specCaret l (fillAt o o.length 0 (List.replicate l.length 0)) base ahead l.length rfl hn sm hb a ha (K - 1)
    rw [show K - 1 + 1 = K by omega] at e
    exact e

end Go.Proofs.Ythjkfmdfkndpcaa.PFnExactPlaceOf

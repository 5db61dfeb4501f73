/- The program's EncodeShift returns what the reference's returns. For every input: the law answers true; each argument reads afterwards as it read before. -/
import Derived.Test.YtdagmhbockeleaaDoorPFnExactEncodeShiftx
import Derived.Test.YtdagmhbockeleaaDoorLib
import Derived.Test.YtdagmhbockeleaaDoorPointsEncodeShift
set_option linter.unusedSimpArgs false
set_option linter.unusedVariables false
namespace Go.Proofs.YtdagmhbockeleaaDoor.Pure
open Go.RowKit Go.Proofs.YtdagmhbockeleaaDoor.PFnExactEncodeShift Go.Proofs.YtdagmhbockeleaaDoorW.PrintWords Go.Proofs.YtdagmhbockeleaaDoorW.PrintLast Go.Proofs.YtdagmhbockeleaaDoor.Lib

/-- How a point is written in a state. -/
def sh (p st : Int) : Option (List Int) :=
  if p < 32 then (if p = 27 then none else some [p]) else if st = 0 then (if p < 127 then some [p] else none)
  else if st < 4 then (if 256 * (st + 1) ≤ p ∧ p ≤ 256 * (st + 1) + 95 then some [32 + (p - 256 * (st + 1))] else none)
  else (if 24576 ≤ p ∧ p ≤ 26623 then some [33 + (p - 24576) / 94, 33 + (p - 24576) % 94] else none)
def lett (s : Int) : Int := bt (⟨#[65, 66, 67, 68, 87]⟩ : ByteArray) s
def okP (p : Int) : Prop := 0 ≤ p ∧ p ≤ 1114111
theorem sh_some (p st : Int) (w : List Int) (h : sh p st = some w) : (p < 127 ∧ w = [p]) ∨ (256 * (st + 1) ≤ p ∧ p ≤ 256 * (st + 1) + 95 ∧ w = [32 + (p - 256 * (st + 1))]) ∨ (24576 ≤ p ∧ p ≤ 26623 ∧ w = [33 + (p - 24576) / 94, 33 + (p - 24576) % 94]) := by
  unfold sh at h
  by_cases c1 : p < 32
  · rw [if_pos c1] at h
    by_cases c2 : p = 27
    · rw [if_pos c2] at h; cases h
    · rw [if_neg c2] at h; injection h with h; exact .inl ⟨by omega, h.symm⟩
  · rw [if_neg c1] at h
    by_cases c2 : st = 0
    · rw [if_pos c2] at h
      by_cases c3 : p < 127
      · rw [if_pos c3] at h; injection h with h; exact .inl ⟨c3, h.symm⟩
      · rw [if_neg c3] at h; cases h
    · rw [if_neg c2] at h
      by_cases c3 : st < 4
      · rw [if_pos c3] at h
        by_cases c4 : 256 * (st + 1) ≤ p ∧ p ≤ 256 * (st + 1) + 95
        · rw [if_pos c4] at h; injection h with h; exact .inr (.inl ⟨c4.1, c4.2, h.symm⟩)
        · rw [if_neg c4] at h; cases h
      · rw [if_neg c3] at h
        by_cases c4 : 24576 ≤ p ∧ p ≤ 26623
        · rw [if_pos c4] at h; injection h with h; exact .inr (.inr ⟨c4.1, c4.2, h.symm⟩)
        · rw [if_neg c4] at h; cases h
theorem sh_len (p st : Int) (w : List Int) (h : sh p st = some w) : w.length ≤ 2 := by
  rcases sh_some p st w h with ⟨_, e⟩ | ⟨_, _, e⟩ | ⟨_, _, e⟩ <;> rw [e] <;> simp
theorem sh_range (p st : Int) (hp : okP p) (w : List Int) (h : sh p st = some w) : ∀ x ∈ w, 0 ≤ x ∧ x ≤ 255 := by
  unfold okP at hp
  rcases sh_some p st w h with ⟨_, e⟩ | ⟨_, _, e⟩ | ⟨_, _, e⟩ <;> rw [e] <;> intro x hx <;> simp only [List.mem_cons, List.not_mem_nil, or_false] at hx <;> omega
theorem eshin (p a b : Int) : impl_in.f p a b = some (decide (a ≤ p ∧ p ≤ b)) := by
  unfold impl_in.f
  by_cases h : p ≥ a
  · rw [if_pos h]; congr 1; apply decide_eq_decide.2; omega
  · rw [if_neg h]; congr 1; symm; apply decide_eq_false; omega
/-- The program's word and the reference's, of what 'sh' says. -/
def says (o : Option (List Int)) (r : ByteArray × Bool) : Prop := match o with
  | some w => r = (strOfNums w, true)
  | none => r.2 = false
theorem inShift_eq (p st : Int) (hp : okP p) (hs : 0 ≤ st ∧ st ≤ 4) : ∃ r, impl_inShift.f p st = some r ∧ says (sh p st) r := by
  unfold okP at hp
  have a1 : wrap64 (st + 1) = st + 1 := w64 (by omega) (by omega)
  have a2 : wrap64 (256 * (st + 1)) = 256 * (st + 1) := w64 (by omega) (by omega)
  have a3 : wrap64 (256 * (st + 1) + 95) = 256 * (st + 1) + 95 := w64 (by omega) (by omega)
  have a4 : wrap64 (32 + p) = 32 + p := w64 (by omega) (by omega)
  have a5 : wrap64 (32 + p - 256 * (st + 1)) = 32 + p - 256 * (st + 1) := w64 (by omega) (by omega)
  have a6 : wrap64 (p - 24576) = p - 24576 := w64 (by omega) (by omega)
  unfold impl_inShift.f sh
  simp only [eshin, a1, a2, a3, a4, a5, a6, Option.bind_some]
  by_cases c1 : p < 32
  · simp only [if_pos c1]
    refine ⟨_, rfl, ?_⟩
    by_cases c2 : p = 27
    · subst c2; rfl
    · rw [if_neg c2]
      show (_, _) = (_, _)
      rw [show p % 256 = p by omega, bne_iff_ne.2 c2]
  · simp only [if_neg c1]
    by_cases c2 : st = 0
    · simp only [if_pos c2]
      refine ⟨_, rfl, ?_⟩
      by_cases c3 : p < 127
      · rw [if_pos c3]
        show (_, _) = (_, _)
        rw [show p % 256 = p by omega, decide_eq_true c3]
      · rw [if_neg c3]
        show decide _ = false
        exact decide_eq_false c3
    · simp only [if_neg c2]
      by_cases c3 : st < 4
      · simp only [if_pos c3]
        refine ⟨_, rfl, ?_⟩
        by_cases c4 : 256 * (st + 1) ≤ p ∧ p ≤ 256 * (st + 1) + 95
        · rw [if_pos c4]
          show (_, _) = (_, _)
          rw [decide_eq_true c4, show (32 + p - 256 * (st + 1)) % 256 = 32 + (p - 256 * (st + 1)) by omega]
        · rw [if_neg c4]
          show decide _ = false
          exact decide_eq_false c4
      · simp only [if_neg c3]
        refine ⟨_, rfl, ?_⟩
        by_cases c4 : 24576 ≤ p ∧ p ≤ 26623
        · rw [if_pos c4]
          show (_, _) = (_, _)
          have b1 : Int.tdiv (p - 24576) 94 = (p - 24576) / 94 := Int.tdiv_eq_ediv_of_nonneg (by omega)
          have b2 : Int.tmod (p - 24576) 94 = (p - 24576) % 94 := Int.tmod_eq_emod_of_nonneg (by omega)
          rw [decide_eq_true c4, b1, b2, w64 (x := (p - 24576) / 94) (by omega) (by omega), w64 (x := 33 + (p - 24576) / 94) (by omega) (by omega), w64 (x := 33 + (p - 24576) % 94) (by omega) (by omega),
            show (33 + (p - 24576) / 94) % 256 = 33 + (p - 24576) / 94 by omega, show (33 + (p - 24576) % 94) % 256 = 33 + (p - 24576) % 94 by omega]
        · rw [if_neg c4]
          show decide _ = false
          exact decide_eq_false c4
theorem l03In_j2 (p st : Int) (hp : okP p) (hs : 0 ≤ st ∧ st ≤ 4) (hc : ¬ p < 32) (k : Nat) (b : Bool) (h0 : st = 0 → sh p st = none) (hb : b = true ↔ (1 ≤ st ∧ st ≤ 3 ∧ 256 * (st + 1) ≤ p ∧ p ≤ 256 * (st + 1) + 95)) : ∃ r, spec_l03In.j2 (k + 1) st p b = some r ∧ says (sh p st) r := by
  unfold okP at hp
  rw [spec_l03In.j2]
  by_cases c : b = true
  · have h := hb.1 c
    rw [if_pos c]
    refine ⟨_, rfl, ?_⟩
    unfold sh
    rw [if_neg hc, if_neg (by omega), if_pos (by omega), if_pos ⟨h.2.2.1, h.2.2.2⟩]
    show (_, _) = (_, _)
    rw [Int.tmod_eq_emod_of_nonneg (by omega), w64 (by omega) (by omega), show (32 + p % 256) % 256 = 32 + (p - 256 * (st + 1)) by omega]
  · rw [if_neg c]
    by_cases c4 : st = 4
    · subst c4
      rw [if_pos rfl]
      by_cases d1 : p ≥ 24576
      · rw [if_pos d1]
        by_cases d2 : p ≤ 26623
        · rw [if_pos d2]
          refine ⟨_, rfl, ?_⟩
          unfold sh
          rw [if_neg hc, if_neg (by decide), if_neg (by decide), if_pos ⟨d1, d2⟩]
          show (_, _) = (_, _)
          have b1 : Int.tdiv (p - 24576) 94 = (p - 24576) / 94 := Int.tdiv_eq_ediv_of_nonneg (by omega)
          have b2 : Int.tmod (p - 24576) 94 = (p - 24576) % 94 := Int.tmod_eq_emod_of_nonneg (by omega)
          rw [w64 (x := p - 24576) (by omega) (by omega), b1, b2, w64 (x := (p - 24576) / 94) (by omega) (by omega), w64 (x := 33 + (p - 24576) / 94) (by omega) (by omega), w64 (x := 33 + (p - 24576) % 94) (by omega) (by omega),
            show (33 + (p - 24576) / 94) % 256 = 33 + (p - 24576) / 94 by omega, show (33 + (p - 24576) % 94) % 256 = 33 + (p - 24576) % 94 by omega]
        · rw [if_neg d2]
          refine ⟨_, rfl, ?_⟩
          unfold sh
          rw [if_neg hc, if_neg (by decide), if_neg (by decide), if_neg (by omega)]; rfl
      · rw [if_neg d1]
        refine ⟨_, rfl, ?_⟩
        unfold sh
        rw [if_neg hc, if_neg (by decide), if_neg (by decide), if_neg (by omega)]; rfl
    · rw [if_neg c4]
      refine ⟨_, rfl, ?_⟩
      by_cases c5 : st = 0
      · rw [h0 c5]; rfl
      · unfold sh
        rw [if_neg hc, if_neg c5, if_pos (by omega), if_neg (fun e => c (hb.2 ⟨by omega, by omega, e.1, e.2⟩))]; rfl
theorem l03In_eq (p st : Int) (hp : okP p) (hs : 0 ≤ st ∧ st ≤ 4) (k : Nat) (hk : 4 ≤ k) : ∃ r, spec_l03In.f k st p = some r ∧ says (sh p st) r := by
  have hp' := hp
  unfold okP at hp
  obtain ⟨k, rfl⟩ : ∃ m, k = m + 3 := ⟨k - 3, by omega⟩
  unfold spec_l03In.f
  by_cases c1 : p < 32
  · rw [if_pos c1, spec_l03In.j0]
    by_cases c2 : p = 27
    · subst c2
      have e : sh 27 st = none := rfl
      rw [if_neg (by decide)]
      have tail : ∃ r, spec_l03In.j1 (k + 2) st 27 false = some r ∧ says (sh 27 st) r := by
        rw [spec_l03In.j1, if_neg (by decide)]
        have e2 : ∀ b, (b = true → False) → ∃ r, spec_l03In.j2 (k + 1) st 27 b = some r ∧ says (sh 27 st) r := by
          intro b hb
          rw [spec_l03In.j2, if_neg hb, e]
          split
          · rw [if_neg (by decide)]; exact ⟨_, rfl, rfl⟩
          · exact ⟨_, rfl, rfl⟩
        have w1 : wrap64 (256 + wrap64 (256 * st)) = 256 + 256 * st := by rw [w64 (x := 256 * st) (by omega) (by omega), w64 (by omega) (by omega)]
        split
        · split
          · rename_i g1 g2
            rw [w1, if_neg (by omega)]
            exact e2 _ (by decide)
          · exact e2 _ (by decide)
        · exact e2 _ (by decide)
      split
      · rw [if_neg (by decide)]; exact tail
      · exact tail
    · rw [if_pos (bne_iff_ne.2 c2)]
      refine ⟨_, rfl, ?_⟩
      unfold sh
      rw [if_pos c1, if_neg c2]
      show (_, _) = (_, _)
      rw [show p % 256 = p by omega]
  · rw [if_neg c1, spec_l03In.j0, if_neg (by decide)]
    have w1 : wrap64 (256 + wrap64 (256 * st)) = 256 + 256 * st := by rw [w64 (x := 256 * st) (by omega) (by omega), w64 (by omega) (by omega)]
    have w2 : wrap64 (351 + wrap64 (256 * st)) = 351 + 256 * st := by rw [w64 (x := 256 * st) (by omega) (by omega), w64 (by omega) (by omega)]
    by_cases c2 : st = 0
    · rw [if_pos c2, if_pos (by omega), spec_l03In.j1]
      by_cases c3 : p ≤ 126
      · rw [decide_eq_true c3, if_pos rfl]
        refine ⟨_, rfl, ?_⟩
        unfold sh
        rw [if_neg c1, if_pos c2, if_pos (by omega)]
        show (_, _) = (_, _)
        rw [show p % 256 = p by omega]
      · rw [decide_eq_false c3, if_neg (by decide), if_neg (by omega)]
        exact l03In_j2 p st hp' hs c1 k false (fun _ => by unfold sh; rw [if_neg c1, if_pos c2, if_neg (by omega)]) ⟨fun h => (by cases h), fun h => (by omega)⟩
    · rw [if_neg c2, spec_l03In.j1, if_neg (by decide), if_pos (by omega)]
      have n0 : st = 0 → sh p st = none := fun h => absurd h c2
      by_cases c3 : st ≤ 3
      · rw [if_pos c3, w1, w2]
        by_cases c4 : p ≥ 256 + 256 * st
        · rw [if_pos c4]
          exact l03In_j2 p st hp' hs c1 k _ n0 ⟨fun h => by have := of_decide_eq_true h; omega, fun h => decide_eq_true (by omega)⟩
        · rw [if_neg c4]
          exact l03In_j2 p st hp' hs c1 k _ n0 ⟨fun h => (by cases h), fun h => (by omega)⟩
      · rw [if_neg c3]
        exact l03In_j2 p st hp' hs c1 k _ n0 ⟨fun h => (by cases h), fun h => (by omega)⟩

/-- The first state, from s on, in which a point can be written. -/
def search (p : Int) : Nat → Int → Option (Int × List Int)
  | 0, _ => none
  | d + 1, s => match sh p s with
    | some w => some (s, w)
    | none => search p d (s + 1)
def fin (y : List Int) : Int × Int × ByteArray := if (y.length : Int) > 65536 then (2, 0, (⟨#[]⟩ : ByteArray)) else (0, 0, strOfNums y)
/-- What both come to. -/
def run (l : List Int) : Nat → Nat → List Int → Int → Int × Int × ByteArray
  | 0, _, x, st => if st = 0 then fin x else fin (x ++ [27, 65])
  | d + 1, n, x, st => match sh (rd l n) st with
    | some w => run l d (n + 1) (x ++ w) (if rd l n = 10 then 0 else st)
    | none => match search (rd l n) 5 0 with
      | some (s, w) => run l d (n + 1) (x ++ [27, lett s] ++ w) (if rd l n = 10 then 0 else s)
      | none => (5, (n : Int), (⟨#[]⟩ : ByteArray))
theorem search_range (p : Int) : ∀ d s (z : Int × List Int), search p d s = some z → s ≤ z.1 ∧ z.1 < s + d ∧ sh p z.1 = some z.2 := by
  intro d
  induction d with
  | zero => intro s z h; cases h
  | succ d ih =>
    intro s z h
    unfold search at h
    split at h
    · rename_i w hw
      injection h with h; subst h
      exact ⟨by simp, by simp; omega, hw⟩
    · have := ih _ _ h
      refine ⟨by omega, by omega, this.2.2⟩

theorem ptOk (l : List Int) (hl : l.length ≤ 1048576) (hp : ∀ p ∈ l, isPt p = true) (n : Nat) (h : n < l.length) : okP (rd l (n : Int)) := by
  have _u1 := hl
  have _u2 := hp
  rw [rd_nat l n h]
  have := (isPt_iff _).1 (hp _ (List.getElem_mem h))
  unfold okP; omega
theorem impl_take (l : List Int) (hl : l.length ≤ 1048576) (hp : ∀ p ∈ l, isPt p = true) (n : Nat) (h : n < l.length) (x : List Int) (hx : x.length ≤ 100000000) (st s10 : Int) (w : List Int) (hw : w.length ≤ 2) (hr : ∀ z ∈ w, 0 ≤ z ∧ z ≤ 255) (R : Int × Int × ByteArray) (K : Nat)
    (hR : ∀ k, K ≤ k → impl_EncodeShift.l0 k l (l.length : Int) ((n + 1 : Nat) : Int) (x ++ w) (if rd l (n : Int) = 10 then 0 else st) = some R) :
    ∀ k, K + 2 ≤ k → impl_EncodeShift.l1 k (n : Int) (rd l (n : Int)) (strOfNums w) true s10 l (l.length : Int) (n : Int) x st = some R := by
  have _u1 := hl
  have _u2 := hp
  intro k hk
  obtain ⟨k, rfl⟩ : ∃ m, k = m + 2 := ⟨k - 2, by omega⟩
  have e := w64s (n := n) (m := l.length) h (by omega)
  have sz : (strOfNums w).size = w.length := by
    have := congrArg List.length (bytesOf_strOfNums w hr)
    simpa [bytesOf] using this
  rw [impl_EncodeShift.l1, if_pos rfl, impl_EncodeShift.j2, if_neg (by decide), if_pos rfl, if_pos (by rw [sz]; omega), bytesOf_strOfNums w hr]
  simp only [Option.bind_some, e]
  have := hR k (by omega)
  split
  · rename_i c; rw [if_pos c] at this; exact this
  · rename_i c; rw [if_neg c] at this; exact this
theorem impl_find (l : List Int) (hl : l.length ≤ 1048576) (hp : ∀ p ∈ l, isPt p = true) (n : Nat) (h : n < l.length) (x : List Int) (hx : x.length ≤ 10000000) (st : Int) (R : Int × Int × ByteArray) (K : Nat) : ∀ (d : Nat) (s : Int) (v : ByteArray), s + d = 5 → 0 ≤ s →
    (match search (rd l (n : Int)) d s with
      | some (s', w) => ∀ k, K ≤ k → impl_EncodeShift.l0 k l (l.length : Int) ((n + 1 : Nat) : Int) (x ++ [27, lett s'] ++ w) (if rd l (n : Int) = 10 then 0 else s') = some R
      | none => R = (5, (n : Int), (⟨#[]⟩ : ByteArray))) →
    ∀ k, K + 2 * d + 4 ≤ k → impl_EncodeShift.l1 k (n : Int) (rd l (n : Int)) v false s l (l.length : Int) (n : Int) x st = some R := by
  intro d
  induction d with
  | zero =>
    intro s v hs h0 hR k hk
    obtain ⟨k, rfl⟩ : ∃ m, k = m + 2 := ⟨k - 2, by omega⟩
    have hR' : R = (5, (n : Int), (⟨#[]⟩ : ByteArray)) := hR
    rw [impl_EncodeShift.l1, if_neg (by decide), decide_eq_false (show ¬ s < 5 by omega), impl_EncodeShift.j2, if_neg (by decide), if_neg (by decide), hR']
  | succ d ih =>
    intro s v hs h0 hR k hk
    obtain ⟨k, rfl⟩ : ∃ m, k = m + 2 := ⟨k - 2, by omega⟩
    have po := ptOk l hl hp n h
    obtain ⟨r, hr, hsay⟩ := inShift_eq (rd l (n : Int)) s po ⟨h0, by omega⟩
    have e1 : wrap64 (s + 1) = s + 1 := w64 (by omega) (by omega)
    rw [impl_EncodeShift.l1, if_neg (by decide), decide_eq_true (show s < 5 by omega), impl_EncodeShift.j2, if_pos rfl, hr]
    simp only [Option.bind_some, e1]
    unfold search at hR
    cases hsh : sh (rd l (n : Int)) s with
    | some w =>
      rw [hsh] at hsay hR
      have hr2 : r = (strOfNums w, true) := hsay
      subst hr2
      rw [if_pos rfl, if_pos h0, if_pos (by omega), if_pos (by simp; omega)]
      refine impl_take l hl hp n h (x ++ [27, lett s]) (by simp; omega) s (s + 1) w (sh_len _ _ _ hsh) (sh_range _ _ po _ hsh) R K ?_ k (by omega)
      exact hR
    | none =>
      rw [hsh] at hsay hR
      have hr2 : r.2 = false := hsay
      rw [hr2, if_neg (by decide)]
      exact ih (s + 1) r.1 (by omega) (by omega) hR k (by omega)
theorem impl_run (l : List Int) (hl : l.length ≤ 1048576) (hp : ∀ p ∈ l, isPt p = true) : ∀ (d n : Nat) (x : List Int) (st : Int), n + d = l.length → x.length ≤ 4 * n → 0 ≤ st ∧ st ≤ 4 → ∀ k, 20 * d + 1 ≤ k →
    impl_EncodeShift.l0 k l (l.length : Int) (n : Int) x st = some (run l d n x st) := by
  intro d
  induction d with
  | zero =>
    intro n x st hn hx hs k hk
    obtain ⟨k, rfl⟩ : ∃ m, k = m + 1 := ⟨k - 1, by omega⟩
    rw [impl_EncodeShift.l0, if_neg (by omega)]
    unfold run fin
    split
    · split <;> rfl
    · rw [if_pos (by decide)]
      show ((if x.length + 2 < _ then _ else _) = _)
      rw [if_pos (by omega)]
      show ((if ((x ++ [27, 65]).length : Int) > 65536 then _ else _) = _)
      split <;> rfl
  | succ d ih =>
    intro n x st hn hx hs k hk
    obtain ⟨k, rfl⟩ : ∃ m, k = m + 1 := ⟨k - 1, by omega⟩
    have hlt : n < l.length := by omega
    have po := ptOk l hl hp n hlt
    obtain ⟨r, hr, hsay⟩ := inShift_eq (rd l (n : Int)) st po hs
    rw [impl_EncodeShift.l0, if_pos (by omega), if_pos (by omega), if_pos (by omega), hr]
    simp only [Option.bind_some]
    cases hsh : sh (rd l (n : Int)) st with
    | some w =>
      rw [hsh] at hsay
      have hr2 : r = (strOfNums w, true) := hsay
      subst hr2
      have hwl := sh_len _ _ _ hsh
      refine impl_take l hl hp n hlt x (by omega) st 0 w hwl (sh_range _ _ po _ hsh) _ (20 * d + 1) ?_ k (by omega)
      intro k' hk'
      rw [ih (n + 1) (x ++ w) _ (by omega) (by simp; omega) (by split <;> omega) k' hk', run, hsh]
    | none =>
      rw [hsh] at hsay
      have hr2 : r.2 = false := hsay
      rw [hr2]
      refine impl_find l hl hp n hlt x (by omega) st _ (20 * d + 1) 5 0 r.1 (by omega) (by omega) ?_ k (by omega)
      rw [run, hsh]
      cases hf : search (rd l (n : Int)) 5 0 with
      | some z =>
        obtain ⟨s', w⟩ := z
        have hz := search_range _ _ _ _ hf
        have hwl := sh_len _ _ _ hz.2.2
        intro k' hk'
        dsimp only at hz hwl ⊢
        rw [ih (n + 1) _ _ (by omega) (by simp; omega) (by split <;> omega) k' hk']
      | none => rfl
theorem spec_take (l : List Int) (hl : l.length ≤ 1048576) (hp : ∀ p ∈ l, isPt p = true) (n : Nat) (h : n < l.length) (x : List Int) (hx : x.length ≤ 100000000) (st s10 : Int) (w : List Int) (hw : w.length ≤ 2) (hr : ∀ z ∈ w, 0 ≤ z ∧ z ≤ 255) (R : Int × Int × ByteArray) (K : Nat)
    (hR : ∀ k, K ≤ k → spec_EncodeShift.l0 k l (x ++ w) (if rd l (n : Int) = 10 then 0 else st) ((n + 1 : Nat) : Int) = some R) :
    ∀ k, K + 2 ≤ k → spec_EncodeShift.l1 k l x st (n : Int) (strOfNums w) true s10 = some R := by
  have _u1 := hl
  have _u2 := hp
  intro k hk
  obtain ⟨k, rfl⟩ : ∃ m, k = m + 2 := ⟨k - 2, by omega⟩
  have e := w64s (n := n) (m := l.length) h (by omega)
  have sz : (strOfNums w).size = w.length := by
    have := congrArg List.length (bytesOf_strOfNums w hr)
    simpa [bytesOf] using this
  have fj : spec_EncodeShift.j2 (k + 1) l x st (n : Int) (strOfNums w) true s10 false = some R := by
    rw [spec_EncodeShift.j2, if_neg (by decide), if_pos rfl, if_pos (by rw [sz]; omega), bytesOf_strOfNums w hr]
    simp only [Option.bind_some, e]
    rw [if_pos (by omega), if_pos (by omega)]
    have := hR k (by omega)
    split
    · rename_i c; rw [if_pos c] at this; exact this
    · rename_i c; rw [if_neg c] at this; exact this
  rw [spec_EncodeShift.l1]
  split
  · exact fj
  · exact fj
theorem spec_find (l : List Int) (hl : l.length ≤ 1048576) (hp : ∀ p ∈ l, isPt p = true) (n : Nat) (h : n < l.length) (x : List Int) (hx : x.length ≤ 10000000) (st : Int) (R : Int × Int × ByteArray) (K : Nat) : ∀ (d : Nat) (s : Int) (v : ByteArray), s + d = 5 → 0 ≤ s →
    (match search (rd l (n : Int)) d s with
      | some (s', w) => ∀ k, K ≤ k → spec_EncodeShift.l0 k l (x ++ [27, lett s'] ++ w) (if rd l (n : Int) = 10 then 0 else s') ((n + 1 : Nat) : Int) = some R
      | none => R = (5, (n : Int), (⟨#[]⟩ : ByteArray))) →
    ∀ k, K + 2 * d + 8 ≤ k → spec_EncodeShift.l1 k l x st (n : Int) v false s = some R := by
  intro d
  induction d with
  | zero =>
    intro s v hs h0 hR k hk
    obtain ⟨k, rfl⟩ : ∃ m, k = m + 2 := ⟨k - 2, by omega⟩
    have hR' : R = (5, (n : Int), (⟨#[]⟩ : ByteArray)) := hR
    rw [spec_EncodeShift.l1, if_neg (by omega), spec_EncodeShift.j2, if_neg (by decide), if_neg (by decide), hR']
  | succ d ih =>
    intro s v hs h0 hR k hk
    obtain ⟨k, rfl⟩ : ∃ m, k = m + 2 := ⟨k - 2, by omega⟩
    have po := ptOk l hl hp n h
    obtain ⟨r, hr, hsay⟩ := l03In_eq (rd l (n : Int)) s po ⟨h0, by omega⟩ k (by omega)
    have e1 : wrap64 (s + 1) = s + 1 := w64 (by omega) (by omega)
    rw [spec_EncodeShift.l1, if_pos (by omega), spec_EncodeShift.j2, if_pos (show (!false) = true from rfl), if_pos (by omega), if_pos (by omega), hr]
    simp only [Option.bind_some, e1]
    unfold search at hR
    cases hsh : sh (rd l (n : Int)) s with
    | some w =>
      rw [hsh] at hsay hR
      have hr2 : r = (strOfNums w, true) := hsay
      subst hr2
      rw [if_pos rfl]
      unfold spec_l03Letter.f
      rw [if_pos h0, if_pos (by omega)]
      simp only [Option.bind_some]
      rw [if_pos (by simp; omega)]
      refine spec_take l hl hp n h (x ++ [27, lett s]) (by simp; omega) s (s + 1) w (sh_len _ _ _ hsh) (sh_range _ _ po _ hsh) R K ?_ k (by omega)
      exact hR
    | none =>
      rw [hsh] at hsay hR
      have hr2 : r.2 = false := hsay
      rw [hr2, if_neg (by decide)]
      exact ih (s + 1) r.1 (by omega) (by omega) hR k (by omega)
theorem spec_run (l : List Int) (hl : l.length ≤ 1048576) (hp : ∀ p ∈ l, isPt p = true) : ∀ (d n : Nat) (x : List Int) (st : Int), n + d = l.length → x.length ≤ 4 * n → 0 ≤ st ∧ st ≤ 4 → ∀ k, 20 * d + 1 ≤ k →
    spec_EncodeShift.l0 k l x st (n : Int) = some (run l d n x st) := by
  intro d
  induction d with
  | zero =>
    intro n x st hn hx hs k hk
    obtain ⟨k, rfl⟩ : ∃ m, k = m + 1 := ⟨k - 1, by omega⟩
    rw [spec_EncodeShift.l0, if_neg (by omega)]
    unfold run fin
    split
    · split <;> rfl
    · show ((if x.length + 2 < _ then _ else _) = _)
      rw [if_pos (by omega)]
      show ((if ((x ++ [27, 65]).length : Int) > 65536 then _ else _) = _)
      split <;> rfl
  | succ d ih =>
    intro n x st hn hx hs k hk
    obtain ⟨k, rfl⟩ : ∃ m, k = m + 1 := ⟨k - 1, by omega⟩
    have hlt : n < l.length := by omega
    have po := ptOk l hl hp n hlt
    obtain ⟨r, hr, hsay⟩ := l03In_eq (rd l (n : Int)) st po hs k (by omega)
    rw [spec_EncodeShift.l0, if_pos (by omega), if_pos (by omega), hr]
    simp only [Option.bind_some]
    cases hsh : sh (rd l (n : Int)) st with
    | some w =>
      rw [hsh] at hsay
      have hr2 : r = (strOfNums w, true) := hsay
      subst hr2
      have hwl := sh_len _ _ _ hsh
      refine spec_take l hl hp n hlt x (by omega) st 0 w hwl (sh_range _ _ po _ hsh) _ (20 * d + 1) ?_ k (by omega)
      intro k' hk'
      rw [ih (n + 1) (x ++ w) _ (by omega) (by simp; omega) (by split <;> omega) k' hk', run, hsh]
    | none =>
      rw [hsh] at hsay
      have hr2 : r.2 = false := hsay
      rw [hr2]
      refine spec_find l hl hp n hlt x (by omega) st _ (20 * d + 1) 5 0 r.1 (by omega) (by omega) ?_ k (by omega)
      rw [run, hsh]
      cases hf : search (rd l (n : Int)) 5 0 with
      | some z =>
        obtain ⟨s', w⟩ := z
        have hz := search_range _ _ _ _ hf
        have hwl := sh_len _ _ _ hz.2.2
        intro k' hk'
        dsimp only at hz hwl ⊢
        rw [ih (n + 1) _ _ (by omega) (by simp; omega) (by split <;> omega) k' hk']
      | none => rfl
theorem both (s : ByteArray) (hs : s.size ≤ 1048576) (k : Nat) (hk : 20 * s.size + 20 ≤ k) : ∃ r, spec_EncodeShift.f k s = some r ∧ impl_EncodeShift.f k s = some r := by
  have hl := pts_len s
  unfold spec_EncodeShift.f impl_EncodeShift.f impl_long.f
  rw [specPoints_eq s k (by omega) hs, points_eq s k (by omega) hs]
  simp only [Option.bind_some, decide_eq_true_eq]
  by_cases c : (s.size : Int) > 65536
  · rw [if_pos c, if_pos c]; exact ⟨_, rfl, rfl⟩
  · rw [if_neg c, if_neg c]
    have h1 := spec_run (pts s) (by omega) (pts_pt s) (pts s).length 0 [] 0 (by omega) (by simp) (by omega) k (by omega)
    have h2 := impl_run (pts s) (by omega) (pts_pt s) (pts s).length 0 [] 0 (by omega) (by simp) (by omega) k (by omega)
    exact ⟨_, h1, h2⟩
theorem FnExactEncodeShift : laws_FnExactEncodeShift.Pure := by
  intro s _
  by_cases c : (s.size : Int) > 1048576
  · exact ⟨0, by unfold laws_FnExactEncodeShift.f; rw [if_pos c]⟩
  · obtain ⟨k, hk⟩ : ∃ k, 20 * s.size + 20 ≤ k := ⟨_, Nat.le_refl _⟩
    obtain ⟨r, h1, h2⟩ := both s (by omega) k hk
    refine ⟨k, ?_⟩
    unfold laws_FnExactEncodeShift.f
    rw [if_neg c, h1, h2]
    simp only [Option.bind_some]
    unfold laws_eqLegacyOut.f
    simp

end Go.Proofs.YtdagmhbockeleaaDoor.Pure

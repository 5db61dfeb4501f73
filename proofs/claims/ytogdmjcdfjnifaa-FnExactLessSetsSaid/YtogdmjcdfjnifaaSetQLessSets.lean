/- Sets by the ends of their spans, and by their points: one row of spans; the two texts themselves. -/
import Derived.Test.YtogdmjcdfjnifaaSetPLessSets
set_option linter.unusedSimpArgs false
set_option linter.unusedVariables false
namespace Go.Proofs.Ytogdmjcdfjnifaa.PFnExactLessSets
open Go.RowKit Go.Lib Go.Proofs.YtogdmjcdfjnifaaW.PrintWords Go.Proofs.YtogdmjcdfjnifaaW.PrintLast Go.Proofs.YtogdmjcdfjnifaaW.PrintMore Go.Proofs.Ytogdmjcdfjnifaa.Lib Go.Proofs.Ytogdmjcdfjnifaa.EvKit

/-! ### sorted, each once -/
theorem arr_get (x : List Int) (j : Nat) (h : j < x.length) : x.toArray[j]! = x[j] := by simp [h]
theorem keeps_iff (x : List Int) (j : Nat) : keeps x.toArray j = true ↔ (j = 0 ∨ x.toArray[j]! ≠ x.toArray[j - 1]!) := by simp [keeps]
theorem compL_lt (x : List Int) (hs : x.Pairwise (· ≤ ·)) : (SetW.compL x).Pairwise (· < ·) := by
  unfold SetW.compL compactUpTo
  rw [List.pairwise_map]
  refine List.Pairwise.imp_of_mem (R := (· < ·)) ?_ (List.pairwise_lt_range.filter _)
  intro a b ha hb hab
  have ha1 : a < x.length := by simpa using (List.mem_filter.1 ha).1
  have hb1 : b < x.length := by simpa using (List.mem_filter.1 hb).1
  have hk := (keeps_iff x b).1 (List.mem_filter.1 hb).2
  have hp := List.pairwise_iff_getElem.1 hs
  rcases hk with h | h
  · omega
  · rw [arr_get x b hb1, arr_get x (b - 1) (by omega)] at h
    rw [arr_get x a ha1, arr_get x b hb1]
    have h1 : x[b - 1] ≤ x[b] := hp (b - 1) b (by omega) hb1 (by omega)
    have h2 : x[a] ≤ x[b - 1] := by
      by_cases c : a = b - 1
      · simp [c]
      · exact hp a (b - 1) ha1 (by omega) (by omega)
    omega
theorem mem_compL (x : List Int) (y : Int) : y ∈ SetW.compL x ↔ y ∈ x := by
  have key : ∀ j (h : j < x.length), x[j] ∈ SetW.compL x := by
    intro j
    induction j with
    | zero =>
      intro h
      unfold SetW.compL compactUpTo
      refine List.mem_map.2 ⟨0, List.mem_filter.2 ⟨by simpa using h, (keeps_iff x 0).2 (.inl rfl)⟩, arr_get x 0 h⟩
    | succ j ih =>
      intro h
      by_cases c : x[j + 1] = x[j]
      · rw [c]; exact ih (by omega)
      · unfold SetW.compL compactUpTo
        refine List.mem_map.2 ⟨j + 1, List.mem_filter.2 ⟨by simpa using h, (keeps_iff x (j + 1)).2 (.inr ?_)⟩, arr_get x (j + 1) h⟩
        rw [arr_get x (j + 1) h, show j + 1 - 1 = j by omega, arr_get x j (by omega)]
        exact c
  constructor
  · intro h
    unfold SetW.compL compactUpTo at h
    obtain ⟨j, hj, rfl⟩ := List.mem_map.1 h
    have hj1 : j < x.length := by simpa using (List.mem_filter.1 hj).1
    rw [arr_get x j hj1]
    exact List.getElem_mem hj1
  · intro h
    obtain ⟨j, hj, rfl⟩ := List.mem_iff_getElem.1 h
    exact key j hj
theorem sortL_le (x : List Int) : (SetW.sortL x).Pairwise (· ≤ ·) := by
  have h := List.pairwise_mergeSort (le := fun a b : Int => decide (a ≤ b)) (fun a b c h1 h2 => by simp at h1 h2 ⊢; omega) (fun a b => by simp; omega) x
  exact h.imp (fun h => by simpa using h)
theorem mem_sortL (x : List Int) (y : Int) : y ∈ SetW.sortL x ↔ y ∈ x := by unfold SetW.sortL; exact List.mem_mergeSort
/-! ### the ends -/
def endsOf (L : List Sp) : List Int := L.flatMap fun s => [s.f0, s.f1 + 1]
theorem endsOf_len : ∀ L : List Sp, (endsOf L).length = 2 * L.length
  | [] => rfl
  | s :: L => by
    have := endsOf_len L
    simp only [endsOf, List.flatMap_cons, List.length_append, List.length_cons, List.length_nil] at this ⊢
    omega
theorem mem_endsOf (L : List Sp) (y : Int) : y ∈ endsOf L ↔ ∃ s ∈ L, y = s.f0 ∨ y = s.f1 + 1 := by
  simp [endsOf]
/-- What is known of the row of the ends. -/
structure Ends (a b : List Sp) (e : List Int) (N : Nat) : Prop where
  up : e.Pairwise (· < ·)
  bd : ∀ y ∈ e, 0 ≤ y ∧ y ≤ (N : Int)
  fa : ∀ j, j < a.length → (el a j).f0 ∈ e ∧ (el a j).f1 + 1 ∈ e
  fb : ∀ j, j < b.length → (el b j).f0 ∈ e ∧ (el b j).f1 + 1 ∈ e
theorem good_mem {l : List Sp} (hg : Good l) {s : Sp} (hs : s ∈ l) : 0 ≤ s.f0 ∧ s.f0 ≤ s.f1 ∧ s.f1 ≤ 32767 := by
  obtain ⟨j, hj, rfl⟩ := List.mem_iff_getElem.1 hs
  have := hg j hj
  rw [← el_eq l j hj]
  exact ⟨this.1, this.2.1, this.2.2.1⟩
theorem ends_ok (a b : List Sp) (hga : Good a) (hgb : Good b) (N : Nat) (hN : N = 32768) : Ends a b (SetW.compL (SetW.sortL (endsOf (a ++ b)))) N where
  up := compL_lt _ (sortL_le _)
  bd := fun y hy => by
    rw [mem_compL, mem_sortL, mem_endsOf] at hy
    obtain ⟨s, hs, h⟩ := hy
    have : 0 ≤ s.f0 ∧ s.f0 ≤ s.f1 ∧ s.f1 ≤ 32767 := by
      rcases List.mem_append.1 hs with h | h
      · exact good_mem hga h
      · exact good_mem hgb h
    rcases h with rfl | rfl <;> omega
  fa := fun j hj => by
    rw [mem_compL, mem_sortL, mem_endsOf, mem_compL, mem_sortL, mem_endsOf, el_eq a j hj]
    have hm : a[j] ∈ a ++ b := List.mem_append.2 (.inl (List.getElem_mem hj))
    exact ⟨⟨_, hm, .inl rfl⟩, ⟨_, hm, .inr rfl⟩⟩
  fb := fun j hj => by
    rw [mem_compL, mem_sortL, mem_endsOf, mem_compL, mem_sortL, mem_endsOf, el_eq b j hj]
    have hm : b[j] ∈ a ++ b := List.mem_append.2 (.inr (List.getElem_mem hj))
    exact ⟨⟨_, hm, .inl rfl⟩, ⟨_, hm, .inr rfl⟩⟩
theorem up_part {e : List Int} (up : e.Pairwise (· < ·)) {y : Int} (hy : y ∈ e) (i : Nat) (hi : i + 1 < e.length) : y ≤ e[i] ∨ e[i + 1] ≤ y := by
  obtain ⟨j, hj, rfl⟩ := List.mem_iff_getElem.1 hy
  have hp := List.pairwise_iff_getElem.1 up
  by_cases c : j ≤ i
  · left
    by_cases d : j = i
    · subst d; exact Int.le_refl _
    · exact Int.le_of_lt (hp j i hj (by omega) (by omega))
  · right
    by_cases d : j = i + 1
    · subst d; exact Int.le_refl _
    · exact Int.le_of_lt (hp (i + 1) j hi hj (by omega))
theorem up_first {e : List Int} (up : e.Pairwise (· < ·)) {y : Int} (hy : y ∈ e) (h0 : 0 < e.length) : e[0] ≤ y := by
  obtain ⟨j, hj, rfl⟩ := List.mem_iff_getElem.1 hy
  have hp := List.pairwise_iff_getElem.1 up
  by_cases d : j = 0
  · subst d; exact Int.le_refl _
  · exact Int.le_of_lt (hp 0 j h0 hj (by omega))
theorem up_last {e : List Int} (up : e.Pairwise (· < ·)) {y : Int} (hy : y ∈ e) (i : Nat) (hi : i + 1 = e.length) : y ≤ e[i] := by
  obtain ⟨j, hj, rfl⟩ := List.mem_iff_getElem.1 hy
  have hp := List.pairwise_iff_getElem.1 up
  by_cases d : j = i
  · subst d; exact Int.le_refl _
  · exact Int.le_of_lt (hp j i hj (by omega) (by omega))
theorem has_const {l : List Sp} {e : List Int} (up : e.Pairwise (· < ·)) (hm : ∀ j, j < l.length → (el l j).f0 ∈ e ∧ (el l j).f1 + 1 ∈ e) (i : Nat) (hi : i + 1 < e.length) (q : Int) (h1 : e[i] ≤ q) (h2 : q < e[i + 1]) : hasB l q = hasB l e[i] := by
  rw [Bool.eq_iff_iff, hasB_iff, hasB_iff]
  constructor
  · rintro ⟨j, hj, a, b⟩
    have x0 := up_part up (hm j hj).1 i hi
    have x1 := up_part up (hm j hj).2 i hi
    exact ⟨j, hj, by omega, by omega⟩
  · rintro ⟨j, hj, a, b⟩
    have x0 := up_part up (hm j hj).1 i hi
    have x1 := up_part up (hm j hj).2 i hi
    exact ⟨j, hj, by omega, by omega⟩
theorem has_first {l : List Sp} {e : List Int} (up : e.Pairwise (· < ·)) (hm : ∀ j, j < l.length → (el l j).f0 ∈ e ∧ (el l j).f1 + 1 ∈ e) (q : Int) (hq : ∀ h : 0 < e.length, q < e[0]) : hasB l q = false := by
  rw [← Bool.not_eq_true, hasB_iff]
  rintro ⟨j, hj, a, b⟩
  have hy := (hm j hj).1
  have h0 : 0 < e.length := List.length_pos_of_mem hy
  have := up_first up hy h0
  have := hq h0
  omega
theorem has_last {l : List Sp} {e : List Int} (up : e.Pairwise (· < ·)) (hm : ∀ j, j < l.length → (el l j).f0 ∈ e ∧ (el l j).f1 + 1 ∈ e) (i : Nat) (hi : i + 1 = e.length) (q : Int) (hq : e[i] ≤ q) : hasB l q = false := by
  rw [← Bool.not_eq_true, hasB_iff]
  rintro ⟨j, hj, a, b⟩
  have := up_last up (hm j hj).2 i hi
  omega
/-! ### the program -/
def fB (x y : Bool) : Bool := (impl_LessSets_1.f x y).getD false
theorem fB_eq (x y : Bool) : impl_LessSets_1.f x y = some (fB x y) := by cases x <;> cases y <;> rfl
theorem fB_ff : fB false false = false := rfl
noncomputable def gP (a b : List Sp) (p : Int) : Bool := fB (hasB a p) (hasB b p)
theorem l1_ev (a b : List Sp) (hla : a.length ≤ 1000) (hlb : b.length ≤ 1000) (hga : Good a) (hgb : Good b) (N : Nat) (hN : N = 32768) (e : List Int) (he : Ends a b e N) (hle : e.length ≤ 1000000) : ∀ (d i : Nat) (out : List Sp) (hi : i + 1 + d = e.length), out.length ≤ i →
    Ev (fun k => impl_setOfAny.l1 k a b e out (i : Int)) (foldC (gP a b) ((N : Int) - e[i]).toNat e[i] out) := by
  intro d
  induction d with
  | zero =>
    intro i out hi ho
    have hw : wrap64 ((i : Int) + 1) = ((i + 1 : Nat) : Int) := by rw [w64 (by omega) (by omega)]; omega
    refine succ_ ?_
    simp only [impl_setOfAny.l1, hw, if_neg (show ¬ ((i + 1 : Nat) : Int) < (e.length : Int) by omega)]
    rw [foldC_false _ _ _ _ (fun q h1 h2 => by
      unfold gP
      rw [has_last he.up he.fa i (by omega) q h1, has_last he.up he.fb i (by omega) q h1, fB_ff])]
    exact Ev.now _
  | succ d ih =>
    intro i out hi ho
    have hlt : i + 1 < e.length := by omega
    have hw : wrap64 ((i : Int) + 1) = ((i + 1 : Nat) : Int) := by rw [w64 (by omega) (by omega)]; omega
    have hb0 := he.bd _ (List.getElem_mem (show i < e.length by omega))
    have hb1 := he.bd _ (List.getElem_mem hlt)
    have hinc : e[i] < e[i + 1] := (List.pairwise_iff_getElem.1 he.up) i (i + 1) (by omega) hlt (by omega)
    have hr0 : rd e (i : Int) = e[i] := rd_nat e i (by omega)
    have hr1 : rd e ((i + 1 : Nat) : Int) = e[i + 1] := rd_nat e (i + 1) hlt
    have hp : wrap64 (e[i] - 1) = e[i] - 1 := w64 (by omega) (by omega)
    have hq : wrap64 (e[i + 1] - 1) = e[i + 1] - 1 := w64 (by omega) (by omega)
    have hpre : ∀ R, Ev (fun k => if gP a b e[i] = true then (if (out.length : Int) > 0 then (if 0 ≤ (wrap64 ((out.length : Int) - 1)) then (if (wrap64 ((out.length : Int) - 1)) < (out.length : Int) then (if ((rdP out (wrap64 ((out.length : Int) - 1))).f1) = e[i] - 1 then (if (0 : Int) ≤ ((i + 1 : Nat) : Int) then (impl_setOfAny.l1 k a b e (out.set ((wrap64 ((out.length : Int) - 1)) : Int).toNat (⟨(rdP out (wrap64 ((out.length : Int) - 1))).f0, e[i + 1] - 1, (rdP out (wrap64 ((out.length : Int) - 1))).f2⟩ : Sp)) ((i + 1 : Nat) : Int)) else (none)) else (if (0 : Int) ≤ ((i + 1 : Nat) : Int) then (if out.length < 5864062014805 then (impl_setOfAny.l1 k a b e (out ++ [(⟨e[i], e[i + 1] - 1, 1⟩ : Sp)]) ((i + 1 : Nat) : Int)) else (none)) else (none))) else (none)) else (none)) else (if (0 : Int) ≤ ((i + 1 : Nat) : Int) then (if out.length < 5864062014805 then (impl_setOfAny.l1 k a b e (out ++ [(⟨e[i], e[i + 1] - 1, 1⟩ : Sp)]) ((i + 1 : Nat) : Int)) else (none)) else (none))) else (impl_setOfAny.l1 k a b e out ((i + 1 : Nat) : Int))) R → Ev (fun k => impl_setOfAny.l1 k a b e out (i : Int)) R := by
      intro R hR
      refine succ_ ?_
      simp only [impl_setOfAny.l1, hw, if_pos (show ((i + 1 : Nat) : Int) < (e.length : Int) by omega), if_pos (show (0 : Int) ≤ (i : Int) by omega), if_pos (show (i : Int) < (e.length : Int) by omega), hr0, hr1, hp, hq]
      refine Ev.bind (g := fun k => impl_has.f k a e[i]) (has_ev a e[i] (by omega) hga) ?_
      refine Ev.bind (g := fun k => impl_has.f k b e[i]) (has_ev b e[i] (by omega) hgb) ?_
      simp only [fB_eq, Option.bind_some]
      exact hR
    refine hpre _ ?_
    obtain ⟨m, hm⟩ : ∃ m : Nat, (m : Int) + 1 = e[i + 1] - e[i] := ⟨(e[i + 1] - e[i] - 1).toNat, by omega⟩
    have hsplit : ((N : Int) - e[i]).toNat = (m + 1) + ((N : Int) - e[i + 1]).toNat := by omega
    rw [hsplit, foldC_add]
    have hst : e[i] + ((m + 1 : Nat) : Int) = e[i + 1] := by omega
    have hcon : ∀ q, e[i] ≤ q → q < e[i] + ((m + 1 : Nat) : Int) → gP a b q = gP a b e[i] := fun q h1 h2 => by
      unfold gP
      rw [has_const he.up he.fa i hlt q h1 (by omega), has_const he.up he.fb i hlt q h1 (by omega)]
    have hlen := blockC_len out e[i] (e[i + 1] - 1)
    by_cases g : gP a b e[i] = true
    · rw [foldC_block _ m _ _ (fun q h1 h2 => by rw [hcon q h1 h2, g]), hst, show e[i] + (m : Int) = e[i + 1] - 1 by omega]
      have hn := ih (i + 1) (blockC out e[i] (e[i + 1] - 1)) (by omega) (by omega)
      simp only [if_pos g, if_pos (show (0 : Int) ≤ ((i + 1 : Nat) : Int) by omega), if_pos (show out.length < 5864062014805 by omega)]
      by_cases c : (out.length : Int) > 0
      · have hl : wrap64 ((out.length : Int) - 1) = (out.length : Int) - 1 := by rw [w64 (by omega) (by omega)]
        simp only [if_pos c, hl, if_pos (show (0 : Int) ≤ (out.length : Int) - 1 by omega), if_pos (show (out.length : Int) - 1 < (out.length : Int) by omega)]
        by_cases f : (rdP out ((out.length : Int) - 1)).f1 = e[i] - 1
        · simp only [if_pos f]
          have hb : blockC out e[i] (e[i + 1] - 1) = out.set ((out.length : Int) - 1).toNat ⟨(rdP out ((out.length : Int) - 1)).f0, e[i + 1] - 1, (rdP out ((out.length : Int) - 1)).f2⟩ := by
            unfold blockC
            rw [if_pos c, if_pos f]
          rw [hb] at hn ⊢
          exact hn
        · simp only [if_neg f]
          have hb : blockC out e[i] (e[i + 1] - 1) = out ++ [⟨e[i], e[i + 1] - 1, 1⟩] := by
            unfold blockC
            rw [if_pos c, if_neg f]
          rw [hb] at hn ⊢
          exact hn
      · simp only [if_neg c]
        have hb : blockC out e[i] (e[i + 1] - 1) = out ++ [⟨e[i], e[i + 1] - 1, 1⟩] := by
          unfold blockC
          rw [if_neg c]
        rw [hb] at hn ⊢
        exact hn
    · have hff : foldC (gP a b) (m + 1) e[i] out = out := foldC_false _ _ _ _ (fun q h1 h2 => by rw [hcon q h1 h2]; simpa using g)
      rw [hff, hst]
      simp only [if_neg g]
      exact ih (i + 1) out (by omega) (by omega)
theorem l1_all (a b : List Sp) (hla : a.length ≤ 1000) (hlb : b.length ≤ 1000) (hga : Good a) (hgb : Good b) (N : Nat) (hN : N = 32768) (e : List Int) (he : Ends a b e N) (hle : e.length ≤ 1000000) : Ev (fun k => impl_setOfAny.l1 k a b e [] 0) (foldC (gP a b) N 0 []) := by
  by_cases h0 : 0 < e.length
  · have h := l1_ev a b hla hlb hga hgb N hN e he hle (e.length - 1) 0 [] (by omega) (by simp)
    have hb0 := he.bd _ (List.getElem_mem h0)
    have hs : N = e[0].toNat + ((N : Int) - e[0]).toNat := by omega
    have hf : foldC (gP a b) N 0 [] = foldC (gP a b) ((N : Int) - e[0]).toNat e[0] [] := by
      have h2 := foldC_add (gP a b) e[0].toNat ((N : Int) - e[0]).toNat 0 []
      rw [← hs] at h2
      have hff : foldC (gP a b) e[0].toNat 0 [] = [] := foldC_false _ _ _ _ (fun q h1 h2 => by
        unfold gP
        rw [has_first he.up he.fa q (fun _ => by omega), has_first he.up he.fb q (fun _ => by omega), fB_ff])
      rw [h2, hff, show (0 : Int) + (e[0].toNat : Int) = e[0] from by omega]
    rw [hf]
    exact h
  · rw [foldC_false _ _ _ _ (fun q h1 h2 => by
      unfold gP
      rw [has_first he.up he.fa q (fun h => absurd h h0), has_first he.up he.fb q (fun h => absurd h h0), fB_ff])]
    refine succ_ ?_
    have hw : wrap64 (0 + 1) = 1 := by rw [w64 (by omega) (by omega)]; rfl
    simp only [impl_setOfAny.l1, hw, if_neg (show ¬ (1 : Int) < (e.length : Int) by omega)]
    exact Ev.now _
theorem l0_ev (a b : List Sp) (hla : a.length ≤ 1000) (hlb : b.length ≤ 1000) (hga : Good a) (hgb : Good b) (N : Nat) (hN : N = 32768) (L : List Sp) (hL : L.length ≤ 2000) (hs : ∀ s ∈ L, 0 ≤ s.f0 ∧ s.f0 ≤ s.f1 ∧ s.f1 ≤ 32767) (R : List Sp) (hR : Ev (fun k => impl_setOfAny.l1 k a b (SetW.compL (SetW.sortL (endsOf L))) [] 0) R) : ∀ (d i : Nat), i + d = L.length →
    Ev (fun k => impl_setOfAny.l0 k a b (endsOf (L.take i)) L (L.length : Int) (i : Int)) R := by
  intro d
  induction d with
  | zero =>
    intro i hi
    have hl := endsOf_len L
    rw [List.take_of_length_le (by omega)]
    refine succ_ ?_
    simp only [impl_setOfAny.l0, if_neg (show ¬ (i : Int) < (L.length : Int) by omega), if_pos (show ((endsOf L).length : Int) ≤ 1152921504606846975 by omega), slices_Compact_int64_int64.f, Option.bind_some]
    exact hR
  | succ d ih =>
    intro i hi
    have hlt : i < L.length := by omega
    have hm := hs _ (List.getElem_mem hlt)
    have hl := endsOf_len (L.take i)
    rw [List.length_take] at hl
    have hw : wrap64 (L[i].f1 + 1) = L[i].f1 + 1 := w64 (by omega) (by omega)
    have hrd : rd_T57 L (i : Int) = L[i] := el_eq L i hlt
    refine succ_ ?_
    simp only [impl_setOfAny.l0, if_pos (show (i : Int) < (L.length : Int) by omega), if_pos (show (0 : Int) ≤ (i : Int) by omega), hrd, hw, Option.bind_some, List.length_cons, List.length_nil, if_pos (show (endsOf (L.take i)).length + (0 + 1 + 1) < 17592186044416 by omega), w64s hlt (by omega)]
    have e : endsOf (L.take (i + 1)) = endsOf (L.take i) ++ [L[i].f0, L[i].f1 + 1] := by
      rw [List.take_succ_eq_append_getElem hlt, endsOf, List.flatMap_append]
      simp [endsOf]
    have := ih (i + 1) (by omega)
    rw [e] at this
    exact this
theorem any_ev (a b : List Sp) (hla : a.length ≤ 1000) (hlb : b.length ≤ 1000) (hga : Good a) (hgb : Good b) (N : Nat) (hN : N = 32768) (z : Int) : Ev (fun k => impl_setOfAny.f k a b z) (foldC (gP a b) N 0 []) := by
  unfold impl_setOfAny.f impl_Span.f
  simp only [if_pos (show a.length + b.length < 5864062014805 by omega), Option.bind_some]
  have he := ends_ok a b hga hgb N hN
  have hle : (SetW.compL (SetW.sortL (endsOf (a ++ b)))).length ≤ 1000000 := by
    have h1 := SetW.compL_le (SetW.sortL (endsOf (a ++ b)))
    rw [SetW.sortL_length, endsOf_len, List.length_append] at h1
    omega
  have h := l0_ev a b hla hlb hga hgb N hN (a ++ b) (by rw [List.length_append]; omega) (fun s hs => by
    rcases List.mem_append.1 hs with h | h
    · exact good_mem hga h
    · exact good_mem hgb h) _ (l1_all a b hla hlb hga hgb N hN _ he hle) (a ++ b).length 0 (by omega)
  exact h
/-! ### the reference -/
def one1 (s : Sp) : Sp := ⟨s.f0, s.f1, 1⟩
theorem ones_ev (X : List Sp) (hX : X.length ≤ 1000000) : Ev (fun k => spec_l04Ones.f k X) (X.map one1) := by
  have key : ∀ (d i : Nat), i + d = X.length → Ev (fun k => spec_l04Ones.l0 k X ((X.take i).map one1) (i : Int)) (X.map one1) := by
    intro d
    induction d with
    | zero =>
      intro i hi
      rw [List.take_of_length_le (by omega)]
      refine succ_ ?_
      simp only [spec_l04Ones.l0, if_neg (show ¬ (i : Int) < (X.length : Int) by omega)]
      exact Ev.now _
    | succ d ih =>
      intro i hi
      have hlt : i < X.length := by omega
      have hrd : rd_T57 X (i : Int) = X[i] := el_eq X i hlt
      have hlen : ((X.take i).map one1).length < 5864062014805 := by rw [List.length_map, List.length_take]; omega
      refine succ_ ?_
      simp only [spec_l04Ones.l0, if_pos (show (i : Int) < (X.length : Int) by omega), if_pos (show (0 : Int) ≤ (i : Int) by omega), hrd, if_pos hlen, w64s hlt (by omega)]
      have := ih (i + 1) (by omega)
      rw [List.take_succ_eq_append_getElem hlt, List.map_append] at this
      exact this
  have := key X.length 0 (by omega)
  simpa [spec_l04Ones.f] using this
theorem el_one (X : List Sp) (i : Nat) (h : i < X.length) : el (X.map one1) i = one1 (el X i) := by
  rw [el_eq (X.map one1) i (by rw [List.length_map]; exact h), el_eq X i h, List.getElem_map]
theorem good_one (X : List Sp) (hg : Good X) : Good (X.map one1) := by
  intro i hi
  rw [List.length_map] at hi
  have h := hg i hi
  unfold GoodAt at h ⊢
  rw [el_one X i hi]
  refine ⟨h.1, h.2.1, h.2.2.1, fun hp => ?_⟩
  rw [el_one X (i - 1) (by omega)]
  exact h.2.2.2 hp
theorem val_one (X : List Sp) (p : Nat) : valF (X.map one1) 0 (X.map one1).length p = b1 (hasB X (p : Int)) := by
  classical
  have key : ∀ i, i ≤ X.length → valF (X.map one1) 0 i p = if (∃ j, j < i ∧ (el X j).f0 ≤ (p : Int) ∧ (p : Int) ≤ (el X j).f1) then 1 else 0 := by
    intro i
    induction i with
    | zero => intro _; rw [valF, if_neg (fun ⟨j, h, _⟩ => by omega)]
    | succ i ih =>
      intro hi
      rw [valF, ih (by omega), el_one X i (by omega)]
      show (if (el X i).f0 ≤ (p : Int) ∧ (p : Int) ≤ (el X i).f1 then (1 : Int) else _) = _
      by_cases c : (el X i).f0 ≤ (p : Int) ∧ (p : Int) ≤ (el X i).f1
      · rw [if_pos c, if_pos ⟨i, by omega, c⟩]
      · rw [if_neg c]
        by_cases d : ∃ j, j < i ∧ (el X j).f0 ≤ (p : Int) ∧ (p : Int) ≤ (el X j).f1
        · obtain ⟨j, h1, h2⟩ := d
          rw [if_pos ⟨j, h1, h2⟩, if_pos ⟨j, by omega, h2⟩]
        · rw [if_neg d, if_neg (fun ⟨j, h1, h2⟩ => by
            by_cases hj : j = i
            · subst hj; exact c h2
            · exact d ⟨j, by omega, h2⟩)]
  rw [List.length_map, key X.length (Nat.le_refl _)]
  unfold b1
  by_cases c : Has X (p : Int)
  · rw [if_pos (show ∃ j, j < X.length ∧ (el X j).f0 ≤ (p : Int) ∧ (p : Int) ≤ (el X j).f1 from c), if_pos ((hasB_iff X p).2 c)]
  · rw [if_neg (show ¬ ∃ j, j < X.length ∧ (el X j).f0 ≤ (p : Int) ∧ (p : Int) ≤ (el X j).f1 from c), if_neg (fun h => c ((hasB_iff X p).1 h))]
def How (h : Int) : Prop := (h = 0 ∧ ∀ x y, fB x y = (x || y)) ∨ (h = 1 ∧ ∀ x y, fB x y = (x && y)) ∨ (h = 2 ∧ ∀ x y, fB x y = (x && !y))
theorem one_step (h : Int) (HH : How h) (k : Nat) (X Y : List Int) (i : Nat) (A B : Bool) (hX : i < X.length) (hY : i < Y.length) (hl : X.length ≤ 1000000) (rX : rd X (i : Int) = b1 A) (rY : rd Y (i : Int) = b1 B) :
    spec_l04Set.l0 (k + 1) h [] X Y (i : Int) = spec_l04Set.l0 k h [] (X.set i (b1 (fB A B))) Y ((i + 1 : Nat) : Int) := by
  have hw : wrap64 ((i : Int) + 1) = ((i + 1 : Nat) : Int) := w64s hX (by omega)
  rw [spec_l04Set.l0]
  simp only [if_pos (show (i : Int) < (X.length : Int) by omega), if_pos (show (i : Int) < (Y.length : Int) by omega), if_pos (show (0 : Int) ≤ (i : Int) by omega), rX, rY, hw, Int.toNat_natCast]
  have w0 : wrap64 0 = 0 := w64 (by omega) (by omega)
  have w1 : wrap64 1 = 1 := w64 (by omega) (by omega)
  have w2 : wrap64 2 = 2 := w64 (by omega) (by omega)
  rcases HH with ⟨rfl, hf⟩ | ⟨rfl, hf⟩ | ⟨rfl, hf⟩ <;> rw [hf] <;> cases A <;> cases B <;> simp [b1, w0, w1, w2]
theorem keep_ev (all : List Sp) (hl : all.length ≤ 1000000) : ∀ (d i : Nat) (out : List Sp), i + d = all.length → out.length ≤ i → Ev (fun k => spec_l04Set.l1 k out all (i : Int)) (out ++ (all.drop i).filter keep1) := by
  intro d
  induction d with
  | zero =>
    intro i out hi ho
    rw [List.drop_eq_nil_of_le (by omega), List.filter_nil, List.append_nil]
    refine succ_ ?_
    simp only [spec_l04Set.l1, if_neg (show ¬ (i : Int) < (all.length : Int) by omega)]
    exact Ev.now _
  | succ d ih =>
    intro i out hi ho
    have hlt : i < all.length := by omega
    have hrd : rd_T57 all (i : Int) = all[i] := el_eq all i hlt
    rw [List.drop_eq_getElem_cons hlt, List.filter_cons]
    refine succ_ ?_
    simp only [spec_l04Set.l1, if_pos (show (i : Int) < (all.length : Int) by omega), if_pos (show (0 : Int) ≤ (i : Int) by omega), hrd, if_pos (show out.length < 5864062014805 by omega), w64s hlt (by omega)]
    by_cases c : all[i].f2 = 1
    · have hk : keep1 all[i] = true := by simp [keep1, c]
      simp only [if_pos c]
      rw [if_pos hk]
      have := ih (i + 1) (out ++ [all[i]]) (by omega) (by simp; omega)
      rw [List.append_assoc] at this
      exact this
    · have hk : ¬ keep1 all[i] = true := by simp [keep1, c]
      simp only [if_neg c]
      rw [if_neg hk]
      exact ih (i + 1) out (by omega) (by omega)
theorem set_l0 (a b : List Sp) (hla : a.length ≤ 1000) (hlb : b.length ≤ 1000) (hga : Good a) (hgb : Good b) (N : Nat) (hN : N = 32768) (h : Int) (HH : How h) : ∀ (d i : Nat), i + d = N → Ev (fun k => spec_l04Set.l0 k h [] (tab N (fun p => if p < i then b1 (gP a b (p : Int)) else b1 (hasB a (p : Int)))) (tab N (fun p => b1 (hasB b (p : Int)))) (i : Int)) (foldC (gP a b) N 0 []) := by
  intro d
  induction d with
  | zero =>
    intro i hi
    have hlen : (tab N (fun p => if p < i then b1 (gP a b (p : Int)) else b1 (hasB a (p : Int)))).length = N := tab_len N _
    refine succ_ ?_
    simp only [spec_l04Set.l0, hlen, if_neg (show ¬ (i : Int) < (N : Int) by omega)]
    have e : tab N (fun p => if p < i then b1 (gP a b (p : Int)) else b1 (hasB a (p : Int))) = ptsFrom (gP a b) N 0 := by
      refine (tab_of N _ _ (ptsFrom_len _ N 0) (fun j hj => ?_)).symm
      rw [ptsFrom_len] at hj
      rw [ptsFrom_get, if_pos (by omega)]
      congr 2
      omega
    rw [e]
    refine Ev.bind (g := fun k => spec_l04Spans.f k (ptsFrom (gP a b) N 0)) (spans_all _ (by rw [ptsFrom_len]; omega)) ?_
    have hk := keep_fold (gP a b) N 0 [] (.inl rfl)
    have hle := foldR_len (ptsFrom (gP a b) N 0) 0 []
    rw [ptsFrom_len, List.length_nil] at hle
    have := keep_ev (foldR (ptsFrom (gP a b) N 0) 0 []) (by omega) _ 0 [] (Nat.zero_add _) (by simp)
    rw [List.drop_zero, hk, List.filter_nil, List.nil_append] at this
    exact this
  | succ d ih =>
    intro i hi
    refine Ev.step (fun k => one_step h HH k _ _ i (hasB a (i : Int)) (hasB b (i : Int)) (by rw [tab_len]; omega) (by rw [tab_len]; omega) (by rw [tab_len]; omega) (by rw [tab_rd N _ i (by omega), if_neg (by omega)]) (by rw [tab_rd N _ i (by omega)])) ?_
    rw [tab_set]
    have e : tab N (fun p => if p = i then b1 (fB (hasB a (i : Int)) (hasB b (i : Int))) else if p < i then b1 (gP a b (p : Int)) else b1 (hasB a (p : Int))) = tab N (fun p => if p < i + 1 then b1 (gP a b (p : Int)) else b1 (hasB a (p : Int))) := by
      refine tab_congr N _ _ (fun p _ => ?_)
      by_cases c : p = i
      · subst c
        rw [if_pos rfl, if_pos (by omega)]
        rfl
      · rw [if_neg c]
        by_cases c2 : p < i
        · rw [if_pos c2, if_pos (by omega)]
        · rw [if_neg c2, if_neg (by omega)]
    rw [e]
    exact ih (i + 1) (by omega)
theorem set_j0 (a b : List Sp) (hla : a.length ≤ 1000) (hlb : b.length ≤ 1000) (hga : Good a) (hgb : Good b) (N : Nat) (hN : N = 32768) (h : Int) (HH : How h) : Ev (fun k => spec_l04Set.j0 k a b h [] false) (foldC (gP a b) N 0 []) := by
  refine succ_ ?_
  simp only [spec_l04Set.j0, Bool.false_eq_true, if_false]
  have hv : ∀ X : List Sp, X.length ≤ 1000 → Good X → Ev (fun k => spec_l04Values.f k (X.map one1) 0) (tab N (fun p => b1 (hasB X (p : Int)))) := fun X hX hg => by
    have := values_ev (X.map one1) 0 N hN (by rw [List.length_map]; omega) (good_one X hg)
    rw [tab_congr N _ _ (fun p _ => val_one X p)] at this
    exact this
  refine Ev.bind (g := fun k => spec_l04Ones.f k a) (ones_ev a (by omega)) ?_
  refine Ev.bind (g := fun k => spec_l04Values.f k (a.map one1) 0) (hv a hla hga) ?_
  refine Ev.bind (g := fun k => spec_l04Ones.f k b) (ones_ev b (by omega)) ?_
  refine Ev.bind (g := fun k => spec_l04Values.f k (b.map one1) 0) (hv b hlb hgb) ?_
  have := set_l0 a b hla hlb hga hgb N hN h HH N 0 (by omega)
  rw [tab_congr N (fun p => if p < 0 then b1 (gP a b (p : Int)) else b1 (hasB a (p : Int))) (fun p => b1 (hasB a (p : Int))) (fun p _ => if_neg (by omega))] at this
  exact this
/-- Both texts, at any rows of spans. -/
theorem both (a b : List Sp) (ha : a.length ≤ 1048576) (hb : b.length ≤ 1048576) (h : Int) (HH : How h) (z : Int) : ∃ r : List Sp, r.length ≤ 32768 ∧ Ev (fun k => spec_l04Set.f k a b h) r ∧ Ev (fun k => impl_setOf.f k a b z) r := by
  obtain ⟨ra, a1, a2, a3⟩ := fault_ev a ha
  obtain ⟨rb, b1', b2, b3⟩ := fault_ev b hb
  unfold spec_l04Set.f impl_setOf.f
  simp only [Option.bind_some]
  have bad : Ev (fun k => spec_l04Set.j0 k a b h [] true) [] := by
    refine succ_ ?_
    simp only [spec_l04Set.j0, if_true]
    exact Ev.now _
  by_cases ca : ra = 0
  · by_cases cb : rb = 0
    · obtain ⟨N, hN⟩ : ∃ N : Nat, N = 32768 := ⟨_, rfl⟩
      have hle := foldC_len (gP a b) N 0 []
      rw [List.length_nil] at hle
      refine ⟨foldC (gP a b) N 0 [], by omega, ?_, ?_⟩
      · refine Ev.bind (g := fun k => spec_SpansFault.f k a) a1 ?_
        simp only [if_pos ca]
        refine Ev.bind (g := fun k => spec_SpansFault.f k b) b1' ?_
        rw [show (rb != 0) = false by rw [cb]; rfl]
        exact set_j0 a b (a3 ca).2 (b3 cb).2 (a3 ca).1 (b3 cb).1 N hN h HH
      · refine Ev.bind (g := fun k => impl_SpansFault.f k a) a2 ?_
        simp only [if_pos ca]
        refine Ev.bind (g := fun k => impl_SpansFault.f k b) b2 ?_
        simp only [if_pos cb]
        exact Ev.bind (g := fun k => impl_setOfAny.f k a b z) (any_ev a b (a3 ca).2 (b3 cb).2 (a3 ca).1 (b3 cb).1 N hN z) (Ev.now _)
    · refine ⟨[], by simp, ?_, ?_⟩
      · refine Ev.bind (g := fun k => spec_SpansFault.f k a) a1 ?_
        simp only [if_pos ca]
        refine Ev.bind (g := fun k => spec_SpansFault.f k b) b1' ?_
        rw [show (rb != 0) = true by simp [cb]]
        exact bad
      · refine Ev.bind (g := fun k => impl_SpansFault.f k a) a2 ?_
        simp only [if_pos ca]
        refine Ev.bind (g := fun k => impl_SpansFault.f k b) b2 ?_
        simp only [if_neg cb]
        exact Ev.now _
  · refine ⟨[], by simp, ?_, ?_⟩
    · refine Ev.bind (g := fun k => spec_SpansFault.f k a) a1 ?_
      simp only [if_neg ca]
      exact bad
    · refine Ev.bind (g := fun k => impl_SpansFault.f k a) a2 ?_
      simp only [if_neg ca]
      exact Ev.now _
end Go.Proofs.Ytogdmjcdfjnifaa.PFnExactLessSets

/- TrieFault, the program's and the reference's: one number. -/
import Derived.Test.YtogdmjcdfjnifaaDoorPFnExactPackTriex
import Derived.Test.YtogdmjcdfjnifaaDoorLib
import Derived.Test.YtogdmjcdfjnifaaDoorInt64SPackTrie
import Derived.Test.YtogdmjcdfjnifaaDoorEvKit
set_option linter.unusedSimpArgs false
set_option linter.unusedVariables false
namespace Go.Proofs.YtogdmjcdfjnifaaDoor.PFnExactPackTrie
open Go.RowKit Go.Proofs.YtogdmjcdfjnifaaDoorW.PrintWords Go.Proofs.YtogdmjcdfjnifaaDoorW.PrintLast Go.Proofs.YtogdmjcdfjnifaaDoorW.PrintMore Go.Proofs.YtogdmjcdfjnifaaDoor.Lib Go.Proofs.YtogdmjcdfjnifaaDoor.EvKit
open scoped Classical
open Go.Proofs.YtogdmjcdfjnifaaDoor.TrieMap (nextF blkAt addB cnt tfGood tfAll)

theorem rd_at (l : List Int) (n : Nat) (h : n < l.length) : rd l (n : Int) = l[n] := by
  simp [rd, List.getD_eq_getElem?_getD, List.getElem?_eq_getElem h]
/-! ### how many blocks differ -/
theorem addB_len (acc : List (List Int)) (x : List Int) : (addB acc x).length = if acc.contains x = true then acc.length else acc.length + 1 := by
  unfold addB; split <;> simp
theorem fold_le : ∀ (xs acc : List (List Int)), (xs.foldl addB acc).length ≤ acc.length + xs.length
  | [], acc => by simp
  | x :: xs, acc => by
    have h1 := fold_le xs (addB acc x)
    have h2 := addB_len acc x
    rw [List.foldl_cons, List.length_cons]
    split at h2 <;> omega
theorem fold_eq : ∀ (xs acc : List (List Int)), (xs.foldl addB acc).length = acc.length + xs.length ↔ ((∀ x ∈ xs, x ∉ acc) ∧ xs.Nodup)
  | [], acc => by simp
  | x :: xs, acc => by
    rw [List.foldl_cons, List.length_cons]
    by_cases h : acc.contains x = true
    · have h1 := fold_le xs (addB acc x)
      have h2 := addB_len acc x
      rw [if_pos h] at h2
      constructor
      · intro he; omega
      · rintro ⟨hx, _⟩
        exact absurd (List.contains_iff_mem.1 h) (hx x (by simp))
    · have h2 := addB_len acc x
      rw [if_neg h] at h2
      have h3 := fold_eq xs (addB acc x)
      have ha : addB acc x = acc ++ [x] := by unfold addB; rw [if_neg h]
      have hn : x ∉ acc := fun hm => h (List.contains_iff_mem.2 hm)
      rw [show acc.length + (xs.length + 1) = (addB acc x).length + xs.length from by omega, h3, ha]
      constructor
      · rintro ⟨h4, h5⟩
        refine ⟨fun y hy => ?_, List.nodup_cons.2 ⟨fun hm => h4 x hm (by simp), h5⟩⟩
        rcases List.mem_cons.1 hy with rfl | hy
        · exact hn
        · exact fun hm => h4 y hy (by simp [hm])
      · rintro ⟨h4, h5⟩
        refine ⟨fun y hy hm => ?_, (List.nodup_cons.1 h5).2⟩
        rcases List.mem_append.1 hm with hm | hm
        · exact h4 y (by simp [hy]) hm
        · rw [List.mem_singleton.1 hm] at hy
          exact (List.nodup_cons.1 h5).1 hy
/-- Two blocks that are alike. -/
def dup (l : List Int) (n : Nat) : Prop := ∃ a b, b < a ∧ a < n ∧ blkAt l a = blkAt l b
theorem cnt_iff (l : List Int) (n : Nat) : cnt l n = n ↔ ¬ dup l n := by
  have h := fold_eq ((List.range n).map (blkAt l)) []
  simp only [List.length_nil, Nat.zero_add, List.length_map, List.length_range, List.not_mem_nil, not_false_eq_true, implies_true, true_and] at h
  unfold cnt
  rw [h]
  unfold List.Nodup
  rw [List.pairwise_map]
  constructor
  · rintro hp ⟨a, b, hb, ha, he⟩
    have := (List.pairwise_iff_getElem.1 hp) b a (by simp; omega) (by simpa using ha) hb
    simp only [List.getElem_range] at this
    exact this he.symm
  · intro hd
    rw [List.pairwise_iff_getElem]
    intro i j hi hj hij
    simp only [List.getElem_range]
    intro he
    exact hd ⟨j, i, hij, by simpa using hj, he.symm⟩

/-! ### the reference -/
theorem same_ev (x y : List Int) (hx : x.length ≤ 1000000000) : Ev (fun k => spec_l04Same.f k x y) (decide (x = y)) := by
  unfold spec_l04Same.f
  by_cases hl : (x.length : Int) = (y.length : Int)
  · simp only [if_pos hl]
    have hl' : x.length = y.length := by omega
    have key : ∀ (d n : Nat), n + d = x.length → Ev (fun k => spec_l04Same.l0 k x y (n : Int)) (decide (x.drop n = y.drop n)) := by
      intro d
      induction d with
      | zero =>
        intro n hn
        refine succ_ ?_
        simp only [spec_l04Same.l0, if_neg (show ¬ (n : Int) < (x.length : Int) by omega)]
        rw [List.drop_eq_nil_of_le (by omega), List.drop_eq_nil_of_le (by omega), decide_eq_true rfl]
        exact Ev.now _
      | succ d ih =>
        intro n hn
        have h1 : n < x.length := by omega
        have h2 : n < y.length := by omega
        rw [List.drop_eq_getElem_cons h1, List.drop_eq_getElem_cons h2]
        refine succ_ ?_
        simp only [spec_l04Same.l0, if_pos (show (n : Int) < (x.length : Int) by omega), if_pos (show (0 : Int) ≤ (n : Int) by omega), if_pos (show (n : Int) < (y.length : Int) by omega), rd_at x n h1, rd_at y n h2]
        by_cases he : x[n] = y[n]
        · simp only [if_pos he]
          rw [show wrap64 ((n : Int) + 1) = ((n + 1 : Nat) : Int) from by rw [w64 (by omega) (by omega)]; omega]
          have e : decide (x[n] :: x.drop (n + 1) = y[n] :: y.drop (n + 1)) = decide (x.drop (n + 1) = y.drop (n + 1)) := by
            rw [he]; exact decide_eq_decide.2 ⟨fun h => by injection h, fun h => by rw [h]⟩
          rw [e]
          exact ih (n + 1) (by omega)
        · simp only [if_neg he]
          rw [decide_eq_false (fun h => he (by injection h))]
          exact Ev.now _
    have := key x.length 0 (by omega)
    simpa using this
  · simp only [if_neg hl]
    rw [decide_eq_false (fun h => hl (by rw [h]))]
    exact Ev.now _
section
variable (l0 l1 : List Int) (n : Nat)
theorem blk_cut (a : Nat) : (l1.take ((a + 1) * 64)).drop (a * 64) = blkAt l1 a := by
  unfold blkAt
  rw [List.drop_take]
  congr 1
  omega
theorem spec_l2_ev (h0 : l0.length ≤ 1000000000) : ∀ (d j : Nat) (nx : Int), j + d = l0.length → 0 ≤ nx ∧ nx ≤ (j : Int) →
    Ev (fun k => spec_TrieFault.l2 k (n : Int) nx (j : Int) l0 l1) (match nextF (l0.drop j) nx with | none => 1 | some z => if z = (n : Int) then 0 else 1) := by
  intro d
  induction d with
  | zero =>
    intro j nx hj hx
    rw [List.drop_eq_nil_of_le (by omega), nextF]
    refine succ_ ?_
    simp only [spec_TrieFault.l2, if_neg (show ¬ (j : Int) < (l0.length : Int) by omega)]
    by_cases he : nx = (n : Int)
    · simp only [if_pos he]; exact Ev.now _
    · simp only [if_neg he]; exact Ev.now _
  | succ d ih =>
    intro j nx hj hx
    have hlt : j < l0.length := by omega
    have hw : wrap64 ((j : Int) + 1) = ((j + 1 : Nat) : Int) := by rw [w64 (by omega) (by omega)]; omega
    have hw2 : wrap64 (nx + 1) = nx + 1 := by rw [w64 (by omega) (by omega)]
    rw [List.drop_eq_getElem_cons hlt, nextF]
    have bad : Ev (fun k => spec_TrieFault.j4 k (n : Int) nx (j : Int) true l0 l1) 1 := by
      refine succ_ ?_
      simp only [spec_TrieFault.j4, if_true]
      exact Ev.now _
    refine succ_ ?_
    simp only [spec_TrieFault.l2, if_pos (show (j : Int) < (l0.length : Int) by omega), if_pos (show (0 : Int) ≤ (j : Int) by omega), rd_at l0 j hlt]
    by_cases c1 : l0[j] < 0
    · simp only [if_pos c1]
      rw [if_pos (.inl c1)]
      exact bad
    · simp only [if_neg c1]
      by_cases c2 : l0[j] > nx
      · simp only [decide_eq_true c2]
        rw [if_pos (.inr c2)]
        exact bad
      · simp only [decide_eq_false c2]
        rw [if_neg (fun h => by rcases h with h | h; exact c1 h; exact c2 h)]
        refine succ_ ?_
        simp only [spec_TrieFault.j4, Bool.false_eq_true, if_false, if_pos (show (0 : Int) ≤ (j : Int) by omega), if_pos (show (j : Int) < (l0.length : Int) by omega), rd_at l0 j hlt, hw]
        by_cases c3 : l0[j] = nx
        · simp only [if_pos c3, hw2]
          exact ih (j + 1) (nx + 1) (by omega) (by omega)
        · simp only [if_neg c3]
          exact ih (j + 1) nx (by omega) (by omega)
def scanV : Int := match nextF l0 0 with | none => 1 | some z => if z = (n : Int) then 0 else 1
theorem spec_l1_ev (h1 : l1.length = n * 64) (hn : n ≤ 512) (a : Nat) (ha : a < n) (R : Int) (hR : Ev (fun k => spec_TrieFault.l0 k (n : Int) ((a + 1 : Nat) : Int) l0 l1) R) : ∀ (d b : Nat), b + d = a →
    (∀ c, c < b → blkAt l1 a ≠ blkAt l1 c) → Ev (fun k => spec_TrieFault.l1 k (n : Int) (a : Int) (b : Int) l0 l1) (if (∃ c, c < a ∧ blkAt l1 a = blkAt l1 c) then 1 else R) := by
  have hwa : wrap64 ((a : Int) + 1) = ((a + 1 : Nat) : Int) := by rw [w64 (by omega) (by omega)]; omega
  intro d
  induction d with
  | zero =>
    intro b hb hc
    have : b = a := by omega
    subst this
    rw [if_neg (fun ⟨c, h1, h2⟩ => hc c h1 h2)]
    refine succ_ ?_
    simp only [spec_TrieFault.l1, if_neg (show ¬ (b : Int) < (b : Int) by omega), hwa]
    exact hR
  | succ d ih =>
    intro b hb hc
    have e1 : wrap64 ((a : Int) * 64) = ((a * 64 : Nat) : Int) := by rw [w64 (by omega) (by omega)]; omega
    have e2 : wrap64 (((a + 1 : Nat) : Int) * 64) = (((a + 1) * 64 : Nat) : Int) := by rw [w64 (by omega) (by omega)]; omega
    have e3 : wrap64 ((b : Int) * 64) = ((b * 64 : Nat) : Int) := by rw [w64 (by omega) (by omega)]; omega
    have e4 : wrap64 ((b : Int) + 1) = ((b + 1 : Nat) : Int) := by rw [w64 (by omega) (by omega)]; omega
    have e5 : wrap64 (((b + 1 : Nat) : Int) * 64) = (((b + 1) * 64 : Nat) : Int) := by rw [w64 (by omega) (by omega)]; omega
    refine succ_ ?_
    simp only [spec_TrieFault.l1, if_pos (show (b : Int) < (a : Int) by omega), hwa, e1, e2, e3, e4, e5, if_pos (show (0 : Int) ≤ ((a * 64 : Nat) : Int) by omega), if_pos (show ((a * 64 : Nat) : Int) ≤ (((a + 1) * 64 : Nat) : Int) by omega), if_pos (show (((a + 1) * 64 : Nat) : Int) ≤ (l1.length : Int) by omega),
      if_pos (show (0 : Int) ≤ ((b * 64 : Nat) : Int) by omega), if_pos (show ((b * 64 : Nat) : Int) ≤ (((b + 1) * 64 : Nat) : Int) by omega), if_pos (show (((b + 1) * 64 : Nat) : Int) ≤ (l1.length : Int) by omega), Int.toNat_natCast, blk_cut]
    have hbl : (blkAt l1 a).length ≤ 1000000000 := by unfold blkAt; rw [List.length_take]; omega
    refine Ev.bind (g := fun k => spec_l04Same.f k (blkAt l1 a) (blkAt l1 b)) (same_ev _ _ hbl) ?_
    by_cases he : blkAt l1 a = blkAt l1 b
    · simp only [decide_eq_true he, if_true]
      rw [if_pos ⟨b, by omega, he⟩]
      exact Ev.now _
    · simp only [decide_eq_false he, Bool.false_eq_true, if_false]
      refine ih (b + 1) (by omega) (fun c hcb => ?_)
      by_cases h : c = b
      · subst h; exact he
      · exact hc c (by omega)
theorem spec_l0_ev (h0 : l0.length ≤ 1000000000) (h1 : l1.length = n * 64) (hn : n ≤ 512) : ∀ (d a : Nat), a + d = n → Ev (fun k => spec_TrieFault.l0 k (n : Int) (a : Int) l0 l1) (if (∃ a', a ≤ a' ∧ a' < n ∧ ∃ c, c < a' ∧ blkAt l1 a' = blkAt l1 c) then 1 else scanV l0 n) := by
  intro d
  induction d with
  | zero =>
    intro a ha
    rw [if_neg (fun ⟨a', h1, h2, _⟩ => by omega)]
    refine succ_ ?_
    simp only [spec_TrieFault.l0, if_neg (show ¬ (a : Int) < (n : Int) by omega)]
    have := spec_l2_ev l0 l1 n h0 l0.length 0 0 (by omega) (by omega)
    simpa [scanV] using this
  | succ d ih =>
    intro a ha
    refine succ_ ?_
    simp only [spec_TrieFault.l0, if_pos (show (a : Int) < (n : Int) by omega)]
    have h := spec_l1_ev l0 l1 n h1 hn a (by omega) _ (ih (a + 1) (by omega)) a 0 (by omega) (fun c hc => by omega)
    have e : (if (∃ c, c < a ∧ blkAt l1 a = blkAt l1 c) then (1 : Int) else if (∃ a', a + 1 ≤ a' ∧ a' < n ∧ ∃ c, c < a' ∧ blkAt l1 a' = blkAt l1 c) then 1 else scanV l0 n) = (if (∃ a', a ≤ a' ∧ a' < n ∧ ∃ c, c < a' ∧ blkAt l1 a' = blkAt l1 c) then 1 else scanV l0 n) := by
      by_cases g1 : ∃ c, c < a ∧ blkAt l1 a = blkAt l1 c
      · rw [if_pos g1, if_pos ⟨a, Nat.le_refl _, by omega, g1⟩]
      · rw [if_neg g1]
        by_cases g2 : ∃ a', a + 1 ≤ a' ∧ a' < n ∧ ∃ c, c < a' ∧ blkAt l1 a' = blkAt l1 c
        · obtain ⟨a', h1, h2, h3⟩ := g2
          rw [if_pos ⟨a', h1, h2, h3⟩, if_pos ⟨a', by omega, h2, h3⟩]
        · rw [if_neg g2, if_neg (fun ⟨a', h1, h2, h3⟩ => by
            by_cases h : a' = a
            · subst h; exact g1 h3
            · exact g2 ⟨a', by omega, h2, h3⟩)]
    rw [← e]
    exact h
end
theorem spec_fault (l0 l1 : List Int) (h0 : l0.length ≤ 1048576) (h1 : l1.length ≤ 1048576) : Ev (fun k => spec_TrieFault.f k l0 l1) (tfAll l0 l1) := by
  have hq : wrap64 ((l1.length : Int) / 64) = ((l1.length / 64 : Nat) : Int) := by rw [w64 (by omega) (by omega)]; omega
  have bad : ∀ z, Ev (fun k => spec_TrieFault.j0 k z true l0 l1) 1 := fun z => by
    refine succ_ ?_
    simp only [spec_TrieFault.j0, if_true]
    exact Ev.now _
  unfold spec_TrieFault.f tfAll
  simp only [hq]
  by_cases c0 : l0.length = 512
  · by_cases c1 : l1.length % 64 = 0
    · simp only [if_pos (show (l0.length : Int) = 512 by omega), if_pos (show (l1.length : Int) % 64 = 0 by omega)]
      by_cases c2 : l1.length / 64 ≤ 512
      · rw [if_pos ⟨c0, c1, c2⟩]
        simp only [decide_eq_false (show ¬ ((l1.length / 64 : Nat) : Int) > 512 by omega)]
        refine succ_ ?_
        simp only [spec_TrieFault.j0, Bool.false_eq_true, if_false]
        have h := spec_l0_ev l0 l1 (l1.length / 64) (by omega) (by omega) c2 (l1.length / 64) 0 (by omega)
        have e : (if (∃ a', 0 ≤ a' ∧ a' < l1.length / 64 ∧ ∃ c, c < a' ∧ blkAt l1 a' = blkAt l1 c) then (1 : Int) else scanV l0 (l1.length / 64)) = tfGood l0 l1 (l1.length / 64) := by
          have hc := cnt_iff l1 (l1.length / 64)
          by_cases g : dup l1 (l1.length / 64)
          · obtain ⟨a, b, hb, ha, he⟩ := g
            rw [if_pos ⟨a, Nat.zero_le _, ha, b, hb, he⟩]
            have hne : ¬ cnt l1 (l1.length / 64) = l1.length / 64 := fun h => (hc.1 h) ⟨a, b, hb, ha, he⟩
            unfold tfGood
            cases nextF l0 0 with
            | none => rfl
            | some z => simp [hne]
          · rw [if_neg (fun ⟨a, _, ha, b, hb, he⟩ => g ⟨a, b, hb, ha, he⟩)]
            have hy := hc.2 g
            unfold tfGood scanV
            cases nextF l0 0 with
            | none => rfl
            | some z => simp [hy]
        rw [e] at h
        exact h
      · rw [if_neg (fun h => c2 h.2.2)]
        simp only [decide_eq_true (show ((l1.length / 64 : Nat) : Int) > 512 by omega)]
        exact bad _
    · rw [if_neg (fun h => c1 h.2.1)]
      simp only [if_pos (show (l0.length : Int) = 512 by omega), if_neg (show ¬ (l1.length : Int) % 64 = 0 by omega)]
      exact bad _
  · rw [if_neg (fun h => c0 h.1)]
    simp only [if_neg (show ¬ (l0.length : Int) = 512 by omega)]
    exact bad _
theorem impl_fault (l0 l1 : List Int) (h0 : l0.length ≤ 1048576) (h1 : l1.length ≤ 1048576) (hw : ∀ y ∈ l1, (Lit.int .i64 y).wf = true) : impl_TrieFault.f l0 l1 = some (tfAll l0 l1) := by
  unfold impl_TrieFault.f
  rw [if_pos ⟨List.all_eq_true.2 hw, by omega, by omega⟩]
/-! ### sizes, the law's own types -/
theorem sz_trie (l0 l1 : List Int) (h0 : l0.length ≤ 9223372036854775807) (h1 : l1.length ≤ 9223372036854775807) :
    laws_szTrie.f l0 l1 1048576 = some (-1) ∨ (∃ r, 0 ≤ r ∧ laws_szTrie.f l0 l1 1048576 = some r ∧ l0.length ≤ 1048576 ∧ l1.length ≤ 1048576) := by
  unfold laws_szTrie.f laws_szInt64S.f
  rw [w64 (x := 1048576 - (l0.length : Int)) (by omega) (by omega)]
  by_cases c : (1048576 : Int) - (l0.length : Int) < 0
  · rw [if_pos c, Option.bind_some, if_pos (by omega)]; exact .inl rfl
  · rw [if_neg c, Option.bind_some, if_neg c, w64 (x := 1048576 - (l0.length : Int) - (l1.length : Int)) (by omega) (by omega)]
    by_cases d : (1048576 : Int) - (l0.length : Int) - (l1.length : Int) < 0
    · rw [if_pos d, Option.bind_some, if_pos (by omega)]; exact .inl rfl
    · rw [if_neg d, Option.bind_some, if_neg d]
      exact .inr ⟨_, by omega, rfl, by omega, by omega⟩
theorem to_trie (l0 l1 : List Int) (h0 : l0.length ≤ 1048576) (h1 : l1.length ≤ 1048576) : Ev (fun k => laws_toTrie.f k l0 l1) (l0, l1) := by
  unfold laws_toTrie.f
  refine Ev.bind (g := fun k => laws_toInt64S.f k l0) (a := l0) (from_ (l0.length + 1) (fun k hk => toInt64S_eq l0 k hk (by omega))) ?_
  exact Ev.bind (g := fun k => laws_toInt64S.f k l1) (a := l1) (from_ (l1.length + 1) (fun k hk => toInt64S_eq l1 k hk (by omega))) (Ev.now _)
theorem eq_trie (l0 l1 : List Int) (h0 : l0.length ≤ 1048576) (h1 : l1.length ≤ 1048576) : Ev (fun k => laws_eqTrie.f k l0 l1 l0 l1) true := by
  unfold laws_eqTrie.f
  refine Ev.bind (g := fun k => laws_eqInt64S.f k l0 l0) (a := true) (from_ (l0.length + 1) (fun k hk => eqInt64S_eq l0 k hk (by omega))) ?_
  simp only [if_true]
  refine Ev.bind (g := fun k => laws_eqInt64S.f k l1 l1) (a := true) (from_ (l1.length + 1) (fun k hk => eqInt64S_eq l1 k hk (by omega))) ?_
  simp only [if_true]
  exact Ev.now _
end Go.Proofs.YtogdmjcdfjnifaaDoor.PFnExactPackTrie

/- The program's BuildTrie returns what the reference's returns. For every input: the law answers true; each argument reads afterwards as it read before. -/
import Derived.Test.YtogdmjcdfjnifaaPFnExactBuildTriex
import Derived.Test.YtogdmjcdfjnifaaLib
import Derived.Test.YtogdmjcdfjnifaaSpanSBuildTrie
import Derived.Test.YtogdmjcdfjnifaaOutInt64SBuildTrie
import Derived.Test.YtogdmjcdfjnifaaEvKit
set_option linter.unusedSimpArgs false
set_option linter.unusedVariables false
namespace Go.Proofs.Ytogdmjcdfjnifaa.Pure
open Go.RowKit Go.Proofs.Ytogdmjcdfjnifaa.PFnExactBuildTrie Go.Proofs.YtogdmjcdfjnifaaW.PrintWords Go.Proofs.YtogdmjcdfjnifaaW.PrintLast Go.Proofs.YtogdmjcdfjnifaaW.PrintMore Go.Proofs.Ytogdmjcdfjnifaa.Lib Go.Proofs.Ytogdmjcdfjnifaa.EvKit
abbrev Sp := S57
theorem rd_at (l : List Int) (n : Nat) (h : n < l.length) : rd l (n : Int) = l[n] := by
  simp [rd, List.getD_eq_getElem?_getD, List.getElem?_eq_getElem h]

/-! ### spans that stand in order -/
def good (s : Sp) : Prop := 0 ≤ s.f0 ∧ s.f0 ≤ s.f1 ∧ s.f1 ≤ 32767
theorem same (l : List Sp) : ∀ (k : Nat) (n : Int), spec_SpansFault.l0 k l n = impl_SpansFault.l0 k l l (l.length : Int) n
  | 0, _ => rfl
  | k + 1, n => by
    simp only [spec_SpansFault.l0, impl_SpansFault.l0, same l k]
    generalize (rd_T57 l n).f0 = a
    generalize (rd_T57 l n).f1 = b
    generalize (rd_T57 l (wrap64 (n - 1))).f1 = c
    repeat' split
    all_goals first | rfl | omega
theorem fault_l0 (l : List Sp) (hl : l.length ≤ 1048576) : ∀ (d n : Nat), n + d = l.length → ∃ r, Ev (fun k => spec_SpansFault.l0 k l (n : Int)) r ∧ (r = 0 → ∀ j, n ≤ j → (h : j < l.length) → good l[j]) := by
  intro d
  induction d with
  | zero =>
    intro n hn
    refine ⟨0, succ_ ?_, fun _ j h1 h2 => absurd h2 (by omega)⟩
    simp only [spec_SpansFault.l0, if_neg (show ¬ (n : Int) < (l.length : Int) by omega)]
    exact Ev.now _
  | succ d ih =>
    intro n hn
    obtain ⟨r, hr, hg⟩ := ih (n + 1) (by omega)
    have hlt : n < l.length := by omega
    have h1 : (n : Int) < (l.length : Int) := by omega
    have h0 : (0 : Int) ≤ (n : Int) := by omega
    by_cases c1 : l[n].f0 < 0
    · exact ⟨1, succ_ (by simp only [spec_SpansFault.l0, if_pos h1, if_pos h0, rdI_nat l n hlt, if_pos c1]; exact Ev.now _), by simp⟩
    by_cases c2 : l[n].f1 > 32767
    · exact ⟨1, succ_ (by simp only [spec_SpansFault.l0, if_pos h1, if_pos h0, rdI_nat l n hlt, if_neg c1, if_pos c2]; exact Ev.now _), by simp⟩
    by_cases c3 : l[n].f0 > l[n].f1
    · exact ⟨1, succ_ (by simp only [spec_SpansFault.l0, if_pos h1, if_pos h0, rdI_nat l n hlt, if_neg c1, if_neg c2, if_pos c3]; exact Ev.now _), by simp⟩
    have hgn : r = 0 → ∀ j, n ≤ j → (h : j < l.length) → good l[j] := by
      intro h j hj hjl
      rcases Nat.lt_or_ge n j with h2 | h2
      · exact hg h j h2 hjl
      · have e : j = n := by omega
        subst e
        exact ⟨by omega, by omega, by omega⟩
    by_cases c4 : (n : Int) > 0
    · have hp : wrap64 ((n : Int) - 1) = ((n - 1 : Nat) : Int) := by rw [w64 (by omega) (by omega)]; omega
      have h2 : (0 : Int) ≤ ((n - 1 : Nat) : Int) := by omega
      have h3 : ((n - 1 : Nat) : Int) < (l.length : Int) := by omega
      by_cases c5 : l[n - 1].f1 ≥ l[n].f0
      · exact ⟨1, succ_ (by simp only [spec_SpansFault.l0, if_pos h1, if_pos h0, rdI_nat l n hlt, if_neg c1, if_neg c2, if_neg c3, if_pos c4, hp, if_pos h2, if_pos h3, rdI_nat l (n - 1) (by omega), if_pos c5]; exact Ev.now _), by simp⟩
      · exact ⟨r, succ_ (by simp only [spec_SpansFault.l0, if_pos h1, if_pos h0, rdI_nat l n hlt, if_neg c1, if_neg c2, if_neg c3, if_pos c4, hp, if_pos h2, if_pos h3, rdI_nat l (n - 1) (by omega), if_neg c5, w64s hlt (by omega)]; exact hr), hgn⟩
    · exact ⟨r, succ_ (by simp only [spec_SpansFault.l0, if_pos h1, if_pos h0, rdI_nat l n hlt, if_neg c1, if_neg c2, if_neg c3, if_neg c4, w64s hlt (by omega)]; exact hr), hgn⟩
theorem fault_ev (l : List Sp) (hl : l.length ≤ 1048576) : ∃ r, Ev (fun k => spec_SpansFault.f k l) r ∧ Ev (fun k => impl_SpansFault.f k l) r ∧ (r = 0 → ∀ x ∈ l, good x) := by
  by_cases c : (l.length : Int) > 1000
  · refine ⟨1, ?_, ?_, by simp⟩
    · simp only [spec_SpansFault.f, if_pos c]; exact Ev.now _
    · simp only [impl_SpansFault.f, if_pos c]; exact Ev.now _
  · obtain ⟨r, hr, hg⟩ := fault_l0 l hl l.length 0 (by omega)
    refine ⟨r, ?_, ?_, fun h x hx => ?_⟩
    · simp only [spec_SpansFault.f, if_neg c]; exact hr
    · simp only [impl_SpansFault.f, if_neg c, ← same]; exact hr
    · obtain ⟨j, hj, rfl⟩ := List.getElem_of_mem hx
      exact hg h j (by omega) hj

/-! ### the values of all points -/
def fillL : Nat → List Int → Int → Int → List Int
  | 0, v, _, _ => v
  | d + 1, v, a, x => fillL d (v.set a.toNat x) (a + 1) x
def OKL (v : List Int) : Prop := v.length = 32768 ∧ ∀ z ∈ v, (Lit.int .i64 z).wf = true
theorem OKL.set {v : List Int} (h : OKL v) (i : Nat) {x : Int} (hx : (Lit.int .i64 x).wf = true) : OKL (v.set i x) :=
  ⟨by rw [List.length_set]; exact h.1, fun z hz => by
    rcases List.mem_or_eq_of_mem_set hz with hz | hz
    · exact h.2 z hz
    · rw [hz]; exact hx⟩
theorem OKL.fill : ∀ (d : Nat) {v : List Int} (a : Int) {x : Int}, OKL v → (Lit.int .i64 x).wf = true → OKL (fillL d v a x)
  | 0, _, _, _, h, _ => h
  | d + 1, _, a, _, h, hx => OKL.fill d (a + 1) (h.set _ hx) hx
def spansL : List Sp → List Int → List Int
  | [], v => v
  | s :: r, v => spansL r (fillL (s.f1 + 1 - s.f0).toNat v s.f0 s.f2)
theorem OKL.spans : ∀ (l : List Sp) {v : List Int}, OKL v → (∀ s ∈ l, (Lit.int .i64 s.f2).wf = true) → OKL (spansL l v)
  | [], _, h, _ => h
  | s :: r, _, h, hw => OKL.spans r (OKL.fill _ _ h (hw s (by simp))) (fun x hx => hw x (by simp [hx]))
theorem spec_v2 (l : List Sp) (hl : l.length ≤ 1048576) (hg : ∀ x ∈ l, good x) (n : Nat) (hn : n < l.length) (R : List Int) : ∀ (d : Nat) (v : List Int) (a : Int), v.length = 32768 → 0 ≤ a → a + (d : Int) = l[n].f1 + 1 →
    Ev (fun k => spec_l04Values.l1 k l (fillL d v a l[n].f2) ((n + 1 : Nat) : Int)) R → Ev (fun k => spec_l04Values.l2 k l v (n : Int) a) R := by
  have hgn := hg _ (List.getElem_mem hn)
  intro d
  induction d with
  | zero =>
    intro v a hv ha he h
    refine succ_ ?_
    simp only [spec_l04Values.l2, if_pos (show (0 : Int) ≤ (n : Int) by omega), if_pos (show (n : Int) < (l.length : Int) by omega), rdI_nat l n hn, if_neg (show ¬ a ≤ l[n].f1 by omega), w64s hn (by omega)]
    exact h
  | succ d ih =>
    intro v a hv ha he h
    have hb := hgn.2.2
    refine succ_ ?_
    simp only [spec_l04Values.l2, if_pos (show (0 : Int) ≤ (n : Int) by omega), if_pos (show (n : Int) < (l.length : Int) by omega), rdI_nat l n hn, if_pos (show a ≤ l[n].f1 by omega), if_pos ha, if_pos (show a < (v.length : Int) by omega), w64 (x := a + 1) (by omega) (by omega)]
    exact ih _ _ (by rw [List.length_set]; exact hv) (by omega) (by omega) h
theorem spec_v1 (l : List Sp) (hl : l.length ≤ 1048576) (hg : ∀ x ∈ l, good x) : ∀ (d n : Nat) (v : List Int), n + d = l.length → OKL v → (∀ s ∈ l, (Lit.int .i64 s.f2).wf = true) → Ev (fun k => spec_l04Values.l1 k l v (n : Int)) (spansL (l.drop n) v) := by
  intro d
  induction d with
  | zero =>
    intro n v hn hv hw
    rw [List.drop_eq_nil_of_le (by omega), spansL]
    refine succ_ ?_
    simp only [spec_l04Values.l1, if_neg (show ¬ (n : Int) < (l.length : Int) by omega)]
    exact Ev.now _
  | succ d ih =>
    intro n v hn hv hw
    have hlt : n < l.length := by omega
    have hgn := hg _ (List.getElem_mem hlt)
    rw [List.drop_eq_getElem_cons hlt, spansL]
    refine succ_ ?_
    simp only [spec_l04Values.l1, if_pos (show (n : Int) < (l.length : Int) by omega), if_pos (show (0 : Int) ≤ (n : Int) by omega), rdI_nat l n hlt]
    refine spec_v2 l hl hg n hlt _ (l[n].f1 + 1 - l[n].f0).toNat v l[n].f0 hv.1 hgn.1 (by have := hgn.2.1; omega) ?_
    exact ih (n + 1) _ (by omega) (OKL.fill _ _ hv (hw _ (List.getElem_mem hlt))) hw
theorem spec_v0 (l : List Sp) (hl : l.length ≤ 1048576) (hg : ∀ x ∈ l, good x) (o : Int) (ho : (Lit.int .i64 o).wf = true) (hw : ∀ s ∈ l, (Lit.int .i64 s.f2).wf = true) : ∀ (d n : Nat) (v : List Int), n + d = 32768 → OKL v → Ev (fun k => spec_l04Values.l0 k l o v (n : Int)) (spansL l (fillL d v (n : Int) o)) := by
  intro d
  induction d with
  | zero =>
    intro n v hn hv
    refine succ_ ?_
    simp only [spec_l04Values.l0, if_neg (show ¬ (n : Int) ≤ 32767 by omega)]
    exact spec_v1 l hl hg l.length 0 v (by omega) hv hw
  | succ d ih =>
    intro n v hn hv
    refine succ_ ?_
    have hv1 := hv.1
    simp only [spec_l04Values.l0, if_pos (show (n : Int) ≤ 32767 by omega), if_pos (show (0 : Int) ≤ (n : Int) by omega), if_pos (show (n : Int) < (v.length : Int) by omega), w64 (x := (n : Int) + 1) (by omega) (by omega)]
    exact ih (n + 1) _ (by omega) (hv.set _ ho)
theorem impl_v2 (l : List Sp) (hl : l.length ≤ 1048576) (hg : ∀ x ∈ l, good x) (n : Nat) (hn : n < l.length) (R : List Int × List Int) : ∀ (d : Nat) (v : List Int) (a : Int), v.length = 32768 → 0 ≤ a → a + (d : Int) = l[n].f1 + 1 →
    Ev (fun k => impl_BuildTrie.l1 k (fillL d v a l[n].f2) l (l.length : Int) ((n + 1 : Nat) : Int)) R → Ev (fun k => impl_BuildTrie.l2 k v a l (l.length : Int) (n : Int) l[n].f0 l[n].f1 l[n].f2) R := by
  have hgn := hg _ (List.getElem_mem hn)
  intro d
  induction d with
  | zero =>
    intro v a hv ha he h
    refine succ_ ?_
    simp only [impl_BuildTrie.l2, if_neg (show ¬ a ≤ l[n].f1 by omega), w64s hn (by omega)]
    exact h
  | succ d ih =>
    intro v a hv ha he h
    have hb := hgn.2.2
    refine succ_ ?_
    simp only [impl_BuildTrie.l2, if_pos (show a ≤ l[n].f1 by omega), if_pos ha, if_pos (show a < (v.length : Int) by omega), w64 (x := a + 1) (by omega) (by omega)]
    exact ih _ _ (by rw [List.length_set]; exact hv) (by omega) (by omega) h
theorem impl_v1 (l : List Sp) (hl : l.length ≤ 1048576) (hg : ∀ x ∈ l, good x) (R : List Int × List Int) : ∀ (d n : Nat) (v : List Int), n + d = l.length → OKL v → (∀ s ∈ l, (Lit.int .i64 s.f2).wf = true) →
    Ev (fun k => impl_BuildTrie.l3 k (spansL (l.drop n) v) 0 [] [] []) R → Ev (fun k => impl_BuildTrie.l1 k v l (l.length : Int) (n : Int)) R := by
  intro d
  induction d with
  | zero =>
    intro n v hn hv hw h
    rw [List.drop_eq_nil_of_le (by omega), spansL] at h
    refine succ_ ?_
    simp only [impl_BuildTrie.l1, if_neg (show ¬ (n : Int) < (l.length : Int) by omega)]
    exact h
  | succ d ih =>
    intro n v hn hv hw h
    have hlt : n < l.length := by omega
    have hgn := hg _ (List.getElem_mem hlt)
    rw [List.drop_eq_getElem_cons hlt, spansL] at h
    refine succ_ ?_
    simp only [impl_BuildTrie.l1, if_pos (show (n : Int) < (l.length : Int) by omega), if_pos (show (0 : Int) ≤ (n : Int) by omega), rdI_nat l n hlt]
    refine impl_v2 l hl hg n hlt _ (l[n].f1 + 1 - l[n].f0).toNat v l[n].f0 hv.1 hgn.1 (by have := hgn.2.1; omega) ?_
    exact ih (n + 1) _ (by omega) (OKL.fill _ _ hv (hw _ (List.getElem_mem hlt))) hw h
theorem impl_v0 (l : List Sp) (hl : l.length ≤ 1048576) (hg : ∀ x ∈ l, good x) (R : List Int × List Int) (o : Int) (ho : (Lit.int .i64 o).wf = true) (hw : ∀ s ∈ l, (Lit.int .i64 s.f2).wf = true) : ∀ (d n : Nat) (v : List Int), n + d = 32768 → OKL v →
    Ev (fun k => impl_BuildTrie.l3 k (spansL l (fillL d v (n : Int) o)) 0 [] [] []) R → Ev (fun k => impl_BuildTrie.l0 k l o v 32768 (n : Int)) R := by
  intro d
  induction d with
  | zero =>
    intro n v hn hv h
    refine succ_ ?_
    simp only [impl_BuildTrie.l0, if_neg (show ¬ (n : Int) < 32768 by omega)]
    exact impl_v1 l hl hg R l.length 0 v (by omega) hv hw h
  | succ d ih =>
    intro n v hn hv h
    refine succ_ ?_
    have hv1 := hv.1
    simp only [impl_BuildTrie.l0, if_pos (show (n : Int) < 32768 by omega), if_pos (show (0 : Int) ≤ (n : Int) by omega), if_pos (show (n : Int) < (v.length : Int) by omega), w64 (x := (n : Int) + 1) (by omega) (by omega)]
    exact ih (n + 1) _ (by omega) (hv.set _ ho) h

/-! ### the blocks -/
def goB : List (List Int) → List (List Int) → List Int → List Int × List Int
  | [], ks, I => (I, ks.flatten)
  | b :: r, ks, I => goB r (if b ∈ ks then ks else ks ++ [b]) (I ++ [(ks.idxOf b : Int)])
def blks (V : List Int) : Nat → Nat → List (List Int)
  | 0, _ => []
  | d + 1, i => TrieC.bl V ((i * 64 : Nat) : Int) :: blks V d (i + 1)
theorem blks_len (V : List Int) : ∀ d i, (blks V d i).length = d
  | 0, _ => rfl
  | d + 1, i => by rw [blks, List.length_cons, blks_len V d (i + 1)]
theorem flat_len : ∀ ks : List (List Int), (∀ x ∈ ks, x.length = 64) → ks.flatten.length = ks.length * 64
  | [], _ => rfl
  | x :: ks, h => by
    rw [List.flatten_cons, List.length_append, flat_len ks (fun y hy => h y (by simp [hy])), h x (by simp), List.length_cons]
    omega
theorem flat_get : ∀ (ks : List (List Int)) (j : Nat) (hj : j < ks.length), (∀ x ∈ ks, x.length = 64) → (ks.flatten.drop (j * 64)).take 64 = ks[j]
  | x :: ks, 0, _, h => by
    have hx := h x (by simp)
    rw [List.flatten_cons, Nat.zero_mul, List.drop_zero, List.take_append_of_le_length (by omega), List.take_of_length_le (by omega)]
    rfl
  | x :: ks, j + 1, hj, h => by
    have hx := h x (by simp)
    have e : (x ++ ks.flatten).drop 64 = ks.flatten := by rw [List.drop_append_of_le_length (by omega), List.drop_of_length_le (by omega), List.nil_append]
    rw [List.flatten_cons, show (j + 1) * 64 = 64 + j * 64 by omega, ← List.drop_drop, e]
    exact flat_get ks j (by simpa using hj) (fun y hy => h y (by simp [hy]))
theorem goB_len : ∀ (bs ks : List (List Int)) (I : List Int), (∀ x ∈ ks, x.length = 64) → (∀ x ∈ bs, x.length = 64) → (goB bs ks I).1.length = I.length + bs.length ∧ (goB bs ks I).2.length ≤ (ks.length + bs.length) * 64
  | [], ks, I, h, _ => by
    rw [goB]
    exact ⟨by simp, by rw [flat_len ks h]; simp⟩
  | b :: r, ks, I, h, hb => by
    rw [goB]
    have hr : ∀ x ∈ r, x.length = 64 := fun y hy => hb y (by simp [hy])
    by_cases c : b ∈ ks
    · rw [if_pos c]
      have := goB_len r ks (I ++ [(ks.idxOf b : Int)]) h hr
      simp only [List.length_append, List.length_cons, List.length_nil] at this ⊢
      omega
    · rw [if_neg c]
      have := goB_len r (ks ++ [b]) (I ++ [(ks.idxOf b : Int)]) (fun x hx => by
        rcases List.mem_append.1 hx with hx | hx
        · exact h x hx
        · rw [List.mem_singleton.1 hx]; exact hb b (by simp)) hr
      simp only [List.length_append, List.length_cons, List.length_nil] at this ⊢
      omega
theorem bl_len (V : List Int) (hV : V.length = 32768) (i : Nat) (hi : i < 512) : (TrieC.bl V ((i * 64 : Nat) : Int)).length = 64 := by
  unfold TrieC.bl
  rw [Int.toNat_natCast, List.length_take, List.length_drop]
  omega
theorem blks_all (V : List Int) (hV : V.length = 32768) : ∀ d i, i + d ≤ 512 → ∀ x ∈ blks V d i, x.length = 64
  | 0, _, _, x, hx => by simp [blks] at hx
  | d + 1, i, h, x, hx => by
    rw [blks] at hx
    rcases List.mem_cons.1 hx with hx | hx
    · rw [hx]; exact bl_len V hV i (by omega)
    · exact blks_all V hV d (i + 1) (by omega) x hx
theorem impl_b (V : List Int) (hV : OKL V) : ∀ (d i : Nat) (ks : List (List Int)) (I : List Int), i + d = 512 → (∀ x ∈ ks, x.length = 64) → ks.length ≤ i → I.length = i →
    Ev (fun k => impl_BuildTrie.l3 k V (i : Int) ks I ks.flatten) (goB (blks V d i) ks I) := by
  intro d
  induction d with
  | zero =>
    intro i ks I hi hk hkl hI
    rw [blks, goB]
    refine succ_ ?_
    simp only [impl_BuildTrie.l3, if_neg (show ¬ (i : Int) < 512 by omega)]
    exact Ev.now _
  | succ d ih =>
    intro i ks I hi hk hkl hI
    rw [blks, goB]
    have hb := bl_len V hV.1 i (by omega)
    have hV1 := hV.1
    have hall : (TrieC.bl V ((i * 64 : Nat) : Int)).all (fun z => (Lit.int .i64 z).wf) = true := List.all_eq_true.2 (fun z hz => hV.2 z (List.mem_of_mem_drop (List.mem_of_mem_take hz)))
    have hw : wrap64 ((i : Int) * 64) = ((i * 64 : Nat) : Int) := by rw [w64 (by omega) (by omega)]; omega
    have hw1 : wrap64 ((i : Int) + 1) = ((i + 1 : Nat) : Int) := by rw [w64 (by omega) (by omega)]; omega
    have hfl := flat_len ks hk
    refine succ_ ?_
    simp only [impl_BuildTrie.l3, if_pos (show (i : Int) < 512 by omega), hw, hw1, if_pos (show 0 ≤ ((i * 64 : Nat) : Int) ∧ ((i * 64 : Nat) : Int) + 64 ≤ (V.length : Int) by omega), if_pos hall]
    generalize TrieC.bl V ((i * 64 : Nat) : Int) = b at hb
    by_cases c : b ∈ ks
    · simp only [if_pos c, if_pos (show I.length < 17592186044416 by omega)]
      exact ih (i + 1) ks _ (by omega) hk (by omega) (by rw [List.length_append, hI]; rfl)
    · have hidx : ks.idxOf b = ks.length := List.idxOf_eq_length c
      simp only [if_neg c, if_pos (show ks.flatten.length + 64 < 17592186044416 ∧ ks.length < 1000000 by omega), if_pos (show I.length < 17592186044416 by omega), hidx]
      have := ih (i + 1) (ks ++ [b]) (I ++ [(ks.length : Int)]) (by omega) (fun x hx => by
        rcases List.mem_append.1 hx with hx | hx
        · exact hk x hx
        · rw [List.mem_singleton.1 hx]; exact hb) (by rw [List.length_append, List.length_singleton]; omega) (by rw [List.length_append, hI]; rfl)
      rw [List.flatten_append, List.flatten_cons, List.flatten_nil, List.append_nil] at this
      exact this
theorem same_ev (x y : List Int) (hx : x.length ≤ 1000000000) : Ev (fun k => spec_l04Same.f k x y) (decide (x = y)) := by
  unfold spec_l04Same.f
  by_cases hl : (x.length : Int) = (y.length : Int)
  · simp only [if_pos hl]
    have hl' : x.length = y.length := by omega
    have key : ∀ (d n : Nat), n + d = x.length → Ev (fun k => spec_l04Same.l0 k x y (n : Int)) (decide (x.drop n = y.drop n)) := by
      intro d
      induction d with
      | zero =>
        intro n hn
        refine succ_ ?_
        simp only [spec_l04Same.l0, if_neg (show ¬ (n : Int) < (x.length : Int) by omega)]
        rw [List.drop_eq_nil_of_le (by omega), List.drop_eq_nil_of_le (by omega), decide_eq_true rfl]
        exact Ev.now _
      | succ d ih =>
        intro n hn
        have h1 : n < x.length := by omega
        have h2 : n < y.length := by omega
        rw [List.drop_eq_getElem_cons h1, List.drop_eq_getElem_cons h2]
        refine succ_ ?_
        simp only [spec_l04Same.l0, if_pos (show (n : Int) < (x.length : Int) by omega), if_pos (show (0 : Int) ≤ (n : Int) by omega), if_pos (show (n : Int) < (y.length : Int) by omega), rd_at x n h1, rd_at y n h2]
        by_cases he : x[n] = y[n]
        · simp only [if_pos he]
          rw [show wrap64 ((n : Int) + 1) = ((n + 1 : Nat) : Int) from by rw [w64 (by omega) (by omega)]; omega]
          have e : decide (x[n] :: x.drop (n + 1) = y[n] :: y.drop (n + 1)) = decide (x.drop (n + 1) = y.drop (n + 1)) := by
            rw [he]; exact decide_eq_decide.2 ⟨fun h => by injection h, fun h => by rw [h]⟩
          rw [e]
          exact ih (n + 1) (by omega)
        · simp only [if_neg he]
          rw [decide_eq_false (fun h => he (by injection h))]
          exact Ev.now _
    have := key x.length 0 (by omega)
    simpa using this
  · simp only [if_neg hl]
    rw [decide_eq_false (fun h => hl (by rw [h]))]
    exact Ev.now _
theorem cut_bl (xs : List Int) (n : Nat) (hn : n ≤ 1000000000) : TrieB.cutB xs (n : Int) = (xs.drop n).take 64 := by
  unfold TrieB.cutB
  rw [w64 (by omega) (by omega), show ((n : Int) + 64).toNat = n + 64 by omega, Int.toNat_natCast, List.drop_take, show n + 64 - n = 64 by omega]
theorem idx_le (b : List Int) : ∀ (ks : List (List Int)) (j : Nat) (hj : j < ks.length), ks[j] = b → ks.idxOf b ≤ j
  | x :: ks, 0, _, h => by
    have h' : x = b := h
    rw [h', List.idxOf_cons_self]
    exact Nat.le_refl _
  | x :: ks, j + 1, hj, h => by
    have h' : ks[j]'(by simpa using hj) = b := h
    have := idx_le b ks j (by simpa using hj) h'
    rw [List.idxOf_cons]
    cases x == b
    · show ks.idxOf b + 1 ≤ j + 1
      omega
    · exact Nat.zero_le _
theorem first_idx (ks : List (List Int)) (b : List Int) (j : Nat) (hj : j < ks.length) (h : ks[j] = b) (hf : ∀ j', j' < j → (h' : j' < ks.length) → ks[j'] ≠ b) : ks.idxOf b = j := by
  have hm : b ∈ ks := h ▸ List.getElem_mem hj
  have hlt : ks.idxOf b < ks.length := List.idxOf_lt_length_iff.2 hm
  have hat : ks[ks.idxOf b] = b := List.getElem_idxOf hlt
  have hle : ¬ ks.idxOf b < j := fun hc => hf _ hc hlt hat
  have hge := idx_le b ks j hj h
  omega
theorem spec_find (V : List Int) (x7 : Int) (b : List Int) (hb : b.length = 64) (ks : List (List Int)) (hk : ∀ x ∈ ks, x.length = 64) (hkl : ks.length ≤ 512) (I : List Int) (hI : I.length ≤ 512) (hx : 0 ≤ x7 ∧ x7 ≤ 32768) (R : List Int × List Int)
    (hR : Ev (fun k => spec_BuildTrie.l0 k V (x7 + 64) (I ++ [(ks.idxOf b : Int)]) (if b ∈ ks then ks else ks ++ [b]).flatten) R) :
    ∀ (e j : Nat), j + e = ks.length → (∀ j', j' < j → (h' : j' < ks.length) → ks[j'] ≠ b) → Ev (fun k => spec_BuildTrie.l1 k V x7 b ((j * 64 : Nat) : Int) I ks.flatten) R := by
  have hfl := flat_len ks hk
  have hw7 : wrap64 (x7 + 64) = x7 + 64 := w64 (by omega) (by omega)
  intro e
  induction e with
  | zero =>
    intro j hj hf
    have hnb : b ∉ ks := fun hm => by
      obtain ⟨i, hi, he⟩ := List.getElem_of_mem hm
      exact hf i (by omega) hi he
    rw [if_neg hnb, List.idxOf_eq_length hnb, List.flatten_append, List.flatten_cons, List.flatten_nil, List.append_nil] at hR
    have ht : wrap64 (Int.tdiv ((j * 64 : Nat) : Int) 64) = (ks.length : Int) := by
      rw [Int.tdiv_eq_ediv_of_nonneg (by omega), w64 (by omega) (by omega)]; omega
    refine succ_ ?_
    simp only [spec_BuildTrie.l1, if_neg (show ¬ ((j * 64 : Nat) : Int) < (ks.flatten.length : Int) by omega), if_pos (show ((j * 64 : Nat) : Int) = (ks.flatten.length : Int) by omega), if_pos (show ks.flatten.length + b.length < 17592186044416 by omega), if_pos (show I.length < 17592186044416 by omega), ht, hw7]
    exact hR
  | succ e ih =>
    intro j hj hf
    have hlt : j < ks.length := by omega
    have hc : TrieB.cutB ks.flatten ((j * 64 : Nat) : Int) = ks[j] := by rw [cut_bl _ _ (by omega), flat_get ks j hlt hk]
    have hw : wrap64 (((j * 64 : Nat) : Int) + 64) = (((j + 1) * 64 : Nat) : Int) := by rw [w64 (by omega) (by omega)]; omega
    have hs := same_ev ks[j] b (by rw [hk _ (List.getElem_mem hlt)]; omega)
    refine succ_ ?_
    simp only [spec_BuildTrie.l1, if_pos (show ((j * 64 : Nat) : Int) < (ks.flatten.length : Int) by omega), hw, hc, if_pos (show 0 ≤ ((j * 64 : Nat) : Int) ∧ ((j * 64 : Nat) : Int) ≤ (((j + 1) * 64 : Nat) : Int) ∧ (((j + 1) * 64 : Nat) : Int) ≤ (ks.flatten.length : Int) by omega)]
    refine Ev.bind (g := fun k => spec_l04Same.f k ks[j] b) hs ?_
    by_cases h : ks[j] = b
    · have hm : b ∈ ks := h ▸ List.getElem_mem hlt
      rw [if_pos hm, first_idx ks b j hlt h hf] at hR
      have ht : wrap64 (Int.tdiv ((j * 64 : Nat) : Int) 64) = (j : Int) := by
        rw [Int.tdiv_eq_ediv_of_nonneg (by omega), w64 (by omega) (by omega)]; omega
      simp only [decide_eq_true h, if_true, if_neg (show ¬ ((j * 64 : Nat) : Int) = (ks.flatten.length : Int) by omega), if_pos (show I.length < 17592186044416 by omega), ht, hw7]
      exact hR
    · simp only [decide_eq_false h, Bool.false_eq_true, if_false]
      exact ih (j + 1) (by omega) (fun j' hj' h' => by
        rcases Nat.lt_or_ge j' j with h2 | h2
        · exact hf j' h2 h'
        · have e : j' = j := by omega
          subst e; exact h)
theorem spec_b (V : List Int) (hV : OKL V) : ∀ (d i : Nat) (ks : List (List Int)) (I : List Int), i + d = 512 → (∀ x ∈ ks, x.length = 64) → ks.length ≤ i → I.length = i →
    Ev (fun k => spec_BuildTrie.l0 k V ((i * 64 : Nat) : Int) I ks.flatten) (goB (blks V d i) ks I) := by
  have hV1 := hV.1
  intro d
  induction d with
  | zero =>
    intro i ks I hi hk hkl hI
    rw [blks, goB]
    refine succ_ ?_
    simp only [spec_BuildTrie.l0, if_neg (show ¬ ((i * 64 : Nat) : Int) < (V.length : Int) by omega)]
    exact Ev.now _
  | succ d ih =>
    intro i ks I hi hk hkl hI
    rw [blks, goB]
    have hb := bl_len V hV1 i (by omega)
    have hc : TrieB.cutB V ((i * 64 : Nat) : Int) = TrieC.bl V ((i * 64 : Nat) : Int) := by
      rw [cut_bl _ _ (by omega)]; unfold TrieC.bl; rw [Int.toNat_natCast]
    have hw : wrap64 (((i * 64 : Nat) : Int) + 64) = (((i + 1) * 64 : Nat) : Int) := by rw [w64 (by omega) (by omega)]; omega
    refine succ_ ?_
    simp only [spec_BuildTrie.l0, if_pos (show ((i * 64 : Nat) : Int) < (V.length : Int) by omega), hw, hc, if_pos (show 0 ≤ ((i * 64 : Nat) : Int) ∧ ((i * 64 : Nat) : Int) ≤ (((i + 1) * 64 : Nat) : Int) ∧ (((i + 1) * 64 : Nat) : Int) ≤ (V.length : Int) by omega)]
    generalize TrieC.bl V ((i * 64 : Nat) : Int) = b at hb
    have hR := ih (i + 1) (if b ∈ ks then ks else ks ++ [b]) (I ++ [(ks.idxOf b : Int)]) (by omega) (fun x hx => by
        split at hx
        · exact hk x hx
        · rcases List.mem_append.1 hx with hx | hx
          · exact hk x hx
          · rw [List.mem_singleton.1 hx]; exact hb) (by
        split
        · omega
        · rw [List.length_append, List.length_singleton]; omega) (by rw [List.length_append, hI]; rfl)
    have h := spec_find V ((i * 64 : Nat) : Int) b hb ks hk (by omega) I (by omega) (by omega) _ (by
      rw [show ((i * 64 : Nat) : Int) + 64 = (((i + 1) * 64 : Nat) : Int) by omega]; exact hR) ks.length 0 (by omega) (fun j' h' => absurd h' (by omega))
    simpa using h

/-! ### both -/
theorem zero_ok : ∃ v : List Int, List.replicate 32768 (0 : Int) = v ∧ OKL v := ⟨_, rfl, List.length_replicate, fun z hz => by rw [List.eq_of_mem_replicate hz]; decide⟩
theorem both (l : List Sp) (hl : l.length ≤ 1048576) (o : Int) (ho : (Lit.int .i64 o).wf = true) (hw : ∀ s ∈ l, (Lit.int .i64 s.f2).wf = true) : ∃ r : List Int × List Int, r.1.length ≤ 512 ∧ r.2.length ≤ 32768 ∧ Ev (fun k => spec_BuildTrie.f k l o) r ∧ Ev (fun k => impl_BuildTrie.f k l o) r := by
  obtain ⟨f, hs, hi, hg⟩ := fault_ev l hl
  obtain ⟨v0, e0, hv0⟩ := zero_ok
  unfold spec_BuildTrie.f impl_BuildTrie.f
  by_cases c : f = 0
  · have hg := hg c
    have hV := OKL.spans l (OKL.fill 32768 ((0 : Nat) : Int) hv0 ho) hw
    obtain ⟨V, eV⟩ : ∃ V, V = spansL l (fillL 32768 v0 ((0 : Nat) : Int) o) := ⟨_, rfl⟩
    have hsv := spec_v0 l hl hg o ho hw 32768 0 v0 (by omega) hv0
    rw [← eV] at hV hsv
    have hlen := goB_len (blks V 512 0) [] [] (by simp) (blks_all V hV.1 512 0 (by omega))
    rw [blks_len] at hlen
    simp only [List.length_nil] at hlen
    refine ⟨goB (blks V 512 0) [] [], by omega, by omega, ?_, ?_⟩
    · refine Ev.bind (g := fun k => spec_SpansFault.f k l) hs ?_
      simp only [if_pos c]
      refine Ev.bind (g := fun k => spec_l04Values.f k l o) (a := V) ?_ ?_
      · unfold spec_l04Values.f
        simp only [if_pos (show (32768 : Nat) ≤ 35184372088832 by omega), e0]
        exact hsv
      · exact spec_b V hV 512 0 [] [] (by omega) (by simp) (by simp) rfl
    · refine Ev.bind (g := fun k => impl_SpansFault.f k l) hi ?_
      simp only [if_pos c, if_pos (show (32768 : Nat) ≤ 35184372088832 by omega), e0, Option.bind_some, hv0.1]
      refine impl_v0 l hl hg _ o ho hw 32768 0 v0 (by omega) hv0 ?_
      rw [← eV]
      exact impl_b V hV 512 0 [] [] (by omega) (by simp) (by simp) rfl
  · refine ⟨([], []), by simp, by simp, ?_, ?_⟩
    · refine Ev.bind (g := fun k => spec_SpansFault.f k l) hs ?_
      simp only [if_neg c]
      exact Ev.now _
    · refine Ev.bind (g := fun k => impl_SpansFault.f k l) hi ?_
      simp only [if_neg c]
      exact Ev.now _

/-! ### the laws' marks -/
def mk : Int → Nat → List Int
  | _, 0 => []
  | m, d + 1 => m :: mk (m + 1) d
theorem mark_ev : ∀ (d j : Nat) (x : List Int) (m : Int), j + d = x.length → 0 ≤ m → m + d ≤ 4611686018427387904 → x.length ≤ 1048576 → Ev (fun k => laws_markInt64S.l0 k x m (j : Int)) (m + d, x.take j ++ mk m d)
  | 0, j, x, m, hj, h0, h1, h2 => by
    refine succ_ ?_
    simp only [laws_markInt64S.l0, if_neg (show ¬ (j : Int) < (x.length : Int) by omega)]
    have := Ev.now (m, x)
    rw [List.take_of_length_le (by omega), mk, List.append_nil]
    simpa using this
  | d + 1, j, x, m, hj, h0, h1, h2 => by
    have h := mark_ev d (j + 1) (x.set j m) (m + 1) (by rw [List.length_set]; omega) (by omega) (by omega) (by rw [List.length_set]; omega)
    rw [List.take_succ_eq_append_getElem (by rw [List.length_set]; omega), List.take_set_of_le (Nat.le_refl j), List.getElem_set_self, List.append_assoc] at h
    refine succ_ ?_
    simp only [laws_markInt64S.l0, if_pos (show (j : Int) < (x.length : Int) by omega), if_pos (show (0 : Int) ≤ (j : Int) by omega), Int.toNat_natCast, w64s (show j < x.length by omega) (by omega), w64 (x := m + 1) (by omega) (by omega)]
    rw [show m + 1 + (d : Int) = m + ((d + 1 : Nat) : Int) by omega] at h
    exact h
theorem mk_len : ∀ (m : Int) (d : Nat), (mk m d).length = d
  | _, 0 => rfl
  | m, d + 1 => by rw [mk, List.length_cons, mk_len]
theorem held_ev : ∀ (d j : Nat) (pre : List Int) (m : Int), pre.length = j → 0 ≤ m → m + d ≤ 4611686018427387904 → j + d ≤ 1048576 → Ev (fun k => laws_heldInt64S.l0 k (pre ++ mk m d) m (j : Int)) (m + d)
  | 0, j, pre, m, hj, h0, h1, h2 => by
    refine succ_ ?_
    rw [mk, List.append_nil]
    simp only [laws_heldInt64S.l0, if_neg (show ¬ (j : Int) < (pre.length : Int) by omega)]
    have := Ev.now m
    simpa using this
  | d + 1, j, pre, m, hj, h0, h1, h2 => by
    have h := held_ev d (j + 1) (pre ++ [m]) (m + 1) (by rw [List.length_append, hj]; rfl) (by omega) (by omega) (by omega)
    have e : pre ++ [m] ++ mk (m + 1) d = pre ++ mk m (d + 1) := by rw [List.append_assoc]; rfl
    rw [e] at h
    have hlen : (pre ++ mk m (d + 1)).length = j + (d + 1) := by rw [List.length_append, mk_len, hj]
    have hrd : rd (pre ++ mk m (d + 1)) (j : Int) = m := by
      rw [rd_at _ j (by omega), List.getElem_append_right (by omega)]
      simp [hj, mk]
    refine succ_ ?_
    simp only [laws_heldInt64S.l0, if_pos (show (j : Int) < ((pre ++ mk m (d + 1)).length : Int) by omega), if_pos (show (0 : Int) ≤ (j : Int) by omega), hrd, if_true, w64 (x := (j : Int) + 1) (by omega) (by omega), w64 (x := m + 1) (by omega) (by omega)]
    rw [show m + 1 + (d : Int) = m + ((d + 1 : Nat) : Int) by omega] at h
    exact h
theorem markS_ev : ∀ (d j : Nat) (x : List Sp) (m : Int), j + d = x.length → 0 ≤ m → m + 3 * d ≤ 4611686018427387904 → x.length ≤ 1048576 → ∃ y, Ev (fun k => laws_markSpanS.l0 k x m (j : Int)) (m + 3 * d, y)
  | 0, j, x, m, hj, h0, h1, h2 => by
    refine ⟨x, succ_ ?_⟩
    simp only [laws_markSpanS.l0, if_neg (show ¬ (j : Int) < (x.length : Int) by omega)]
    have := Ev.now (m, x)
    simpa using this
  | d + 1, j, x, m, hj, h0, h1, h2 => by
    have ex : ∀ z : Sp, ∃ y, Ev (fun k => laws_markSpanS.l0 k (x.set j z) (m + 1 + 1 + 1) ((j + 1 : Nat) : Int)) (m + 1 + 1 + 1 + 3 * d, y) := fun z => markS_ev d (j + 1) (x.set j z) (m + 1 + 1 + 1) (by rw [List.length_set]; omega) (by omega) (by omega) (by rw [List.length_set]; omega)
    obtain ⟨y, h⟩ := ex _
    refine ⟨y, succ_ ?_⟩
    simp only [laws_markSpanS.l0, if_pos (show (j : Int) < (x.length : Int) by omega), if_pos (show (0 : Int) ≤ (j : Int) by omega), Int.toNat_natCast, Option.bind_some, List.set_set, w64s (show j < x.length by omega) (by omega), w64 (x := m + 1) (by omega) (by omega), w64 (x := m + 1 + 1) (by omega) (by omega), w64 (x := m + 1 + 1 + 1) (by omega) (by omega)]
    rw [show m + 1 + 1 + 1 + 3 * (d : Int) = m + 3 * ((d + 1 : Nat) : Int) by omega] at h
    exact h
theorem FnExactBuildTrie : laws_FnExactBuildTrie.Pure := by
  intro l o h0 ho
  refine Ev.rounds (g := fun k => laws_FnExactBuildTrie.f k l o) ?_
  unfold laws_FnExactBuildTrie.f
  rw [szSpanS_eq l h0.1]
  simp only [Option.bind_some]
  by_cases c : (l.length : Int) > 1048576
  · simp only [if_pos c, if_pos (show (-1 : Int) < 0 by omega)]
    exact Ev.now _
  simp only [if_neg c, if_neg (show ¬ (1048576 - (l.length : Int)) < 0 by omega)]
  have hl : l.length ≤ 1048576 := by omega
  obtain ⟨s, hs⟩ : ∃ s, s = l.map asSpan := ⟨_, rfl⟩
  have hlen : s.length = l.length := by rw [hs]; simp
  have hto : Ev (fun k => laws_toSpanS.f k l) s := from_ (l.length + 1) (fun k hk => by rw [hs]; exact toSpanS_eq l k hk hl)
  have hws : ∀ x ∈ s, (Lit.int .i64 x.f2).wf = true := fun x hx => by
    rw [hs] at hx
    obtain ⟨y, hy, rfl⟩ := List.mem_map.1 hx
    exact (h0.2 y hy).2.2
  obtain ⟨r, r1, r2, e1, e2⟩ := both s (by omega) o ho hws
  have heq : Ev (fun k => laws_eqTrie.f k r.1 r.2 r.1 r.2) true := from_ (r.1.length + r.2.length + 1) (fun k hk => by
    simp [laws_eqTrie.f, eqInt64S_eq r.1 k (by omega) (by omega), eqInt64S_eq r.2 k (by omega) (by omega)])
  have hes : Ev (fun k => laws_eqSpanS.f k s s) true := from_ (s.length + 1) (fun k hk => eqSpanS_eq s k hk (by omega))
  obtain ⟨ym, hym⟩ := markS_ev s.length 0 s 1 (by omega) (by omega) (by omega) (by omega)
  have hm0 := mark_ev r.1.length 0 r.1 1 (by omega) (by omega) (by omega) (by omega)
  have hm1 := mark_ev r.2.length 0 r.2 (1 + (r.1.length : Int)) (by omega) (by omega) (by omega) (by omega)
  rw [List.take_zero, List.nil_append] at hm0 hm1
  have hd0 := held_ev r.1.length 0 [] 1 rfl (by omega) (by omega) (by omega)
  have hd1 := held_ev r.2.length 0 [] (1 + (r.1.length : Int)) rfl (by omega) (by omega) (by omega)
  rw [List.nil_append] at hd0 hd1
  have hmt : Ev (fun k => laws_markTrie.f k r.1 r.2 1) (1 + (r.1.length : Int) + (r.2.length : Int), mk 1 r.1.length, mk (1 + (r.1.length : Int)) r.2.length) := by
    unfold laws_markTrie.f
    refine Ev.bind (g := fun k => laws_markInt64S.f k r.1 1) hm0 ?_
    refine Ev.bind (g := fun k => laws_markInt64S.f k r.2 (1 + (r.1.length : Int))) hm1 ?_
    exact Ev.now _
  have hht : Ev (fun k => laws_heldTrie.f k (mk 1 r.1.length) (mk (1 + (r.1.length : Int)) r.2.length) 1) (1 + (r.1.length : Int) + (r.2.length : Int)) := by
    unfold laws_heldTrie.f
    refine Ev.bind (g := fun k => laws_heldInt64S.f k (mk 1 r.1.length) 1) hd0 ?_
    simp only [if_neg (show ¬ 1 + (r.1.length : Int) < 0 by omega)]
    refine Ev.bind (g := fun k => laws_heldInt64S.f k (mk (1 + (r.1.length : Int)) r.2.length) (1 + (r.1.length : Int))) hd1 ?_
    simp only [if_neg (show ¬ 1 + (r.1.length : Int) + (r.2.length : Int) < 0 by omega)]
    exact Ev.now _
  refine Ev.bind (g := fun k => laws_toSpanS.f k l) hto ?_
  refine Ev.bind (g := fun k => spec_BuildTrie.f k s o) e1 ?_
  refine Ev.bind (g := fun k => laws_toSpanS.f k l) hto ?_
  refine Ev.bind (g := fun k => impl_BuildTrie.f k s o) e2 ?_
  refine Ev.bind (g := fun k => laws_eqTrie.f k r.1 r.2 r.1 r.2) heq ?_
  simp only [if_true]
  refine Ev.bind (g := fun k => laws_toSpanS.f k l) hto ?_
  refine Ev.bind (g := fun k => laws_eqSpanS.f k s s) hes ?_
  simp only [if_true]
  refine Ev.bind (g := fun k => laws_markSpanS.f k s 1) hym ?_
  simp only [if_neg (show ¬ 1 + 3 * (s.length : Int) < 0 by omega)]
  refine Ev.bind (g := fun k => laws_eqTrie.f k r.1 r.2 r.1 r.2) heq ?_
  refine succ_ ?_
  simp only [laws_FnExactBuildTrie.j0, Bool.not_true, Bool.false_eq_true, if_false]
  refine Ev.bind (g := fun k => laws_markTrie.f k r.1 r.2 1) hmt ?_
  refine Ev.bind (g := fun k => laws_heldTrie.f k (mk 1 r.1.length) (mk (1 + (r.1.length : Int)) r.2.length) 1) hht ?_
  simp only [if_neg (show ¬ 1 + (r.1.length : Int) + (r.2.length : Int) < 0 by omega), if_true]
  refine Ev.bind (g := fun k => laws_toSpanS.f k l) hto ?_
  refine Ev.bind (g := fun k => impl_BuildTrie.f k s o) e2 ?_
  refine Ev.bind (g := fun k => laws_eqTrie.f k r.1 r.2 r.1 r.2) heq ?_
  simp only [if_true]
  refine Ev.bind (g := fun k => laws_heldTrie.f k (mk 1 r.1.length) (mk (1 + (r.1.length : Int)) r.2.length) 1) hht ?_
  simp only [if_neg (show ¬ 1 + (r.1.length : Int) + (r.2.length : Int) < 0 by omega), if_true]
  exact Ev.now _
end Go.Proofs.Ytogdmjcdfjnifaa.Pure

/- The program's TrieSpans returns what the reference's returns. For every input: the law answers true; each argument reads afterwards as it read before. -/
import Derived.Test.YtogdmjcdfjnifaaTrieQTrieSpans
import Derived.Test.YtogdmjcdfjnifaaRunsPTrieSpans
import Derived.Test.YtogdmjcdfjnifaaOutSpanSTrieSpans
set_option linter.unusedSimpArgs false
set_option linter.unusedVariables false
namespace Go.Proofs.Ytogdmjcdfjnifaa.Pure
open Go.RowKit Go.Proofs.Ytogdmjcdfjnifaa.PFnExactTrieSpans Go.Proofs.YtogdmjcdfjnifaaW.PrintWords Go.Proofs.YtogdmjcdfjnifaaW.PrintLast Go.Proofs.YtogdmjcdfjnifaaW.PrintMore Go.Proofs.Ytogdmjcdfjnifaa.Lib Go.Proofs.Ytogdmjcdfjnifaa.EvKit
open Go.Proofs.Ytogdmjcdfjnifaa.TrieMap (nextF blkAt cnt tfGood tfAll)

/-- The values at the first N places. -/
def vals (l0 l1 : List Int) (N : Nat) : List Int := (List.range N).map fun (p : Nat) => atV l0 l1 (p : Int)
theorem vals_len (l0 l1 : List Int) (N : Nat) : (vals l0 l1 N).length = N := by simp [vals]
theorem vals_get (l0 l1 : List Int) (N p : Nat) (h : p < (vals l0 l1 N).length) : (vals l0 l1 N)[p] = atV l0 l1 (p : Int) := by simp [vals]
theorem runs_ev (l0 l1 : List Int) (h1 : l1.length ≤ 1048576) (h : tfAll l0 l1 = 0) (N : Nat) (hN : N = 32768) : ∀ (d n : Nat) (out : List Sp), n + d = N → out.length ≤ n → Ev (fun k => impl_runs.l0 k l0 l1 out (n : Int)) (foldR ((vals l0 l1 N).drop n) (n : Int) out) := by
  have hv := vals_len l0 l1 N
  intro d
  induction d with
  | zero =>
    intro n out hn ho
    rw [List.drop_eq_nil_of_le (by omega), foldR]
    refine succ_ ?_
    simp only [impl_runs.l0, if_neg (show ¬ (n : Int) ≤ 32767 by omega)]
    exact Ev.now _
  | succ d ih =>
    intro n out hn ho
    have hlt : n < (vals l0 l1 N).length := by omega
    rw [List.drop_eq_getElem_cons hlt, foldR, vals_get]
    refine succ_ ?_
    have ha : impl_Trie_at.f l0 l1 (n : Int) = some (atV l0 l1 (n : Int)) := at_ok l0 l1 (n : Int) h1 h (by omega)
    simp only [impl_runs.l0, if_pos (show (n : Int) ≤ 32767 by omega), ha, Option.bind_some]
    refine step_round (fun k o p => impl_runs.l0 k l0 l1 o p) out n (atV l0 l1 (n : Int)) ho (by omega) _ ?_
    have h := stepR_len out (n : Int) (atV l0 l1 (n : Int))
    have := ih (n + 1) (stepR out (n : Int) (atV l0 l1 (n : Int))) (by omega) (by omega)
    rw [show ((n + 1 : Nat) : Int) = (n : Int) + 1 by omega] at this ⊢
    exact this
/-! ### the reference gathers the values -/
def blkV (l1 : List Int) (x : Int) : List Int := (l1.take ((x + 1) * 64).toNat).drop (x * 64).toNat
theorem blkV_len (l1 : List Int) (x : Int) (h0 : 0 ≤ x) (h1 : x * 64 + 64 ≤ (l1.length : Int)) : (blkV l1 x).length = 64 := by
  unfold blkV
  rw [List.length_drop, List.length_take]
  omega
theorem blkV_get (l1 : List Int) (x : Int) (h0 : 0 ≤ x) (j : Nat) (h : j < (blkV l1 x).length) : (blkV l1 x)[j] = rd l1 (x * 64 + (j : Int)) := by
  obtain ⟨n, rfl⟩ : ∃ n : Nat, x = (n : Int) := ⟨x.toNat, by omega⟩
  have hl : j < (blkV l1 (n : Int)).length := h
  simp only [blkV, List.length_drop, List.length_take] at hl
  simp only [blkV, List.getElem_drop, List.getElem_take]
  rw [show (n : Int) * 64 + (j : Int) = ((n * 64 + j : Nat) : Int) by omega, rd_nat l1 (n * 64 + j) (by omega)]
  congr 1
theorem vals_blk (l0 l1 : List Int) (h : tfAll l0 l1 = 0) (N : Nat) (hN : N = 32768) (i : Nat) (hi : i < l0.length) : (vals l0 l1 N).drop (i * 64) = blkV l1 l0[i] ++ (vals l0 l1 N).drop ((i + 1) * 64) := by
  obtain ⟨hl, hx⟩ := idx_in l0 l1 h
  have hr := hx _ (List.getElem_mem hi)
  have hb := blkV_len l1 l0[i] hr.1 hr.2
  have hv := vals_len l0 l1 N
  have e : blkV l1 l0[i] = ((vals l0 l1 N).drop (i * 64)).take 64 := by
    refine List.ext_getElem (by rw [hb, List.length_take, List.length_drop, hv]; omega) (fun j h1 h2 => ?_)
    rw [List.getElem_take, List.getElem_drop, vals_get]
    have h1' := h1
    rw [hb] at h1'
    unfold atV
    have e1 : ((i * 64 + j : Nat) : Int) / 64 = ((i : Nat) : Int) := by omega
    have e2 : ((i * 64 + j : Nat) : Int) % 64 = (j : Int) := by omega
    rw [e1, e2, rd_nat l0 i hi]
    exact blkV_get l1 l0[i] hr.1 j h1
  have e2 : (i + 1) * 64 = i * 64 + 64 := by omega
  rw [e, e2, ← List.drop_drop, List.take_append_drop]
theorem gather_ev (l0 l1 : List Int) (h1 : l1.length ≤ 1048576) (h : tfAll l0 l1 = 0) (N : Nat) (hN : N = 32768) : ∀ (d i : Nat) (acc : List Int), i + d = l0.length → acc.length = i * 64 → acc ++ (vals l0 l1 N).drop (i * 64) = vals l0 l1 N →
    Ev (fun k => spec_TrieSpans.l0 k acc (i : Int) l0 l1) (foldR (vals l0 l1 N) 0 []) := by
  obtain ⟨hl, hx⟩ := idx_in l0 l1 h
  have hv := vals_len l0 l1 N
  intro d
  induction d with
  | zero =>
    intro i acc hi ha he
    rw [List.drop_eq_nil_of_le (by omega), List.append_nil] at he
    refine succ_ ?_
    simp only [spec_TrieSpans.l0, if_neg (show ¬ (i : Int) < (l0.length : Int) by omega)]
    refine Ev.bind (g := fun k => spec_l04Spans.f k acc) (a := foldR (vals l0 l1 N) 0 []) ?_ (Ev.now _)
    rw [he]
    exact spans_all _ (by omega)
  | succ d ih =>
    intro i acc hi ha he
    have hlt : i < l0.length := by omega
    have hr := hx _ (List.getElem_mem hlt)
    have hb := blkV_len l1 l0[i] hr.1 hr.2
    have e1 : wrap64 (l0[i] * 64) = l0[i] * 64 := w64 (by omega) (by omega)
    have e2 : wrap64 (l0[i] + 1) = l0[i] + 1 := w64 (by omega) (by omega)
    have e3 : wrap64 ((l0[i] + 1) * 64) = (l0[i] + 1) * 64 := w64 (by omega) (by omega)
    refine succ_ ?_
    simp only [spec_TrieSpans.l0, if_pos (show (i : Int) < (l0.length : Int) by omega), if_pos (show (0 : Int) ≤ (i : Int) by omega), rd_nat l0 i hlt, e1, e2, e3, if_pos (show 0 ≤ l0[i] * 64 by omega), if_pos (show l0[i] * 64 ≤ (l0[i] + 1) * 64 by omega), if_pos (show (l0[i] + 1) * 64 ≤ (l1.length : Int) by omega)]
    have hb' : ((l1.take ((l0[i] + 1) * 64 : Int).toNat).drop (l0[i] * 64 : Int).toNat).length = 64 := hb
    have hlen : acc.length + ((l1.take ((l0[i] + 1) * 64 : Int).toNat).drop (l0[i] * 64 : Int).toNat).length < 17592186044416 := by rw [hb']; omega
    simp only [if_pos hlen, w64s hlt (by omega)]
    refine ih (i + 1) (acc ++ blkV l1 l0[i]) (by omega) (by rw [List.length_append, hb]; omega) ?_
    rw [List.append_assoc, ← vals_blk l0 l1 h N hN i hlt, he]
theorem both (l0 l1 : List Int) (g0 : l0.length ≤ 1048576) (g1 : l1.length ≤ 1048576) (hw : ∀ y ∈ l1, (Lit.int .i64 y).wf = true) : ∃ r : List Sp, r.length ≤ 32768 ∧ Ev (fun k => spec_TrieSpans.f k l0 l1) r ∧ Ev (fun k => impl_TrieSpans.f k l0 l1) r := by
  unfold spec_TrieSpans.f impl_TrieSpans.f
  rw [impl_fault l0 l1 g0 g1 hw]
  have hs := spec_fault l0 l1 g0 g1
  by_cases h : tfAll l0 l1 = 0
  · obtain ⟨N, hN⟩ : ∃ N : Nat, N = 32768 := ⟨_, rfl⟩
    have hv := vals_len l0 l1 N
    refine ⟨foldR (vals l0 l1 N) 0 [], ?_, ?_, ?_⟩
    · have := foldR_len (vals l0 l1 N) 0 []
      rw [List.length_nil] at this
      omega
    · refine Ev.bind (g := fun k => spec_TrieFault.f k l0 l1) hs ?_
      simp only [if_pos h]
      exact gather_ev l0 l1 g1 h N hN l0.length 0 [] (by omega) (by simp) (by simp)
    · simp only [Option.bind_some, if_pos h]
      refine Ev.bind (g := fun k => impl_runs.f k l0 l1) (a := foldR (vals l0 l1 N) 0 []) ?_ (Ev.now _)
      have := runs_ev l0 l1 g1 h N hN N 0 [] (by omega) (by simp)
      simpa [impl_runs.f] using this
  · refine ⟨[], by simp, ?_, ?_⟩
    · refine Ev.bind (g := fun k => spec_TrieFault.f k l0 l1) hs ?_
      simp only [if_neg h]
      exact Ev.now _
    · simp only [Option.bind_some, if_neg h]
      exact Ev.now _
theorem FnExactTrieSpans : laws_FnExactTrieSpans.Pure := by
  intro l0 l1 h0 h1
  refine Ev.rounds (g := fun k => laws_FnExactTrieSpans.f k l0 l1) ?_
  unfold laws_FnExactTrieSpans.f
  rcases sz_trie l0 l1 (Nat.le_trans h0.1 (by decide)) (Nat.le_trans h1.1 (by decide)) with h | ⟨r, hr, h, g0, g1⟩
  · simp only [h, Option.bind_some, if_pos (show (-1 : Int) < 0 by omega)]
    exact Ev.now _
  simp only [h, Option.bind_some, if_neg (show ¬ r < 0 by omega)]
  obtain ⟨v, hv, e1, e2⟩ := both l0 l1 g0 g1 h1.2
  obtain ⟨mk, hm0, hm⟩ := mark_trie l0 l1 g0 g1
  have heq : Ev (fun k => laws_eqSpanS.f k v v) true := from_ (v.length + 1) (fun k hk => eqSpanS_eq v k hk (by omega))
  have hto := to_trie l0 l1 g0 g1
  refine Ev.bind (g := fun k => laws_toTrie.f k l0 l1) hto ?_
  refine Ev.bind (g := fun k => spec_TrieSpans.f k l0 l1) e1 ?_
  refine Ev.bind (g := fun k => laws_toTrie.f k l0 l1) hto ?_
  refine Ev.bind (g := fun k => impl_TrieSpans.f k l0 l1) e2 ?_
  refine Ev.bind (g := fun k => laws_eqSpanS.f k v v) heq ?_
  simp only [if_true]
  refine Ev.bind (g := fun k => laws_toTrie.f k l0 l1) hto ?_
  refine Ev.bind (g := fun k => laws_eqTrie.f k l0 l1 l0 l1) (eq_trie l0 l1 g0 g1) ?_
  simp only [if_true]
  refine Ev.bind (g := fun k => laws_markTrie.f k l0 l1 1) hm ?_
  simp only [if_neg (show ¬ mk.1 < 0 by omega)]
  refine Ev.bind (g := fun k => laws_eqSpanS.f k v v) heq ?_
  refine succ_ ?_
  simp only [laws_FnExactTrieSpans.j0, Bool.not_true, Bool.false_eq_true, if_false]
  have hmk : Ev (fun k => laws_markSpanS.f k v 1) (3 * (v.length : Int) + 1, marksS v.length) := from_ (v.length + 1) (fun k hk => markSpanS_eq v k hk (by omega))
  have hhd : Ev (fun k => laws_heldSpanS.f k (marksS v.length) 1) (3 * (v.length : Int) + 1) := from_ (v.length + 1) (fun k hk => heldSpanS_eq v.length k hk (by omega))
  refine Ev.bind (g := fun k => laws_markSpanS.f k v 1) hmk ?_
  refine Ev.bind (g := fun k => laws_heldSpanS.f k (marksS v.length) 1) hhd ?_
  simp only [if_neg (show ¬ 3 * (v.length : Int) + 1 < 0 by omega), if_true]
  refine Ev.bind (g := fun k => laws_toTrie.f k l0 l1) hto ?_
  refine Ev.bind (g := fun k => impl_TrieSpans.f k l0 l1) e2 ?_
  refine Ev.bind (g := fun k => laws_eqSpanS.f k v v) heq ?_
  simp only [if_true]
  refine Ev.bind (g := fun k => laws_heldSpanS.f k (marksS v.length) 1) hhd ?_
  simp only [if_neg (show ¬ 3 * (v.length : Int) + 1 < 0 by omega), if_true]
  exact Ev.now _
end Go.Proofs.Ytogdmjcdfjnifaa.Pure

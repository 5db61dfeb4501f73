/- The program's TrieAt returns what the reference's returns. For every input: the law answers true; each argument reads afterwards as it read before. -/
import Derived.Test.YtogdmjcdfjnifaaTriePTrieAt
set_option linter.unusedSimpArgs false
set_option linter.unusedVariables false
namespace Go.Proofs.Ytogdmjcdfjnifaa.Pure
open Go.RowKit Go.Proofs.Ytogdmjcdfjnifaa.PFnExactTrieAt Go.Proofs.YtogdmjcdfjnifaaW.PrintWords Go.Proofs.YtogdmjcdfjnifaaW.PrintLast Go.Proofs.YtogdmjcdfjnifaaW.PrintMore Go.Proofs.Ytogdmjcdfjnifaa.Lib Go.Proofs.Ytogdmjcdfjnifaa.EvKit
open Go.Proofs.Ytogdmjcdfjnifaa.TrieMap (nextF blkAt cnt tfGood tfAll)

theorem next_in : ∀ (l : List Int) (nx z : Int), nextF l nx = some z → nx ≤ z ∧ ∀ x ∈ l, 0 ≤ x ∧ (x < z ∨ x < nx)
  | [], nx, z, h => by
    rw [nextF] at h; injection h with h; exact ⟨by omega, fun x hx => by cases hx⟩
  | k :: l, nx, z, h => by
    rw [nextF] at h
    by_cases c : k < 0 ∨ k > nx
    · rw [if_pos c] at h; cases h
    · rw [if_neg c] at h
      obtain ⟨h1, h2⟩ := next_in l _ z h
      have h3 : nx ≤ z ∧ (if k = nx then nx + 1 else nx) ≤ z := by split at h1 <;> omega
      refine ⟨h3.1, fun x hx => ?_⟩
      rcases List.mem_cons.1 hx with rfl | hx
      · refine ⟨by omega, ?_⟩
        by_cases e : x = nx
        · rw [if_pos e] at h3; left; omega
        · right; omega
      · have := h2 x hx
        refine ⟨this.1, ?_⟩
        rcases this.2 with h | h
        · exact .inl h
        · left
          split at h <;> omega
/-- What stands in the table of a trie without a fault. -/
theorem idx_in (l0 l1 : List Int) (h : tfAll l0 l1 = 0) : l0.length = 512 ∧ ∀ x ∈ l0, 0 ≤ x ∧ x * 64 + 64 ≤ (l1.length : Int) := by
  unfold tfAll at h
  by_cases c : l0.length = 512 ∧ l1.length % 64 = 0 ∧ l1.length / 64 ≤ 512
  · rw [if_pos c] at h
    unfold tfGood at h
    cases hn : nextF l0 0 with
    | none => rw [hn] at h; cases h
    | some z =>
      rw [hn] at h
      by_cases g : z = ((l1.length / 64 : Nat) : Int) ∧ cnt l1 (l1.length / 64) = l1.length / 64
      · obtain ⟨_, h2⟩ := next_in l0 0 z hn
        refine ⟨c.1, fun x hx => ?_⟩
        have := h2 x hx
        have g1 := g.1
        omega
      · simp only [if_neg g] at h; cases h
  · rw [if_neg c] at h; cases h
theorem point_small (a : Int) : impl_isPoint.f a = some (decide (0 ≤ a ∧ a ≤ 1114111 ∧ (a < 55296 ∨ a > 57343))) := by
  unfold impl_isPoint.f
  by_cases c : a ≥ 0
  · rw [if_pos c]
    by_cases b : a ≤ 1114111
    · rw [if_pos b]
      by_cases d : a < 55296
      · rw [if_pos d, decide_eq_true (show 0 ≤ a ∧ a ≤ 1114111 ∧ (a < 55296 ∨ a > 57343) by omega)]
      · rw [if_neg d]; congr 1; exact decide_eq_decide.2 (by omega)
    · rw [if_neg b, decide_eq_false (show ¬ (0 ≤ a ∧ a ≤ 1114111 ∧ (a < 55296 ∨ a > 57343)) by omega)]
  · rw [if_neg c, decide_eq_false (show ¬ (0 ≤ a ∧ a ≤ 1114111 ∧ (a < 55296 ∨ a > 57343)) by omega)]
def atV (l0 l1 : List Int) (a : Int) : Int := rd l1 (rd l0 (a / 64) * 64 + a % 64)
theorem at_ok (l0 l1 : List Int) (a : Int) (h1 : l1.length ≤ 1048576) (h : tfAll l0 l1 = 0) (ha : 0 ≤ a ∧ a ≤ 32767) :
    (if 0 ≤ (wrap64 (Int.tdiv a 64)) then (if (wrap64 (Int.tdiv a 64)) < (l0.length : Int) then (if 0 ≤ (wrap64 ((wrap64 ((rd l0 (wrap64 (Int.tdiv a 64))) * 64)) + (Int.tmod a 64))) then (if (wrap64 ((wrap64 ((rd l0 (wrap64 (Int.tdiv a 64))) * 64)) + (Int.tmod a 64))) < (l1.length : Int) then (some (rd l1 (wrap64 ((wrap64 ((rd l0 (wrap64 (Int.tdiv a 64))) * 64)) + (Int.tmod a 64))))) else (none)) else (none)) else (none)) else (none)) = some (atV l0 l1 a) := by
  obtain ⟨hl, hx⟩ := idx_in l0 l1 h
  have e1 : Int.tdiv a 64 = a / 64 := Int.tdiv_eq_ediv_of_nonneg ha.1
  have e2 : Int.tmod a 64 = a % 64 := Int.tmod_eq_emod_of_nonneg ha.1
  have e3 : wrap64 (a / 64) = a / 64 := by rw [w64 (by omega) (by omega)]
  obtain ⟨j, hj⟩ : ∃ j : Nat, a / 64 = (j : Int) := ⟨(a / 64).toNat, by omega⟩
  have hjl : j < l0.length := by omega
  have hr := hx _ (List.getElem_mem hjl)
  have hv : rd l0 (a / 64) = l0[j] := by rw [hj]; exact rd_at l0 j hjl
  have e4 : wrap64 (l0[j] * 64) = l0[j] * 64 := by rw [w64 (by omega) (by omega)]
  have e5 : wrap64 (l0[j] * 64 + a % 64) = l0[j] * 64 + a % 64 := by rw [w64 (by omega) (by omega)]
  unfold atV
  rw [e1, e2, e3, hv, e4, e5, if_pos (by omega), if_pos (by omega), if_pos (by omega), if_pos (by omega)]
theorem both (l0 l1 : List Int) (a : Int) (g0 : l0.length ≤ 1048576) (g1 : l1.length ≤ 1048576) (hw : ∀ y ∈ l1, (Lit.int .i64 y).wf = true) : ∃ r, Ev (fun k => spec_TrieAt.f k l0 l1 a) r ∧ impl_TrieAt.f l0 l1 a = some r := by
  unfold spec_TrieAt.f impl_TrieAt.f impl_Trie_at.f
  rw [impl_fault l0 l1 g0 g1 hw, Option.bind_some]
  have hs := spec_fault l0 l1 g0 g1
  by_cases h : tfAll l0 l1 = 0
  · rw [if_pos h, point_small, Option.bind_some]
    by_cases c1 : a < 0
    · refine ⟨0, Ev.bind (g := fun k => spec_TrieFault.f k l0 l1) hs ?_, ?_⟩
      · simp only [if_pos h, if_pos c1]; exact Ev.now _
      · rw [decide_eq_false (show ¬ (0 ≤ a ∧ a ≤ 1114111 ∧ (a < 55296 ∨ a > 57343)) by omega)]; rfl
    · by_cases c2 : a > 32767
      · refine ⟨0, Ev.bind (g := fun k => spec_TrieFault.f k l0 l1) hs ?_, ?_⟩
        · simp only [if_pos h, if_neg c1, if_pos c2]; exact Ev.now _
        · rw [if_pos c2]; split <;> rfl
      · have ha : 0 ≤ a ∧ a ≤ 32767 := by omega
        refine ⟨atV l0 l1 a, Ev.bind (g := fun k => spec_TrieFault.f k l0 l1) hs ?_, ?_⟩
        · simp only [if_pos h, if_neg c1, if_neg c2, at_ok l0 l1 a g1 h ha]; exact Ev.now _
        · rw [decide_eq_true (show 0 ≤ a ∧ a ≤ 1114111 ∧ (a < 55296 ∨ a > 57343) by omega), if_pos rfl, if_neg c2, at_ok l0 l1 a g1 h ha]; rfl
  · rw [if_neg h]
    refine ⟨0, Ev.bind (g := fun k => spec_TrieFault.f k l0 l1) hs ?_, rfl⟩
    simp only [if_neg h]; exact Ev.now _
theorem FnExactTrieAt : laws_FnExactTrieAt.Pure := by
  intro l0 l1 a h0 h1 _
  refine Ev.rounds (g := fun k => laws_FnExactTrieAt.f k l0 l1 a) ?_
  unfold laws_FnExactTrieAt.f
  rcases sz_trie l0 l1 (Nat.le_trans h0.1 (by decide)) (Nat.le_trans h1.1 (by decide)) with h | ⟨r, hr, h, g0, g1⟩
  · simp only [h, Option.bind_some, if_pos (show (-1 : Int) < 0 by omega)]
    exact Ev.now _
  simp only [h, Option.bind_some, if_neg (show ¬ r < 0 by omega)]
  obtain ⟨v, e1, e2⟩ := both l0 l1 a g0 g1 h1.2
  refine Ev.bind (g := fun k => laws_toTrie.f k l0 l1) (to_trie l0 l1 g0 g1) ?_
  refine Ev.bind (g := fun k => spec_TrieAt.f k l0 l1 a) e1 ?_
  refine Ev.bind (g := fun k => laws_toTrie.f k l0 l1) (to_trie l0 l1 g0 g1) ?_
  simp only [e2, Option.bind_some, if_true]
  refine Ev.bind (g := fun k => laws_toTrie.f k l0 l1) (to_trie l0 l1 g0 g1) ?_
  refine Ev.bind (g := fun k => laws_eqTrie.f k l0 l1 l0 l1) (eq_trie l0 l1 g0 g1) ?_
  simp only [if_true]
  exact Ev.now _
end Go.Proofs.Ytogdmjcdfjnifaa.Pure

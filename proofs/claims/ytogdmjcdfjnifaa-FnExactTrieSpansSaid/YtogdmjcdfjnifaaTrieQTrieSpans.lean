/- What a trie without a fault holds at a place. -/
import Derived.Test.YtogdmjcdfjnifaaTriePTrieSpans
set_option linter.unusedSimpArgs false
set_option linter.unusedVariables false
namespace Go.Proofs.Ytogdmjcdfjnifaa.PFnExactTrieSpans
open Go.RowKit Go.Proofs.YtogdmjcdfjnifaaW.PrintWords Go.Proofs.YtogdmjcdfjnifaaW.PrintLast Go.Proofs.YtogdmjcdfjnifaaW.PrintMore Go.Proofs.Ytogdmjcdfjnifaa.Lib Go.Proofs.Ytogdmjcdfjnifaa.EvKit
open Go.Proofs.Ytogdmjcdfjnifaa.TrieMap (nextF blkAt cnt tfGood tfAll)

theorem next_in : ∀ (l : List Int) (nx z : Int), nextF l nx = some z → nx ≤ z ∧ ∀ x ∈ l, 0 ≤ x ∧ (x < z ∨ x < nx)
  | [], nx, z, h => by
    rw [nextF] at h; injection h with h; exact ⟨by omega, fun x hx => by cases hx⟩
  | k :: l, nx, z, h => by
    rw [nextF] at h
    by_cases c : k < 0 ∨ k > nx
    · rw [if_pos c] at h; cases h
    · rw [if_neg c] at h
      obtain ⟨h1, h2⟩ := next_in l _ z h
      have h3 : nx ≤ z ∧ (if k = nx then nx + 1 else nx) ≤ z := by split at h1 <;> omega
      refine ⟨h3.1, fun x hx => ?_⟩
      rcases List.mem_cons.1 hx with rfl | hx
      · refine ⟨by omega, ?_⟩
        by_cases e : x = nx
        · rw [if_pos e] at h3; left; omega
        · right; omega
      · have := h2 x hx
        refine ⟨this.1, ?_⟩
        rcases this.2 with h | h
        · exact .inl h
        · left
          split at h <;> omega
/-- What stands in the table of a trie without a fault. -/
theorem idx_in (l0 l1 : List Int) (h : tfAll l0 l1 = 0) : l0.length = 512 ∧ ∀ x ∈ l0, 0 ≤ x ∧ x * 64 + 64 ≤ (l1.length : Int) := by
  unfold tfAll at h
  by_cases c : l0.length = 512 ∧ l1.length % 64 = 0 ∧ l1.length / 64 ≤ 512
  · rw [if_pos c] at h
    unfold tfGood at h
    cases hn : nextF l0 0 with
    | none => rw [hn] at h; cases h
    | some z =>
      rw [hn] at h
      by_cases g : z = ((l1.length / 64 : Nat) : Int) ∧ cnt l1 (l1.length / 64) = l1.length / 64
      · obtain ⟨_, h2⟩ := next_in l0 0 z hn
        refine ⟨c.1, fun x hx => ?_⟩
        have := h2 x hx
        have g1 := g.1
        omega
      · simp only [if_neg g] at h; cases h
  · rw [if_neg c] at h; cases h
def atV (l0 l1 : List Int) (a : Int) : Int := rd l1 (rd l0 (a / 64) * 64 + a % 64)
theorem at_ok (l0 l1 : List Int) (a : Int) (h1 : l1.length ≤ 1048576) (h : tfAll l0 l1 = 0) (ha : 0 ≤ a ∧ a ≤ 32767) :
    (if 0 ≤ (wrap64 (Int.tdiv a 64)) then (if (wrap64 (Int.tdiv a 64)) < (l0.length : Int) then (if 0 ≤ (wrap64 ((wrap64 ((rd l0 (wrap64 (Int.tdiv a 64))) * 64)) + (Int.tmod a 64))) then (if (wrap64 ((wrap64 ((rd l0 (wrap64 (Int.tdiv a 64))) * 64)) + (Int.tmod a 64))) < (l1.length : Int) then (some (rd l1 (wrap64 ((wrap64 ((rd l0 (wrap64 (Int.tdiv a 64))) * 64)) + (Int.tmod a 64))))) else (none)) else (none)) else (none)) else (none)) = some (atV l0 l1 a) := by
  obtain ⟨hl, hx⟩ := idx_in l0 l1 h
  have e1 : Int.tdiv a 64 = a / 64 := Int.tdiv_eq_ediv_of_nonneg ha.1
  have e2 : Int.tmod a 64 = a % 64 := Int.tmod_eq_emod_of_nonneg ha.1
  have e3 : wrap64 (a / 64) = a / 64 := by rw [w64 (by omega) (by omega)]
  obtain ⟨j, hj⟩ : ∃ j : Nat, a / 64 = (j : Int) := ⟨(a / 64).toNat, by omega⟩
  have hjl : j < l0.length := by omega
  have hr := hx _ (List.getElem_mem hjl)
  have hv : rd l0 (a / 64) = l0[j] := by rw [hj]; exact rd_at l0 j hjl
  have e4 : wrap64 (l0[j] * 64) = l0[j] * 64 := by rw [w64 (by omega) (by omega)]
  have e5 : wrap64 (l0[j] * 64 + a % 64) = l0[j] * 64 + a % 64 := by rw [w64 (by omega) (by omega)]
  unfold atV
  rw [e1, e2, e3, hv, e4, e5, if_pos (by omega), if_pos (by omega), if_pos (by omega), if_pos (by omega)]
/-- The laws' marks in a row, from any number on. -/
theorem mark_any : ∀ (d j : Nat) (x : List Int) (m : Int), j + d = x.length → 0 ≤ m → m + d ≤ 4611686018427387904 → x.length ≤ 4611686018427387904 → ∃ y, Ev (fun k => laws_markInt64S.l0 k x m (j : Int)) (m + d, y)
  | 0, j, x, m, hj, h0, h1, h2 => by
    refine ⟨x, succ_ ?_⟩
    simp only [laws_markInt64S.l0, if_neg (show ¬ (j : Int) < (x.length : Int) by omega)]
    have := Ev.now (m, x)
    simpa using this
  | d + 1, j, x, m, hj, h0, h1, h2 => by
    obtain ⟨y, h⟩ := mark_any d (j + 1) (x.set j m) (m + 1) (by rw [List.length_set]; omega) (by omega) (by omega) (by rw [List.length_set]; omega)
    refine ⟨y, succ_ ?_⟩
    simp only [laws_markInt64S.l0, if_pos (show (j : Int) < (x.length : Int) by omega), if_pos (show (0 : Int) ≤ (j : Int) by omega), Int.toNat_natCast, w64s (show j < x.length by omega) (by omega), w64 (x := m + 1) (by omega) (by omega)]
    rw [show m + 1 + (d : Int) = m + ((d + 1 : Nat) : Int) by omega] at h
    exact h
theorem mark_trie (l0 l1 : List Int) (h0 : l0.length ≤ 1048576) (h1 : l1.length ≤ 1048576) : ∃ r, 0 ≤ r.1 ∧ Ev (fun k => laws_markTrie.f k l0 l1 1) r := by
  obtain ⟨y0, e0⟩ := mark_any l0.length 0 l0 1 (by omega) (by omega) (by omega) (by omega)
  obtain ⟨y1, e1⟩ := mark_any l1.length 0 l1 (1 + (l0.length : Int)) (by omega) (by omega) (by omega) (by omega)
  refine ⟨(1 + (l0.length : Int) + (l1.length : Int), y0, y1), by show 0 ≤ 1 + (l0.length : Int) + (l1.length : Int); omega, ?_⟩
  unfold laws_markTrie.f
  refine Ev.bind (g := fun k => laws_markInt64S.f k l0 1) (a := (1 + (l0.length : Int), y0)) e0 ?_
  refine Ev.bind (g := fun k => laws_markInt64S.f k l1 (1 + (l0.length : Int))) (a := (1 + (l0.length : Int) + (l1.length : Int), y1)) e1 ?_
  exact Ev.now _
end Go.Proofs.Ytogdmjcdfjnifaa.PFnExactTrieSpans

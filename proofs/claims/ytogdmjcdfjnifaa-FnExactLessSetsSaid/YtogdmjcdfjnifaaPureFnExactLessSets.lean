/- The program's LessSets returns what the reference's returns. For every input: the law answers true; each argument reads afterwards as it read before. -/
import Derived.Test.YtogdmjcdfjnifaaSetQLessSets
import Derived.Test.YtogdmjcdfjnifaaSpanSLessSets
import Derived.Test.YtogdmjcdfjnifaaOutSpanSLessSets
set_option linter.unusedSimpArgs false
set_option linter.unusedVariables false
namespace Go.Proofs.Ytogdmjcdfjnifaa.Pure
open Go.RowKit Go.Proofs.Ytogdmjcdfjnifaa.PFnExactLessSets Go.Proofs.YtogdmjcdfjnifaaW.PrintWords Go.Proofs.YtogdmjcdfjnifaaW.PrintLast Go.Proofs.YtogdmjcdfjnifaaW.PrintMore Go.Proofs.Ytogdmjcdfjnifaa.Lib Go.Proofs.Ytogdmjcdfjnifaa.EvKit

theorem both_sets (a b : List Sp) (ha : a.length ≤ 1048576) (hb : b.length ≤ 1048576) : ∃ r : List Sp, r.length ≤ 32768 ∧ Ev (fun k => spec_LessSets.f k a b) r ∧ Ev (fun k => impl_LessSets.f k a b) r := by
  obtain ⟨r, h0, h1, h2⟩ := both a b ha hb 2 (.inr (.inr ⟨rfl, fun x y => by cases x <;> cases y <;> rfl⟩)) 0
  refine ⟨r, h0, ?_, ?_⟩
  · unfold spec_LessSets.f
    exact Ev.bind (g := fun k => spec_l04Set.f k a b 2) h1 (Ev.now _)
  · unfold impl_LessSets.f
    exact Ev.bind (g := fun k => impl_setOf.f k a b 0) h2 (Ev.now _)
/-- The laws' marks in a row, from any number on. -/
theorem mark_any : ∀ (d j : Nat) (x : List Sp) (m : Int), j + d = x.length → 0 ≤ m → m + 3 * d ≤ 4611686018427387904 → x.length ≤ 1000000000 → ∃ y, Ev (fun k => laws_markSpanS.l0 k x m (j : Int)) (m + 3 * d, y)
  | 0, j, x, m, hj, h0, h1, h2 => by
    refine ⟨x, succ_ ?_⟩
    simp only [laws_markSpanS.l0, if_neg (show ¬ (j : Int) < (x.length : Int) by omega)]
    have := Ev.now (m, x)
    simpa using this
  | d + 1, j, x, m, hj, h0, h1, h2 => by
    have hs : ∀ v, rd_T57 (x.set j v) (j : Int) = v := fun v => by rw [rdO_nat _ j (by rw [List.length_set]; omega), List.getElem_set_self]
    obtain ⟨y, h⟩ := mark_any d (j + 1) (x.set j ⟨m, m + 1, m + 1 + 1⟩) (m + 3) (by rw [List.length_set]; omega) (by omega) (by omega) (by rw [List.length_set]; omega)
    refine ⟨y, succ_ ?_⟩
    simp only [laws_markSpanS.l0, if_pos (show (j : Int) < (x.length : Int) by omega), if_pos (show (0 : Int) ≤ (j : Int) by omega), Option.bind_some, Int.toNat_natCast, hs, List.set_set, w64s (show j < x.length by omega) (by omega), w64 (x := m + 1) (by omega) (by omega), w64 (x := m + 1 + 1) (by omega) (by omega), w64 (x := m + 1 + 1 + 1) (by omega) (by omega)]
    rw [show m + 3 + 3 * (d : Int) = m + 3 * ((d + 1 : Nat) : Int) by omega, show m + 3 = m + 1 + 1 + 1 by omega] at h
    exact h
theorem FnExactLessSets : laws_FnExactLessSets.Pure := by
  intro l0 l1 h0 h1
  refine Ev.rounds (g := fun k => laws_FnExactLessSets.f k l0 l1) ?_
  unfold laws_FnExactLessSets.f
  rw [szSpanS_eq l0 h0.1]
  simp only [Option.bind_some]
  by_cases c : (l0.length : Int) > 1048576
  · simp only [if_pos c, if_pos (show (-1 : Int) < 0 by omega)]
    exact Ev.now _
  simp only [if_neg c, if_neg (show ¬ (1048576 : Int) - (l0.length : Int) < 0 by omega)]
  have hz : laws_szSpanS.f l1 (1048576 - (l0.length : Int)) = some (if (1048576 : Int) - (l0.length : Int) - (l1.length : Int) < 0 then -1 else 1048576 - (l0.length : Int) - (l1.length : Int)) := by
    have hm := h1.1
    unfold maxLen at hm
    unfold laws_szSpanS.f
    rw [w64 (by omega) (by omega)]
    by_cases d : (1048576 : Int) - (l0.length : Int) - (l1.length : Int) < 0
    · rw [if_pos d, if_pos d]
    · rw [if_neg d, if_neg d]
  rw [hz]
  simp only [Option.bind_some]
  by_cases d : (1048576 : Int) - (l0.length : Int) - (l1.length : Int) < 0
  · simp only [if_pos d, if_pos (show (-1 : Int) < 0 by omega)]
    exact Ev.now _
  simp only [if_neg d]
  have t0 : Ev (fun k => laws_toSpanS.f k l0) (l0.map asSpan) := from_ (l0.length + 1) (fun k hk => toSpanS_eq l0 k hk (by omega))
  have t1 : Ev (fun k => laws_toSpanS.f k l1) (l1.map asSpan) := from_ (l1.length + 1) (fun k hk => toSpanS_eq l1 k hk (by omega))
  have ha : (l0.map asSpan).length ≤ 1048576 := by rw [List.length_map]; omega
  have hb : (l1.map asSpan).length ≤ 1048576 := by rw [List.length_map]; omega
  generalize l0.map asSpan = a at t0 ha
  generalize l1.map asSpan = b at t1 hb
  obtain ⟨v, hv, e1, e2⟩ := both_sets a b ha hb
  have heq : ∀ x : List Sp, x.length ≤ 1048576 → Ev (fun k => laws_eqSpanS.f k x x) true := fun x hx => from_ (x.length + 1) (fun k hk => PFnExactLessSets.eqSpanS_eq x k hk (by omega))
  obtain ⟨y0, m0⟩ := mark_any a.length 0 a 1 (by omega) (by omega) (by omega) (by omega)
  obtain ⟨y1, m1⟩ := mark_any b.length 0 b (1 + 3 * (a.length : Int)) (by omega) (by omega) (by omega) (by omega)
  refine Ev.bind (g := fun k => laws_toSpanS.f k l0) t0 ?_
  refine Ev.bind (g := fun k => laws_toSpanS.f k l1) t1 ?_
  refine Ev.bind (g := fun k => spec_LessSets.f k a b) e1 ?_
  refine Ev.bind (g := fun k => laws_toSpanS.f k l0) t0 ?_
  refine Ev.bind (g := fun k => laws_toSpanS.f k l1) t1 ?_
  refine Ev.bind (g := fun k => impl_LessSets.f k a b) e2 ?_
  refine Ev.bind (g := fun k => laws_eqSpanS.f k v v) (heq v (by omega)) ?_
  simp only [if_true]
  refine Ev.bind (g := fun k => laws_toSpanS.f k l0) t0 ?_
  refine Ev.bind (g := fun k => laws_eqSpanS.f k a a) (heq a ha) ?_
  simp only [if_true]
  refine Ev.bind (g := fun k => laws_toSpanS.f k l1) t1 ?_
  refine Ev.bind (g := fun k => laws_eqSpanS.f k b b) (heq b hb) ?_
  simp only [if_true]
  refine Ev.bind (g := fun k => laws_markSpanS.f k a 1) (a := (1 + 3 * (a.length : Int), y0)) m0 ?_
  refine Ev.bind (g := fun k => laws_markSpanS.f k b (1 + 3 * (a.length : Int))) (a := (1 + 3 * (a.length : Int) + 3 * (b.length : Int), y1)) m1 ?_
  simp only [if_neg (show ¬ 1 + 3 * (a.length : Int) + 3 * (b.length : Int) < 0 by omega)]
  refine Ev.bind (g := fun k => laws_eqSpanS.f k v v) (heq v (by omega)) ?_
  refine succ_ ?_
  simp only [laws_FnExactLessSets.j0, Bool.not_true, Bool.false_eq_true, if_false]
  have hmk : Ev (fun k => laws_markSpanS.f k v 1) (3 * (v.length : Int) + 1, marksS v.length) := from_ (v.length + 1) (fun k hk => markSpanS_eq v k hk (by omega))
  have hhd : Ev (fun k => laws_heldSpanS.f k (marksS v.length) 1) (3 * (v.length : Int) + 1) := from_ (v.length + 1) (fun k hk => heldSpanS_eq v.length k hk (by omega))
  refine Ev.bind (g := fun k => laws_markSpanS.f k v 1) hmk ?_
  refine Ev.bind (g := fun k => laws_heldSpanS.f k (marksS v.length) 1) hhd ?_
  simp only [if_neg (show ¬ 3 * (v.length : Int) + 1 < 0 by omega), if_true]
  refine Ev.bind (g := fun k => laws_toSpanS.f k l0) t0 ?_
  refine Ev.bind (g := fun k => laws_toSpanS.f k l1) t1 ?_
  refine Ev.bind (g := fun k => impl_LessSets.f k a b) e2 ?_
  refine Ev.bind (g := fun k => laws_eqSpanS.f k v v) (heq v (by omega)) ?_
  simp only [if_true]
  refine Ev.bind (g := fun k => laws_heldSpanS.f k (marksS v.length) 1) hhd ?_
  simp only [if_neg (show ¬ 3 * (v.length : Int) + 1 < 0 by omega), if_true]
  exact Ev.now _
end Go.Proofs.Ytogdmjcdfjnifaa.Pure

/- The program's map of mirrors as the row lists it, and what a look-up in it gives. -/
import Derived.Test.YtpibhoaegbeonaaDoorWMore
import Derived.Test.YtpibhoaegbeonaaDoorProg
import Derived.Lib.LaidU8
import Derived.LaidMore
import Derived.Maps.Own
import Derived.WideKeyElems2
import Derived.WideKeyArgs2
set_option linter.unusedSimpArgs false
set_option linter.unusedVariables false
namespace Go.Proofs.YtpibhoaegbeonaaDoor
open Go.Lib Go.RowKit Go.WideElems

def mirD : DataW Unit := .map [(.int .i64 40, .lit (.int .i64 41)), (.int .i64 41, .lit (.int .i64 40)), (.int .i64 60, .lit (.int .i64 62)), (.int .i64 62, .lit (.int .i64 60)), (.int .i64 91, .lit (.int .i64 93)), (.int .i64 93, .lit (.int .i64 91)), (.int .i64 123, .lit (.int .i64 125)), (.int .i64 125, .lit (.int .i64 123))]
/-- A point's mirror, and whether it has one. -/
def mir (p : Int) : Int × Bool := if p = 40 then (41, true) else if p = 41 then (40, true) else if p = 60 then (62, true) else if p = 62 then (60, true) else if p = 91 then (93, true) else if p = 93 then (91, true) else if p = 123 then (125, true) else if p = 125 then (123, true) else (0, false)
/-- The variable holds a map that reads so. -/
def GL (w : World) : Prop := ∃ (W0 : World) (m bm clock : Nat) (es : Array MapEntry), w.cell? ⟨0, 0, none⟩ = some (.map (some bm)) ∧ w.heap[bm]? = some (.map es clock) ∧
  Fit Tryd.prog 2 (elemAt (fun _ => ()) Tryd.prog W0 0 (fun _ => true) false m 2) es clock ∧ mirD = .map ((es.toList.map (rg Tryd.prog 2 (elemAt (fun _ => ()) Tryd.prog W0 0 (fun _ => true) false m 2))).foldr DataW.insert [])
theorem GL_drewN {w : World} (h : GL w) (n : Nat) : GL (w.drewN n) := h
theorem GL_drew {w : World} (h : GL w) : GL w.drew := h
theorem mir_at (p : Int) : mirD.atKey (.int .i64 p) .nil = if (mir p).2 = true then .lit (.int .i64 (mir p).1) else .nil := by
  unfold mir
  by_cases c1 : p = 40
  · subst c1; rfl
  by_cases c2 : p = 41
  · subst c2; rfl
  by_cases c3 : p = 60
  · subst c3; rfl
  by_cases c4 : p = 62
  · subst c4; rfl
  by_cases c5 : p = 91
  · subst c5; rfl
  by_cases c6 : p = 93
  · subst c6; rfl
  by_cases c7 : p = 123
  · subst c7; rfl
  by_cases c8 : p = 125
  · subst c8; rfl
  rw [if_neg c1, if_neg c2, if_neg c3, if_neg c4, if_neg c5, if_neg c6, if_neg c7, if_neg c8]
  have n1 := Ne.symm c1; have n2 := Ne.symm c2; have n3 := Ne.symm c3; have n4 := Ne.symm c4
  have n5 := Ne.symm c5; have n6 := Ne.symm c6; have n7 := Ne.symm c7; have n8 := Ne.symm c8
  simp [mirD, DataW.atKey, Lit.sameKey, n1, n2, n3, n4, n5, n6, n7, n8]
theorem mir_none (p : Int) (h : ¬ (mir p).2 = true) : mir p = (0, false) := by
  unfold mir at h ⊢
  repeat' split
  all_goals first | rfl | (exfalso; apply h; simp [*])
theorem GL_look {w : World} (h : GL w) (p : Int) (hp : (Lit.int .i64 p).wf = true) : ∃ bm, w.cell? ⟨0, 0, none⟩ = some (.map (some bm)) ∧
    ∀ n, (Instr.lookup 25 (.map (some bm)) (.int .i64 p) true).run Tryd.prog (w.drewN n) = .ok (.tuple #[.int .i64 (mir p).1, .bool (mir p).2]) (w.drewN n) := by
  obtain ⟨W0, m, bm, clock, es, hc, hb, F, hD⟩ := h
  refine ⟨bm, hc, fun n => ?_⟩
  have zero : ∀ W : World, (zeroValue 2).run Tryd.prog W = .ok (.int .i64 0) W := fun W => by kernel_rfl
  have hb' : (w.drewN n).heap[bm]? = some (.map es clock) := hb
  rcases Maps.fit_look true (Maps.int_keyed Tryd.underlying2) Tryd.underlying25 (zero _) hb' F (Maps.keyOf_int_mk Tryd.underlying2 hp) with ⟨hrun, _, hat⟩ | ⟨e0, y, _, _, hrun, hRv, hat, _⟩
  · have e := hat .nil
    rw [← hD, mir_at] at e
    by_cases c : (mir p).2 = true
    · rw [if_pos c] at e; cases e
    · rw [mir_none p c]; exact hrun
  · obtain ⟨a, hv, hz, _⟩ := Go.WideElems.elemAt_int Tryd.underlying2 hRv
    have e := hat .nil
    rw [← hD, mir_at, hz] at e
    by_cases c : (mir p).2 = true
    · rw [if_pos c] at e
      simp only [DataW.lit.injEq, Lit.int.injEq, true_and] at e
      rw [hv, ← e] at hrun
      rw [c]; exact hrun
    · rw [if_neg c] at e; cases e
end Go.Proofs.YtpibhoaegbeonaaDoor

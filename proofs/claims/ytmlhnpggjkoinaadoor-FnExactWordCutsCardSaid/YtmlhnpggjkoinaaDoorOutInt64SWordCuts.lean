/- What the laws' marks and looks at a row of int64 that was handed back come to: eqInt64S, markInt64S, heldInt64S. -/
import Derived.Test.YtmlhnpggjkoinaaDoorPFnExactWordCutsx
import Derived.Test.YtmlhnpggjkoinaaDoorLib
set_option linter.unusedSimpArgs false
set_option linter.unusedVariables false
namespace Go.Proofs.YtmlhnpggjkoinaaDoor.PFnExactWordCuts
open Go.RowKit Go.Proofs.YtmlhnpggjkoinaaDoorW.PrintWords Go.Proofs.YtmlhnpggjkoinaaDoorW.PrintLast Go.Proofs.YtmlhnpggjkoinaaDoorW.PrintMore Go.Proofs.YtmlhnpggjkoinaaDoor.Lib

theorem eqInt64S_eq (l : List Int) (k : Nat) (hk : l.length + 1 ≤ k) (hl : l.length ≤ 35184372088832) : laws_eqInt64S.f k l l = some true := by
  unfold laws_eqInt64S.f
  rw [if_pos rfl]
  refine forLoop (fun k (_ : Unit) i => laws_eqInt64S.l0 k l l i) l.length (fun _ => ()) _ (fun k i hi => ?_) (fun k => ?_) k (by omega)
  · simp only [laws_eqInt64S.l0]
    rw [if_pos (by omega), if_pos (by omega), if_pos (by omega), if_pos trivial, w64s hi (by omega)]
  · simp only [laws_eqInt64S.l0]
    rw [if_neg (by omega)]
/-- The row of which the first i elements bear marks. -/
def marked (l : List Int) (i : Nat) : List Int := (List.range i).map (fun j : Nat => (j : Int) + 1) ++ l.drop i
theorem marked_length (l : List Int) (i : Nat) (h : i ≤ l.length) : (marked l i).length = l.length := by simp [marked]; omega
theorem marked_set (l : List Int) (i : Nat) (h : i < l.length) : (marked l i).set i ((i : Int) + 1) = marked l (i + 1) := by
  unfold marked
  rw [List.set_append_right _ _ (by simp), List.length_map, List.length_range, Nat.sub_self, List.drop_eq_getElem_cons h, List.set_cons_zero, List.range_succ, List.map_append, List.append_assoc]
  rfl
theorem markInt64S_eq (l : List Int) (k : Nat) (hk : l.length + 1 ≤ k) (hl : l.length ≤ 35184372088832) : laws_markInt64S.f k l 1 = some ((l.length : Int) + 1, marked l l.length) := by
  unfold laws_markInt64S.f
  have := forLoop (fun k (x : List Int × Int) i => laws_markInt64S.l0 k x.1 x.2 i) l.length (fun i => (marked l i, (i : Int) + 1)) ((l.length : Int) + 1, marked l l.length) (fun k i hi => ?_) (fun k => ?_) k (by omega)
  · have e : marked l 0 = l := by simp [marked]
    simp only [e] at this
    exact this
  · simp only [laws_markInt64S.l0]
    rw [if_pos (by rw [marked_length l i (by omega)]; omega), if_pos (by omega), Int.toNat_natCast, marked_set l i hi, w64s hi (by omega)]
    have w : wrap64 ((i : Int) + 1 + 1) = ((i + 1 : Nat) : Int) + 1 := by rw [w64 (by omega) (by omega)]; omega
    rw [w]
  · simp only [laws_markInt64S.l0]
    rw [if_neg (by rw [marked_length l l.length (Nat.le_refl _)]; omega)]
theorem heldInt64S_eq (l : List Int) (k : Nat) (hk : l.length + 1 ≤ k) (hl : l.length ≤ 35184372088832) : laws_heldInt64S.f k (marked l l.length) 1 = some ((l.length : Int) + 1) := by
  unfold laws_heldInt64S.f
  have hm : (marked l l.length).length = l.length := marked_length l l.length (Nat.le_refl _)
  have := forLoop (fun k (x : Int) i => laws_heldInt64S.l0 k (marked l l.length) x i) l.length (fun i => (i : Int) + 1) ((l.length : Int) + 1) (fun k i hi => ?_) (fun k => ?_) k (by omega)
  · exact this
  · simp only [laws_heldInt64S.l0]
    have r : rd (marked l l.length) (i : Int) = (i : Int) + 1 := by
      rw [rd_nat _ i (by omega)]
      simp [marked, hi]
    have w : wrap64 ((i : Int) + 1 + 1) = ((i + 1 : Nat) : Int) + 1 := by rw [w64 (by omega) (by omega)]; omega
    rw [if_pos (by omega), if_pos (by omega), r, if_pos rfl, w, w64s hi (by omega)]
  · simp only [laws_heldInt64S.l0]
    rw [if_neg (by omega)]

end Go.Proofs.YtmlhnpggjkoinaaDoor.PFnExactWordCuts

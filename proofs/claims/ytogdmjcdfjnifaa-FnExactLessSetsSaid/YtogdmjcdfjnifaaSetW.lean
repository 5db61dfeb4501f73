/- slices.Sort and slices.Compact of a row of the call's own: by the shelf's contracts; the nil slice by its own walk. -/
import Derived.Test.YtogdmjcdfjnifaaShelfSet
import Derived.Test.YtogdmjcdfjnifaaVZS
import Derived.Lib.RowBridge
import Derived.Lib.AppendIntMem
set_option linter.unusedSimpArgs false
set_option linter.unusedVariables false
namespace Go.Proofs.Ytogdmjcdfjnifaa.SetW
open Go.RowKit Go.Lib Go.Sort Go.Proofs.YtogdmjcdfjnifaaW.PrintWords Go.Proofs.YtogdmjcdfjnifaaW.PrintLast Go.Proofs.YtogdmjcdfjnifaaW.PrintMore

def sortL (x : List Int) : List Int := x.mergeSort fun a b => decide (a ≤ b)
def compL (x : List Int) : List Int := compactUpTo x.toArray x.length
theorem sortL_length (x : List Int) : (sortL x).length = x.length := List.length_mergeSort x
theorem compL_le (x : List Int) : (compL x).length ≤ x.length := by
  unfold compL compactUpTo
  rw [List.length_map]
  exact Nat.le_trans (List.length_filter_le _ _) (by simp)
/-- A row, written over another from a place on. -/
def layS : List Int → Nat → List Int → List Int
  | xs, _, [] => xs
  | xs, o, y :: r => layS (xs.set o y) (o + 1) r
theorem layS_eq : ∀ (ys xs : List Int) (o : Nat), o + ys.length ≤ xs.length → layS xs o ys = xs.take o ++ ys ++ xs.drop (o + ys.length)
  | [], xs, o, _ => by simp [layS]
  | y :: r, xs, o, h => by
    rw [List.length_cons] at h
    have ho : o < xs.length := by omega
    rw [layS, layS_eq r (xs.set o y) (o + 1) (by rw [List.length_set]; omega)]
    rw [List.take_succ_eq_append_getElem (by rw [List.length_set]; exact ho), List.take_set_of_le (Nat.le_refl o), List.getElem_set_self, List.drop_set_of_lt (by omega), List.length_cons]
    rw [show o + 1 + r.length = o + (r.length + 1) by omega]
    simp
theorem layS_all (xs ys : List Int) (h : ys.length = xs.length) : layS xs 0 ys = ys := by
  rw [layS_eq ys xs 0 (by omega)]
  simp [h]
theorem R_setCellsS {e base g n cap : Nat} {ok : Nat → Prop} : ∀ (ys : List Int) (o : Nat) (w : World) (xs : List Int), Kd.R (Kd.int .i64) e w base ok (.slice (some ⟨g, 0, none⟩) n cap) xs →
    Kd.R (Kd.int .i64) e (w.setCells g o (ys.map (Value.int .i64))) base ok (.slice (some ⟨g, 0, none⟩) n cap) (layS xs o ys)
  | [], _, _, _, h => h
  | y :: r, o, w, xs, h => by
    have h2 := Kd.R_putn h (o : Int) y
    rw [Int.toNat_natCast] at h2
    exact R_setCellsS r (o + 1) _ _ h2
theorem below_setCellsS {w0 : World} {g : Nat} (hg : w0.heap.size ≤ g) : ∀ (ys : List Value) (o : Nat) (w : World), Below w0.heap.size w0 w → Below w0.heap.size w0 (w.setCells g o ys)
  | [], _, _, h => h
  | y :: r, o, w, h => below_setCellsS hg r (o + 1) _ (below_set h hg)
/-- What an own row's value is: nil and empty, or the head of a block. -/
theorem own_cases {w : World} {e base : Nat} {ok : Nat → Prop} {v : Value} {x : List Int} (h : Kd.R (Kd.int .i64) e w base ok v x) : (v = .slice none 0 0 ∧ x = []) ∨ ∃ g cap, v = .slice (some ⟨g, 0, none⟩) x.length cap ∧ base ≤ g := by
  have hb := Kd.R_base h
  obtain ⟨_, inner, hown, _⟩ := h
  rcases hown.2 with ⟨rfl, hn⟩ | ⟨g, cap, cur, rfl, _, _, hnc, _⟩
  · exact .inl ⟨rfl, List.eq_nil_of_length_eq_zero (by omega)⟩
  · exact .inr ⟨g, cap, rfl, hb g (by simp [Value.ownBlock])⟩
theorem holds_row {w : World} {e base g n cap : Nat} {ok : Nat → Prop} {x : List Int} (HO : Kd.R (Kd.int .i64) e w base ok (.slice (some ⟨g, 0, none⟩) n cap) x) : Holds (Value.int .i64) w g 0 x.toArray := by
  have hn := (Kd.R_reads' HO).1
  intro j hj
  have hj' : j < x.length := by simpa using hj
  obtain ⟨a, b⟩ := Kd.R_celln 0 HO ((j : Nat) : Int) (by omega) (by omega)
  rw [Int.toNat_natCast] at a b
  rw [Nat.zero_add]
  refine ⟨?_, b⟩
  rw [a]
  unfold rdOf
  rw [Int.toNat_natCast]
  simp [hj', getElem!_pos, List.getD]
theorem belowS (w : World) (os : Array Obj) : Below w.heap.size w (grow w os) := below_grow w.heap.size w (Nat.le_refl _) 0 os
set_option maxHeartbeats 4000000 in
set_option maxRecDepth 100000 in
theorem sort_row (w w0 : World) (v : Value) (x : List Int) (ok : Nat → Prop) (HO : Kd.R (Kd.int .i64) 2 w w0.heap.size ok v x) (hB : Below w0.heap.size w0 w) (hl : x.length < 4611686018427387904) :
    Calls Try.prog 83 #[v] w fun e w' => e = .returned (.tuple #[]) ∧ Kd.R (Kd.int .i64) 2 w' w0.heap.size ok v (sortL x) ∧ Below w0.heap.size w0 w' := by
  rcases own_cases HO with ⟨rfl, rfl⟩ | ⟨g, cap, rfl, hg⟩
  · refine (AnyG.slices_Sort_int_none Try.sortL none 0 w).mono ?_
    rintro e w' ⟨rfl, rfl⟩
    exact ⟨rfl, by rw [show sortL [] = [] from List.eq_nil_of_length_eq_zero (sortL_length [])]; exact Kd.R_nil _ _ _ _ _, hB⟩
  · have hH := holds_row HO
    have hlt := Kd.R_lt HO g (by simp [Value.ownBlock])
    refine (AnyG.slices_Sort_int Try.sortL g 0 cap x w hH hlt hl).mono ?_
    rintro e w' ⟨rfl, q, os, rfl⟩
    rw [Lib.putRow_eq_setCells _ w g 0 x.toArray (x.mergeSort fun a b => decide (a ≤ b)) q hH (by simp)]
    have h1 := R_setCellsS (sortL x) 0 _ _ (Kd.R_drewN HO q)
    rw [layS_all x (sortL x) (sortL_length x)] at h1
    exact ⟨rfl, Kd.R_below h1 (belowS _ os), below_step (below_setCellsS hg _ _ _ (pw_below_drewN hB q)) (belowS _ os)⟩
set_option maxHeartbeats 4000000 in
set_option maxRecDepth 100000 in
theorem compact_nil (w : World) : Calls Try.prog 84 #[.slice none 0 0] w fun e w' => e = .returned (.slice none 0 0) ∧ w' = w := by
  go_enter Try.func84, Try.ntmps84
  go_wp2
  go_ret
  exact ⟨rfl, rfl⟩
set_option maxHeartbeats 4000000 in
set_option maxRecDepth 100000 in
theorem compact_row (w w0 : World) (v : Value) (x : List Int) (ok : Nat → Prop) (HO : Kd.R (Kd.int .i64) 2 w w0.heap.size ok v x) (hB : Below w0.heap.size w0 w) (hl : x.length ≤ 9223372036854775807) :
    Calls Try.prog 84 #[v] w fun e w' => ∃ v', e = .returned v' ∧ Kd.R (Kd.int .i64) 2 w' w0.heap.size ok v' (compL x) ∧ Below w0.heap.size w0 w' := by
  rcases own_cases HO with ⟨rfl, rfl⟩ | ⟨g, cap, rfl, hg⟩
  · refine (compact_nil w).mono ?_
    rintro e w' ⟨rfl, rfl⟩
    exact ⟨_, rfl, by rw [show compL [] = [] from List.eq_nil_of_length_eq_zero (Nat.le_zero.1 (compL_le []))]; exact Kd.R_nil _ _ _ _ _, hB⟩
  · have hH := holds_row HO
    have hc := (Kd.R_reads' HO).2.1
    have h := AnyE.slices_Compact Try.compactL (Value.int .i64) (fun x => rfl) (EqlAt.int _ _ .i64) (NeqAt.int _ _ .i64) (0 : Int) (fun w => rfl) g 0 cap x.toArray w hH (by simpa using hl) (by simpa using hc)
    rw [List.size_toArray] at h
    refine h.mono ?_
    rintro e w' ⟨rfl, q, rfl⟩
    have hle := compL_le x
    have he : (compactUpTo x.toArray x.length ++ List.replicate (x.length - (compactUpTo x.toArray x.length).length) (0 : Int)).length = x.length := by
      rw [List.length_append, List.length_replicate]
      show (compL x).length + (x.length - (compL x).length) = x.length
      omega
    rw [Lib.putRow_eq_setCells _ w g 0 x.toArray _ q hH (by rw [List.size_toArray]; exact he)]
    have h1 := R_setCellsS (compactUpTo x.toArray x.length ++ List.replicate (x.length - (compactUpTo x.toArray x.length).length) (0 : Int)) 0 _ _ (Kd.R_drewN HO q)
    rw [layS_all x _ he] at h1
    have h2 := Kd.R_take (m := (compL x).length) h1 (by rw [he]; exact hle)
    rw [show (compactUpTo x.toArray x.length ++ List.replicate (x.length - (compactUpTo x.toArray x.length).length) (0 : Int)).take (compL x).length = compL x from List.take_left' rfl] at h2
    exact ⟨_, rfl, h2, below_setCellsS hg _ _ _ (pw_below_drewN hB q)⟩
end Go.Proofs.Ytogdmjcdfjnifaa.SetW

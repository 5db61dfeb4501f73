/- slices.Reverse of a cut of a row of the call's own: by the shelf's contract. -/
import Derived.Test.YthjkfmdfkndpcaaShelfRev
import Derived.Test.YthjkfmdfkndpcaaWMore
import Derived.Test.YthjkfmdfkndpcaaWLast
import Derived.Lib.RowBridge
set_option linter.unusedSimpArgs false
set_option linter.unusedVariables false
namespace Go.Proofs.Ythjkfmdfkndpcaa.Rev
open Go.RowKit Go.Lib Go.Sort Go.Proofs.YthjkfmdfkndpcaaW.PrintWords Go.Proofs.YthjkfmdfkndpcaaW.PrintLast Go.Proofs.YthjkfmdfkndpcaaW.PrintMore

/-- A row, written over another from a place on. -/
def layR : List Int → Nat → List Int → List Int
  | xs, _, [] => xs
  | xs, o, y :: r => layR (xs.set o y) (o + 1) r
theorem layR_length : ∀ (ys xs : List Int) (o : Nat), (layR xs o ys).length = xs.length
  | [], _, _ => rfl
  | y :: r, xs, o => by rw [layR, layR_length r]; simp
/-- A cut, reversed in place. -/
def revCut (xs : List Int) (i m : Int) : List Int := layR xs i.toNat ((xs.drop i.toNat).take (m.toNat - i.toNat)).reverse
theorem R_setCells {e base g n cap : Nat} {ok : Nat → Prop} : ∀ (ys : List Int) (o : Nat) (w : World) (xs : List Int), Kd.R (Kd.int .i64) e w base ok (.slice (some ⟨g, 0, none⟩) n cap) xs →
    Kd.R (Kd.int .i64) e (w.setCells g o (ys.map (Value.int .i64))) base ok (.slice (some ⟨g, 0, none⟩) n cap) (layR xs o ys)
  | [], _, _, _, h => h
  | y :: r, o, w, xs, h => by
    have h2 := Kd.R_putn h (o : Int) y
    rw [Int.toNat_natCast] at h2
    exact R_setCells r (o + 1) _ _ h2
theorem below_setCells {w0 : World} {g : Nat} (hg : w0.heap.size ≤ g) : ∀ (ys : List Value) (o : Nat) (w : World), Below w0.heap.size w0 w → Below w0.heap.size w0 (w.setCells g o ys)
  | [], _, _, h => h
  | y :: r, o, w, h => below_setCells hg r (o + 1) _ (below_set h hg)
theorem rev_cut (w w0 : World) (g n cap : Nat) (x : List Int) (ok : Nat → Prop) (HO : Kd.R (Kd.int .i64) 2 w w0.heap.size ok (.slice (some ⟨g, 0, none⟩) n cap) x) (hB : Below w0.heap.size w0 w) (hg : w0.heap.size ≤ g)
    (i m : Int) (hi : 0 ≤ i) (h0 : i ≤ m) (h1 : m ≤ (x.length : Int)) (hbig : (x.length : Int) ≤ 9223372036854775807) (c : Nat) :
    Calls Try.prog 31 #[.slice (some ⟨g, i.toNat, none⟩) (m.toNat - i.toNat) c] w fun e w' => e = .returned (.tuple #[]) ∧ Kd.R (Kd.int .i64) 2 w' w0.heap.size ok (.slice (some ⟨g, 0, none⟩) n cap) (revCut x i m) ∧ Below w0.heap.size w0 w' := by
  have hn := (Kd.R_reads' HO).1
  have hl : ((x.drop i.toNat).take (m.toNat - i.toNat)).length = m.toNat - i.toNat := by rw [List.length_take, List.length_drop]; omega
  have hH : Holds (Value.int .i64) w g i.toNat ((x.drop i.toNat).take (m.toNat - i.toNat)).toArray := by
    intro j hj
    have hj' : j < m.toNat - i.toNat := by
      rw [List.size_toArray, hl] at hj; exact hj
    obtain ⟨a, b⟩ := Kd.R_celln 0 HO (((i.toNat + j : Nat)) : Int) (by omega) (by omega)
    rw [Int.toNat_natCast] at a b
    refine ⟨?_, b⟩
    rw [a]
    unfold rdOf
    rw [Int.toNat_natCast]
    simp [hj', getElem!_pos, List.getD]
  have h := AnyE.slices_Reverse Try.revL (Value.int .i64) (by intro x; rfl) g i.toNat c ((x.drop i.toNat).take (m.toNat - i.toNat)) w hH (by omega)
  rw [hl] at h
  refine h.mono ?_
  rintro e w' ⟨rfl, q, rfl⟩
  rw [Lib.putRow_eq_setCells _ w g i.toNat _ _ q hH (by simp)]
  exact ⟨rfl, R_setCells _ _ _ _ (Kd.R_drewN HO q), below_setCells hg _ _ _ (pw_below_drewN hB q)⟩
end Go.Proofs.Ythjkfmdfkndpcaa.Rev

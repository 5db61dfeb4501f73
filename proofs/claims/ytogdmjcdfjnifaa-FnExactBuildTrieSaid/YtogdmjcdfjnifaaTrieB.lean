/- Blocks of 64 numbers cut out of an own row. -/
import Derived.Test.YtogdmjcdfjnifaaProg
import Derived.Test.YtogdmjcdfjnifaaWMore
import Derived.Test.YtogdmjcdfjnifaaWLast
import Derived.Test.YtogdmjcdfjnifaaWKept
set_option linter.unusedSimpArgs false
set_option linter.unusedVariables false
namespace Go.Proofs.Ytogdmjcdfjnifaa.TrieB
open Go.RowKit Go.Proofs.YtogdmjcdfjnifaaW.PrintWords Go.Proofs.YtogdmjcdfjnifaaW.PrintLast Go.Proofs.YtogdmjcdfjnifaaW.PrintMore
set_option maxRecDepth 1000000 in
theorem info2 : (Try.prog.info? 2).map (fun i => (i.zero, i.size, i.bytes)) = some (some (.int .i64 0), 1, 8) := by kernel_rfl
def cutB (x : List Int) (p : Int) : List Int := (x.take (wrap64 (p + 64)).toNat).drop p.toNat
theorem ite_some {α : Type} {g : Prop} [Decidable g] {x : Option α} {r : α} (h : (if g then x else none) = some r) : g ∧ x = some r := by
  by_cases c : g
  · rw [if_pos c] at h; exact ⟨c, h⟩
  · rw [if_neg c] at h; exact absurd h (by simp)
theorem cut_ok (A : Option Addr) (c : Nat) (xs : List Int) (a : Int) (h : 0 ≤ a ∧ a ≤ wrap64 (a + 64) ∧ wrap64 (a + 64) ≤ (xs.length : Int)) (hc : xs.length ≤ c) : ∃ (A' : Option Addr) (N : Nat), (cutB xs a).length = N ∧
    (∀ W : World, (Instr.slice 22 (.slice A xs.length c) (some (.int .i64 a)) (some (.int .i64 (wrap64 (a + 64)))) none).run Try.prog W = .ok (.slice A' N (c - a.toNat)) W) ∧
    (∀ w : World, Kd.C (Kd.int .i64) w A xs.length xs → Kd.C (Kd.int .i64) w A' (cutB xs a).length (cutB xs a)) ∧ (cutB xs a).length ≤ c - a.toNat := by
  obtain ⟨i0, hi0, _, hsz, _⟩ := info_parts info2
  obtain ⟨A', hcut, hA, hC⟩ := print_mid_of (P := Try.prog) (Value.int .i64) 0 22 2 .i64 .i64 Try.underlying22 hi0 hsz A c xs a (wrap64 (a + 64)) h.1 h.2.1 h.2.2 hc
  exact ⟨A', _, rfl, hcut, fun w hw => Kd.C_of_reads (h1 := fun _ => rfl) (hA w (Kd.reads_of_C hw)), hC⟩
end Go.Proofs.Ytogdmjcdfjnifaa.TrieB

/- From the row's listed variable to the walks' fact on the table of digits' rows. -/
import Derived.Test.YtpibhoaegbeonaaDoorRows
import Derived.Test.YtpibhoaegbeonaaDoorGL
import Derived.Deep.Slices
set_option linter.unusedSimpArgs false
set_option linter.unusedVariables false
namespace Go.Proofs.YtpibhoaegbeonaaDoor
open Go.Lib Go.RowKit Go.Proofs.YtpibhoaegbeonaaDoorW.PrintWords Go.Proofs.YtpibhoaegbeonaaDoorW.PrintLast Go.Proofs.YtpibhoaegbeonaaDoorW.PrintMore

theorem gDig : Tryd.prog.globalNamed "loop.example/g00044/impl.digitRows" = some 1 := by kernel_rfl
theorem tDig : (Tryd.prog.globals[1]?).map (·.type) = some 28 := by kernel_rfl
theorem GL_of_reads {w : World} (h : VarReads Tryd.prog w "loop.example/g00044/impl.digitRows" Rows.laid_loop_example_g00044_impl_digitRows) : GL w := by
  obtain ⟨g, t, cs, fuel, p, hg, ht, hv, hd⟩ := h
  obtain rfl := Option.some.inj (gDig.symm.trans hg)
  obtain rfl := Option.some.inj (tDig.symm.trans ht)
  rcases Go.Deep.open_slice1 Tryd.underlying28 (by kernel_rfl) hd with ⟨_, hx⟩ | ⟨a, len, cap, m, n, V, D, Pl, hcs, _, hl, hm, hmm, hx, hel⟩
  · simp [Rows.laid_loop_example_g00044_impl_digitRows] at hx
  · have hx1 := congrArg Prod.fst hx
    simp only [Rows.laid_loop_example_g00044_impl_digitRows, DataW.slice.injEq] at hx1
    have hlen : len = 7 := by have := congrArg List.length hx1.1; simpa using this.symm
    subst hlen
    have hD : ∀ i (hi : i < 7), D i = .lit (.int .i64 (digRows.getD i 0)) := by
      intro i hi
      have := congrArg (fun l : List (DataW Unit) => l[i]?) hx1.1
      simp only [List.getElem?_map, List.getElem?_range hi, Option.map_some] at this
      have h7 : i = 0 ∨ i = 1 ∨ i = 2 ∨ i = 3 ∨ i = 4 ∨ i = 5 ∨ i = 6 := by omega
      rcases h7 with rfl | rfl | rfl | rfl | rfl | rfl | rfl <;> exact (Option.some.inj this).symm
    have hV : ∀ i (hi : i < 7), w.cell? (a.add i) = some (.int .i64 (digRows.getD i 0)) := by
      intro i hi
      obtain ⟨h1, h2⟩ := hel i (by have : m = cap := hmm; omega)
      rw [hD i hi] at h2
      obtain ⟨k, e1, e2, _⟩ := DataW.trod_int Tryd.underlying2 h2
      rw [h1, (List.cons.inj e1).1]
      have e3 := congrArg Prod.fst e2
      simp only [DataW.lit.injEq, Lit.int.injEq, true_and] at e3
      rw [e3]
    have hcell : w.cell? ⟨1, 0, none⟩ = some (.slice (some a) 7 cap) := by
      have := World.var?_cell hg hv 0
      rw [Array.eq_one_of_toList hcs] at this
      simpa using this
    refine ⟨some a, cap, hcell, hl, ⟨rfl, by decide, fun _ => ⟨a, rfl, fun j p hj => ?_⟩⟩⟩
    have hj7 : j < 7 := (List.getElem?_eq_some_iff.1 hj).1
    refine ⟨[.int .i64 p], rfl, rfl, fun q u hq => ?_⟩
    have hV' := hV j hj7
    have hp : digRows.getD j 0 = p := by rw [List.getD_eq_getElem?_getD, hj]; rfl
    rw [hp] at hV'
    match q, hq with
    | 0, hq => simp only [List.getElem?_cons_zero, Option.some.injEq] at hq; subst hq; rw [show j * (Kd.int IntKind.i64).sz + 0 = j from Nat.mul_one j]; exact hV'
end Go.Proofs.YtpibhoaegbeonaaDoor

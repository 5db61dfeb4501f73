/- From the row's listed variable to the walks' fact on the map of mirrors. -/
import Derived.Test.YtpibhoaegbeonaaDoorRows
import Derived.Test.YtpibhoaegbeonaaDoorGL
set_option linter.unusedSimpArgs false
set_option linter.unusedVariables false
namespace Go.Proofs.YtpibhoaegbeonaaDoor
open Go.Lib Go.RowKit Go.WideElems

theorem gMir : Tryd.prog.globalNamed "loop.example/g00044/impl.mirrors" = some 0 := by kernel_rfl
theorem tMir : (Tryd.prog.globals[0]?).map (·.type) = some 25 := by kernel_rfl
theorem GL_of_reads {w : World} (h : VarReads Tryd.prog w "loop.example/g00044/impl.mirrors" Rows.laid_loop_example_g00044_impl_mirrors) : GL w := by
  obtain ⟨g, t, cs, fuel, p, hg, ht, hv, hd⟩ := h
  obtain rfl := Option.some.inj (gMir.symm.trans hg)
  obtain rfl := Option.some.inj (tMir.symm.trans ht)
  rcases Go.WideElems.open_map Tryd.underlying25 hd with ⟨_, hx⟩ | ⟨bm, es, clock, m, _, hcs, hb, _, F, hx⟩
  · simp [Rows.laid_loop_example_g00044_impl_mirrors] at hx
  · have hx1 := congrArg Prod.fst hx
    have hcell : w.cell? ⟨0, 0, none⟩ = some (.map (some bm)) := by
      have := World.var?_cell hg hv 0
      rw [Array.eq_one_of_toList hcs] at this
      simpa using this
    exact ⟨w, m, bm, clock, es, hcell, hb, F, hx1⟩
end Go.Proofs.YtpibhoaegbeonaaDoor

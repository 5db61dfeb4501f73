-- Written by a program of this session (wip/tools/myprint.py) that runs the kit's print with hooks of its own. Lean checks it.
import Derived.Test.YtmlhnpggjkoinaaDoorPFnExactGlyphsOfx0
import Derived.Test.YtmlhnpggjkoinaaDoorSlimStep
import Derived.Test.YtmlhnpggjkoinaaDoorSlimMore
import Derived.Test.YtmlhnpggjkoinaaDoorPFnExactGlyphsOfx9
import Derived.Test.YtmlhnpggjkoinaaDoorPFnExactGlyphsOfx14
namespace Go.Proofs.YtmlhnpggjkoinaaDoor.PFnExactGlyphsOf
open Go.RowKit Go.Proofs.YtmlhnpggjkoinaaDoorW.PrintWords Go.Proofs.YtmlhnpggjkoinaaDoorW.PrintLast Go.Proofs.YtmlhnpggjkoinaaDoorW.PrintMore
attribute [local go_sem] max2_int min2_int max_two min_two max_three min_three max_four min_four   -- for this text's walks alone
set_option linter.unusedVariables false
set_option linter.unusedSimpArgs false

/-! ### impl_GlyphsOf: function 36 -/
def impl_GlyphsOf.f (k : Nat) (a0 : ByteArray) : Option ((List (S68))) := (impl_long.f a0).bind fun t424 => (if t424 = true then (some ([] : List (S68))) else ((impl_glyphs.f k a0).bind fun t425 => (some t425)))
theorem impl_GlyphsOf.mono : ∀ a0 k, LeO (impl_GlyphsOf.f k a0) (impl_GlyphsOf.f (k + 1) a0) := by
 intro a0 k
 unfold impl_GlyphsOf.f
 repeat' (first | (with_reducible first | exact impl_glyphs.mono .. | exact LeO.refl _ | exact LeO.none _ | refine LeO.ite ?_ ?_ | refine LeO.bind ?_ (fun _ => ?_)) | exact impl_glyphs.mono .. | exact LeO.none _ | refine LeO.ite ?_ ?_ | refine LeO.bind ?_ (fun _ => ?_))
set_option maxHeartbeats 8000000 in
set_option maxRecDepth 100000 in
theorem impl_GlyphsOf.calls (k : Nat) (a0 : ByteArray) (r : List (S68)) (w : World) (hG : GL w) (h : impl_GlyphsOf.f k a0 = some r) :
  Calls Tryd.prog 36 #[.string a0] w fun e w' => ∃ v0_ : Value, e = .returned (v0_) ∧ Kd.R k68 68 w' w.heap.size (fun _ => True) v0_ r ∧ Below w.heap.size w w' := by
 have HGL := am hG
 clear hG
 have HB := am (Below.refl w.heap.size w)
 have H : ((impl_long.f a0).bind fun t424 => (if t424 = true then (some ([] : List (S68))) else ((impl_glyphs.f k a0).bind fun t425 => (some t425)))) = some r := h
 clear h
 obtain ⟨t424, A2, H⟩ := bb H
 by_cases c3 : t424 = true
 ·subst c3
  replace H := iT H
  obtain rfl := Option.some.inj H
  go_enter Tryd.func36, Tryd.ntmps36
  go_wp2_with (first | ((with_reducible refine gate_callee (f := 49) rfl ?_); refine gq 4 Tryd.func49 (impl_long.calls a0 true _ A2.out) fun nd => ?_))
  go_ret
  exact ⟨_, rv, by first | exact Kd.R_nil _ _ _ _ _ | exact Kd.N_nil _ _ _ _ _ | exact Kd.V_nil _ _ _ _ _ | exact Kd.Q_nil _ _ _ _ _ | exact Kd.S_nil _ _ _ _ _, bB⟩
 replace c3 := Bool.eq_false_iff.mpr c3
 subst c3
 replace H := iF H
 obtain ⟨t425, A4, H⟩ := bb H
 obtain rfl := Option.some.inj H
 go_enter Tryd.func36, Tryd.ntmps36
 go_wp2_with (first | ((with_reducible refine gate_callee (f := 49) rfl ?_); refine gq 4 Tryd.func49 (impl_long.calls a0 false _ A2.out) fun nd => ?_) | ((with_reducible refine gate_callee (f := 71) rfl ?_); refine gl 6 Tryd.func71 #[.string a0] ?_; (with_reducible refine (impl_glyphs.calls k a0 t425 _ ?side1 A4.out).mono ?_); (case side1 => first | exact HGL.out | exact GL_below HGL.out bB); rintro e w5 ⟨v426, rfl, ho0, hb⟩; refine ⟨_, rfl, ?_⟩; have HO427 := am (Kd.R_lower ho0 (below_size bB)); replace HB := am (below_step bB hb); (try clear hb); (try clear ho0)))
 go_ret
 exact ⟨_, rv, kR HO427.out, bB⟩
/-! ### laws_eqGlyph: function 72 -/
def laws_eqGlyph.f (a0_0 : Int) (a0_1 : Int) (a0_2 : Int) (a0_3 : Int) (a0_4 : Int) (a1_0 : Int) (a1_1 : Int) (a1_2 : Int) (a1_3 : Int) (a1_4 : Int) : Option (Bool) := if a0_0 = a1_0 then (if a0_1 = a1_1 then (if a0_2 = a1_2 then (if a0_3 = a1_3 then (if a0_4 = a1_4 then (some true) else (some false)) else (some false)) else (some false)) else (some false)) else (some false)
set_option maxHeartbeats 8000000 in
set_option maxRecDepth 100000 in
theorem laws_eqGlyph.calls (a0_0 : Int) (a0_1 : Int) (a0_2 : Int) (a0_3 : Int) (a0_4 : Int) (a1_0 : Int) (a1_1 : Int) (a1_2 : Int) (a1_3 : Int) (a1_4 : Int) (r : Bool) (w : World) (h : laws_eqGlyph.f a0_0 a0_1 a0_2 a0_3 a0_4 a1_0 a1_1 a1_2 a1_3 a1_4 = some r) :
  Calls Tryd.prog 72 #[.agg #[.int .i64 a0_0, .int .i64 a0_1, .int .i64 a0_2, .int .i64 a0_3, .int .i64 a0_4], .agg #[.int .i64 a1_0, .int .i64 a1_1, .int .i64 a1_2, .int .i64 a1_3, .int .i64 a1_4]] w fun e w' => e = .returned (.bool r) ∧ Below w.heap.size w w' := by
 have hu68 := Tryd.underlying68
 have HB := am (Below.refl w.heap.size w)
 have H : (if a0_0 = a1_0 then (if a0_1 = a1_1 then (if a0_2 = a1_2 then (if a0_3 = a1_3 then (if a0_4 = a1_4 then (some true) else (some false)) else (some false)) else (some false)) else (some false)) else (some false)) = some r := h
 clear h
 by_cases c3 : a0_0 = a1_0
 rotate_left
 ·rw [if_neg c3] at H
  have c3b0 : (a0_0 == a1_0) = false := beq_eq_false_iff_ne.mpr c3
  have c3b1 : (a0_0 != a1_0) = true := bne_iff_ne.mpr c3
  obtain rfl := Option.some.inj H
  go_enter Tryd.func72, Tryd.ntmps72
  go_wp2_with (first | ((with_reducible refine gate_dst (N := 2) rfl ?_); refine bx 2 #[.int .i64 a0_0, .int .i64 a0_1, .int .i64 a0_2, .int .i64 a0_3, .int .i64 a0_4] 68 ?_; intro gb428 hg w33 hbox hb; have BK428 := am (hbox); have GW428 := am ((by rw [hg]; exact (below_size bB) : w.heap.size ≤ gb428)); have GE428 := am ((by rw [hg]; exact (below_size bB) : w.heap.size ≤ gb428)); replace HB := am (below_step bB hb); clear hb hbox hg) | ((with_reducible refine gate_dst (N := 3) rfl ?_); refine bx 3 #[.int .i64 a1_0, .int .i64 a1_1, .int .i64 a1_2, .int .i64 a1_3, .int .i64 a1_4] 68 ?_; intro gb429 hg w34 hbox hb; have BK429 := am (hbox); have GW429 := am ((by rw [hg]; exact (below_size bS) : w.heap.size ≤ gb429)); have GE429 := am ((by rw [hg]; exact (below_size bS) : w.heap.size ≤ gb429)); replace HB := am (below_step bS hb); have NB428_429 := am (nl hg BK428.out); have NB429_428 := am NB428_429.out.symm; replace BK428 := am (blk_below (g := gb428) (o := .cells #[.int .i64 a0_0, .int .i64 a0_1, .int .i64 a0_2, .int .i64 a0_3, .int .i64 a0_4] 68 (0, 0)) (bk BK428.out) hb); clear hb hbox hg; have hnb35 := NB428_429.out; have hnc35 := NB429_428.out; have hcz36_0 := bc BK428.out 0 (.int .i64 a0_0); have hcz36_1 := bc BK428.out 1 (.int .i64 a0_1); have hcz36_2 := bc BK428.out 2 (.int .i64 a0_2); have hcz36_3 := bc BK428.out 3 (.int .i64 a0_3); have hcz36_4 := bc BK428.out 4 (.int .i64 a0_4); have hfz36_0 := blk_frozen BK428.out 0; have hfz36_1 := blk_frozen BK428.out 1; have hfz36_2 := blk_frozen BK428.out 2; have hfz36_3 := blk_frozen BK428.out 3; have hfz36_4 := blk_frozen BK428.out 4; have hcz37_0 := bc BK429.out 0 (.int .i64 a1_0); have hcz37_1 := bc BK429.out 1 (.int .i64 a1_1); have hcz37_2 := bc BK429.out 2 (.int .i64 a1_2); have hcz37_3 := bc BK429.out 3 (.int .i64 a1_3); have hcz37_4 := bc BK429.out 4 (.int .i64 a1_4); have hfz37_0 := blk_frozen BK429.out 0; have hfz37_1 := blk_frozen BK429.out 1; have hfz37_2 := blk_frozen BK429.out 2; have hfz37_3 := blk_frozen BK429.out 3; have hfz37_4 := blk_frozen BK429.out 4))
  go_ret
  exact ⟨rv, bS⟩
 rw [if_pos c3] at H
 have c3b0 : (a0_0 == a1_0) = true := beq_iff_eq.mpr c3
 have c3b1 : (a0_0 != a1_0) = false := bne_eq_false_iff_eq.mpr c3
 clear c3
 by_cases c4 : a0_1 = a1_1
 rotate_left
 ·rw [if_neg c4] at H
  have c4b0 : (a0_1 == a1_1) = false := beq_eq_false_iff_ne.mpr c4
  have c4b1 : (a0_1 != a1_1) = true := bne_iff_ne.mpr c4
  obtain rfl := Option.some.inj H
  go_enter Tryd.func72, Tryd.ntmps72
  go_wp2_with (first | ((with_reducible refine gate_dst (N := 2) rfl ?_); refine bx 2 #[.int .i64 a0_0, .int .i64 a0_1, .int .i64 a0_2, .int .i64 a0_3, .int .i64 a0_4] 68 ?_; intro gb428 hg w28 hbox hb; have BK428 := am (hbox); have GW428 := am ((by rw [hg]; exact (below_size bB) : w.heap.size ≤ gb428)); have GE428 := am ((by rw [hg]; exact (below_size bB) : w.heap.size ≤ gb428)); replace HB := am (below_step bB hb); clear hb hbox hg) | ((with_reducible refine gate_dst (N := 3) rfl ?_); refine bx 3 #[.int .i64 a1_0, .int .i64 a1_1, .int .i64 a1_2, .int .i64 a1_3, .int .i64 a1_4] 68 ?_; intro gb429 hg w29 hbox hb; have BK429 := am (hbox); have GW429 := am ((by rw [hg]; exact (below_size bS) : w.heap.size ≤ gb429)); have GE429 := am ((by rw [hg]; exact (below_size bS) : w.heap.size ≤ gb429)); replace HB := am (below_step bS hb); have NB428_429 := am (nl hg BK428.out); have NB429_428 := am NB428_429.out.symm; replace BK428 := am (blk_below (g := gb428) (o := .cells #[.int .i64 a0_0, .int .i64 a0_1, .int .i64 a0_2, .int .i64 a0_3, .int .i64 a0_4] 68 (0, 0)) (bk BK428.out) hb); clear hb hbox hg; have hnb30 := NB428_429.out; have hnc30 := NB429_428.out; have hcz31_0 := bc BK428.out 0 (.int .i64 a0_0); have hcz31_1 := bc BK428.out 1 (.int .i64 a0_1); have hcz31_2 := bc BK428.out 2 (.int .i64 a0_2); have hcz31_3 := bc BK428.out 3 (.int .i64 a0_3); have hcz31_4 := bc BK428.out 4 (.int .i64 a0_4); have hfz31_0 := blk_frozen BK428.out 0; have hfz31_1 := blk_frozen BK428.out 1; have hfz31_2 := blk_frozen BK428.out 2; have hfz31_3 := blk_frozen BK428.out 3; have hfz31_4 := blk_frozen BK428.out 4; have hcz32_0 := bc BK429.out 0 (.int .i64 a1_0); have hcz32_1 := bc BK429.out 1 (.int .i64 a1_1); have hcz32_2 := bc BK429.out 2 (.int .i64 a1_2); have hcz32_3 := bc BK429.out 3 (.int .i64 a1_3); have hcz32_4 := bc BK429.out 4 (.int .i64 a1_4); have hfz32_0 := blk_frozen BK429.out 0; have hfz32_1 := blk_frozen BK429.out 1; have hfz32_2 := blk_frozen BK429.out 2; have hfz32_3 := blk_frozen BK429.out 3; have hfz32_4 := blk_frozen BK429.out 4))
  go_ret
  exact ⟨rv, bS⟩
 rw [if_pos c4] at H
 have c4b0 : (a0_1 == a1_1) = true := beq_iff_eq.mpr c4
 have c4b1 : (a0_1 != a1_1) = false := bne_eq_false_iff_eq.mpr c4
 clear c4
 by_cases c5 : a0_2 = a1_2
 rotate_left
 ·rw [if_neg c5] at H
  have c5b0 : (a0_2 == a1_2) = false := beq_eq_false_iff_ne.mpr c5
  have c5b1 : (a0_2 != a1_2) = true := bne_iff_ne.mpr c5
  obtain rfl := Option.some.inj H
  go_enter Tryd.func72, Tryd.ntmps72
  go_wp2_with (first | ((with_reducible refine gate_dst (N := 2) rfl ?_); refine bx 2 #[.int .i64 a0_0, .int .i64 a0_1, .int .i64 a0_2, .int .i64 a0_3, .int .i64 a0_4] 68 ?_; intro gb428 hg w23 hbox hb; have BK428 := am (hbox); have GW428 := am ((by rw [hg]; exact (below_size bB) : w.heap.size ≤ gb428)); have GE428 := am ((by rw [hg]; exact (below_size bB) : w.heap.size ≤ gb428)); replace HB := am (below_step bB hb); clear hb hbox hg) | ((with_reducible refine gate_dst (N := 3) rfl ?_); refine bx 3 #[.int .i64 a1_0, .int .i64 a1_1, .int .i64 a1_2, .int .i64 a1_3, .int .i64 a1_4] 68 ?_; intro gb429 hg w24 hbox hb; have BK429 := am (hbox); have GW429 := am ((by rw [hg]; exact (below_size bS) : w.heap.size ≤ gb429)); have GE429 := am ((by rw [hg]; exact (below_size bS) : w.heap.size ≤ gb429)); replace HB := am (below_step bS hb); have NB428_429 := am (nl hg BK428.out); have NB429_428 := am NB428_429.out.symm; replace BK428 := am (blk_below (g := gb428) (o := .cells #[.int .i64 a0_0, .int .i64 a0_1, .int .i64 a0_2, .int .i64 a0_3, .int .i64 a0_4] 68 (0, 0)) (bk BK428.out) hb); clear hb hbox hg; have hnb25 := NB428_429.out; have hnc25 := NB429_428.out; have hcz26_0 := bc BK428.out 0 (.int .i64 a0_0); have hcz26_1 := bc BK428.out 1 (.int .i64 a0_1); have hcz26_2 := bc BK428.out 2 (.int .i64 a0_2); have hcz26_3 := bc BK428.out 3 (.int .i64 a0_3); have hcz26_4 := bc BK428.out 4 (.int .i64 a0_4); have hfz26_0 := blk_frozen BK428.out 0; have hfz26_1 := blk_frozen BK428.out 1; have hfz26_2 := blk_frozen BK428.out 2; have hfz26_3 := blk_frozen BK428.out 3; have hfz26_4 := blk_frozen BK428.out 4; have hcz27_0 := bc BK429.out 0 (.int .i64 a1_0); have hcz27_1 := bc BK429.out 1 (.int .i64 a1_1); have hcz27_2 := bc BK429.out 2 (.int .i64 a1_2); have hcz27_3 := bc BK429.out 3 (.int .i64 a1_3); have hcz27_4 := bc BK429.out 4 (.int .i64 a1_4); have hfz27_0 := blk_frozen BK429.out 0; have hfz27_1 := blk_frozen BK429.out 1; have hfz27_2 := blk_frozen BK429.out 2; have hfz27_3 := blk_frozen BK429.out 3; have hfz27_4 := blk_frozen BK429.out 4))
  go_ret
  exact ⟨rv, bS⟩
 rw [if_pos c5] at H
 have c5b0 : (a0_2 == a1_2) = true := beq_iff_eq.mpr c5
 have c5b1 : (a0_2 != a1_2) = false := bne_eq_false_iff_eq.mpr c5
 clear c5
 by_cases c6 : a0_3 = a1_3
 rotate_left
 ·rw [if_neg c6] at H
  have c6b0 : (a0_3 == a1_3) = false := beq_eq_false_iff_ne.mpr c6
  have c6b1 : (a0_3 != a1_3) = true := bne_iff_ne.mpr c6
  obtain rfl := Option.some.inj H
  go_enter Tryd.func72, Tryd.ntmps72
  go_wp2_with (first | ((with_reducible refine gate_dst (N := 2) rfl ?_); refine bx 2 #[.int .i64 a0_0, .int .i64 a0_1, .int .i64 a0_2, .int .i64 a0_3, .int .i64 a0_4] 68 ?_; intro gb428 hg w18 hbox hb; have BK428 := am (hbox); have GW428 := am ((by rw [hg]; exact (below_size bB) : w.heap.size ≤ gb428)); have GE428 := am ((by rw [hg]; exact (below_size bB) : w.heap.size ≤ gb428)); replace HB := am (below_step bB hb); clear hb hbox hg) | ((with_reducible refine gate_dst (N := 3) rfl ?_); refine bx 3 #[.int .i64 a1_0, .int .i64 a1_1, .int .i64 a1_2, .int .i64 a1_3, .int .i64 a1_4] 68 ?_; intro gb429 hg w19 hbox hb; have BK429 := am (hbox); have GW429 := am ((by rw [hg]; exact (below_size bS) : w.heap.size ≤ gb429)); have GE429 := am ((by rw [hg]; exact (below_size bS) : w.heap.size ≤ gb429)); replace HB := am (below_step bS hb); have NB428_429 := am (nl hg BK428.out); have NB429_428 := am NB428_429.out.symm; replace BK428 := am (blk_below (g := gb428) (o := .cells #[.int .i64 a0_0, .int .i64 a0_1, .int .i64 a0_2, .int .i64 a0_3, .int .i64 a0_4] 68 (0, 0)) (bk BK428.out) hb); clear hb hbox hg; have hnb20 := NB428_429.out; have hnc20 := NB429_428.out; have hcz21_0 := bc BK428.out 0 (.int .i64 a0_0); have hcz21_1 := bc BK428.out 1 (.int .i64 a0_1); have hcz21_2 := bc BK428.out 2 (.int .i64 a0_2); have hcz21_3 := bc BK428.out 3 (.int .i64 a0_3); have hcz21_4 := bc BK428.out 4 (.int .i64 a0_4); have hfz21_0 := blk_frozen BK428.out 0; have hfz21_1 := blk_frozen BK428.out 1; have hfz21_2 := blk_frozen BK428.out 2; have hfz21_3 := blk_frozen BK428.out 3; have hfz21_4 := blk_frozen BK428.out 4; have hcz22_0 := bc BK429.out 0 (.int .i64 a1_0); have hcz22_1 := bc BK429.out 1 (.int .i64 a1_1); have hcz22_2 := bc BK429.out 2 (.int .i64 a1_2); have hcz22_3 := bc BK429.out 3 (.int .i64 a1_3); have hcz22_4 := bc BK429.out 4 (.int .i64 a1_4); have hfz22_0 := blk_frozen BK429.out 0; have hfz22_1 := blk_frozen BK429.out 1; have hfz22_2 := blk_frozen BK429.out 2; have hfz22_3 := blk_frozen BK429.out 3; have hfz22_4 := blk_frozen BK429.out 4))
  go_ret
  exact ⟨rv, bS⟩
 rw [if_pos c6] at H
 have c6b0 : (a0_3 == a1_3) = true := beq_iff_eq.mpr c6
 have c6b1 : (a0_3 != a1_3) = false := bne_eq_false_iff_eq.mpr c6
 clear c6
 by_cases c7 : a0_4 = a1_4
 rotate_left
 ·rw [if_neg c7] at H
  have c7b0 : (a0_4 == a1_4) = false := beq_eq_false_iff_ne.mpr c7
  have c7b1 : (a0_4 != a1_4) = true := bne_iff_ne.mpr c7
  obtain rfl := Option.some.inj H
  go_enter Tryd.func72, Tryd.ntmps72
  go_wp2_with (first | ((with_reducible refine gate_dst (N := 2) rfl ?_); refine bx 2 #[.int .i64 a0_0, .int .i64 a0_1, .int .i64 a0_2, .int .i64 a0_3, .int .i64 a0_4] 68 ?_; intro gb428 hg w13 hbox hb; have BK428 := am (hbox); have GW428 := am ((by rw [hg]; exact (below_size bB) : w.heap.size ≤ gb428)); have GE428 := am ((by rw [hg]; exact (below_size bB) : w.heap.size ≤ gb428)); replace HB := am (below_step bB hb); clear hb hbox hg) | ((with_reducible refine gate_dst (N := 3) rfl ?_); refine bx 3 #[.int .i64 a1_0, .int .i64 a1_1, .int .i64 a1_2, .int .i64 a1_3, .int .i64 a1_4] 68 ?_; intro gb429 hg w14 hbox hb; have BK429 := am (hbox); have GW429 := am ((by rw [hg]; exact (below_size bS) : w.heap.size ≤ gb429)); have GE429 := am ((by rw [hg]; exact (below_size bS) : w.heap.size ≤ gb429)); replace HB := am (below_step bS hb); have NB428_429 := am (nl hg BK428.out); have NB429_428 := am NB428_429.out.symm; replace BK428 := am (blk_below (g := gb428) (o := .cells #[.int .i64 a0_0, .int .i64 a0_1, .int .i64 a0_2, .int .i64 a0_3, .int .i64 a0_4] 68 (0, 0)) (bk BK428.out) hb); clear hb hbox hg; have hnb15 := NB428_429.out; have hnc15 := NB429_428.out; have hcz16_0 := bc BK428.out 0 (.int .i64 a0_0); have hcz16_1 := bc BK428.out 1 (.int .i64 a0_1); have hcz16_2 := bc BK428.out 2 (.int .i64 a0_2); have hcz16_3 := bc BK428.out 3 (.int .i64 a0_3); have hcz16_4 := bc BK428.out 4 (.int .i64 a0_4); have hfz16_0 := blk_frozen BK428.out 0; have hfz16_1 := blk_frozen BK428.out 1; have hfz16_2 := blk_frozen BK428.out 2; have hfz16_3 := blk_frozen BK428.out 3; have hfz16_4 := blk_frozen BK428.out 4; have hcz17_0 := bc BK429.out 0 (.int .i64 a1_0); have hcz17_1 := bc BK429.out 1 (.int .i64 a1_1); have hcz17_2 := bc BK429.out 2 (.int .i64 a1_2); have hcz17_3 := bc BK429.out 3 (.int .i64 a1_3); have hcz17_4 := bc BK429.out 4 (.int .i64 a1_4); have hfz17_0 := blk_frozen BK429.out 0; have hfz17_1 := blk_frozen BK429.out 1; have hfz17_2 := blk_frozen BK429.out 2; have hfz17_3 := blk_frozen BK429.out 3; have hfz17_4 := blk_frozen BK429.out 4))
  go_ret
  exact ⟨rv, bS⟩
 rw [if_pos c7] at H
 have c7b0 : (a0_4 == a1_4) = true := beq_iff_eq.mpr c7
 have c7b1 : (a0_4 != a1_4) = false := bne_eq_false_iff_eq.mpr c7
 clear c7
 obtain rfl := Option.some.inj H
 go_enter Tryd.func72, Tryd.ntmps72
 go_wp2_with (first | ((with_reducible refine gate_dst (N := 2) rfl ?_); refine bx 2 #[.int .i64 a0_0, .int .i64 a0_1, .int .i64 a0_2, .int .i64 a0_3, .int .i64 a0_4] 68 ?_; intro gb428 hg w8 hbox hb; have BK428 := am (hbox); have GW428 := am ((by rw [hg]; exact (below_size bB) : w.heap.size ≤ gb428)); have GE428 := am ((by rw [hg]; exact (below_size bB) : w.heap.size ≤ gb428)); replace HB := am (below_step bB hb); clear hb hbox hg) | ((with_reducible refine gate_dst (N := 3) rfl ?_); refine bx 3 #[.int .i64 a1_0, .int .i64 a1_1, .int .i64 a1_2, .int .i64 a1_3, .int .i64 a1_4] 68 ?_; intro gb429 hg w9 hbox hb; have BK429 := am (hbox); have GW429 := am ((by rw [hg]; exact (below_size bS) : w.heap.size ≤ gb429)); have GE429 := am ((by rw [hg]; exact (below_size bS) : w.heap.size ≤ gb429)); replace HB := am (below_step bS hb); have NB428_429 := am (nl hg BK428.out); have NB429_428 := am NB428_429.out.symm; replace BK428 := am (blk_below (g := gb428) (o := .cells #[.int .i64 a0_0, .int .i64 a0_1, .int .i64 a0_2, .int .i64 a0_3, .int .i64 a0_4] 68 (0, 0)) (bk BK428.out) hb); clear hb hbox hg; have hnb10 := NB428_429.out; have hnc10 := NB429_428.out; have hcz11_0 := bc BK428.out 0 (.int .i64 a0_0); have hcz11_1 := bc BK428.out 1 (.int .i64 a0_1); have hcz11_2 := bc BK428.out 2 (.int .i64 a0_2); have hcz11_3 := bc BK428.out 3 (.int .i64 a0_3); have hcz11_4 := bc BK428.out 4 (.int .i64 a0_4); have hfz11_0 := blk_frozen BK428.out 0; have hfz11_1 := blk_frozen BK428.out 1; have hfz11_2 := blk_frozen BK428.out 2; have hfz11_3 := blk_frozen BK428.out 3; have hfz11_4 := blk_frozen BK428.out 4; have hcz12_0 := bc BK429.out 0 (.int .i64 a1_0); have hcz12_1 := bc BK429.out 1 (.int .i64 a1_1); have hcz12_2 := bc BK429.out 2 (.int .i64 a1_2); have hcz12_3 := bc BK429.out 3 (.int .i64 a1_3); have hcz12_4 := bc BK429.out 4 (.int .i64 a1_4); have hfz12_0 := blk_frozen BK429.out 0; have hfz12_1 := blk_frozen BK429.out 1; have hfz12_2 := blk_frozen BK429.out 2; have hfz12_3 := blk_frozen BK429.out 3; have hfz12_4 := blk_frozen BK429.out 4))
 go_ret
 exact ⟨rv, bS⟩
/-! ### laws_eqGlyphS: function 37 -/
def laws_eqGlyphS.l0 : Nat → List (S68) → List (S68) → Int → Option (Bool)
 | 0, _, _, _ => none
 | k + 1, x0, x1, x5 => if x5 < (x0.length : Int) then (if 0 ≤ x5 then (if x5 < (x1.length : Int) then ((laws_eqGlyph.f ((rd_T68 x0 x5).f0) ((rd_T68 x0 x5).f1) ((rd_T68 x0 x5).f2) ((rd_T68 x0 x5).f3) ((rd_T68 x0 x5).f4) ((rd_T68 x1 x5).f0) ((rd_T68 x1 x5).f1) ((rd_T68 x1 x5).f2) ((rd_T68 x1 x5).f3) ((rd_T68 x1 x5).f4)).bind fun t432 => (if t432 = true then (laws_eqGlyphS.l0 k x0 x1 (wrap64 (x5 + 1))) else (some false))) else (none)) else (none)) else (some true)
def laws_eqGlyphS.f (k : Nat) (l0 : List (S68)) (l1 : List (S68)) : Option (Bool) := if (l0.length : Int) = (l1.length : Int) then (laws_eqGlyphS.l0 k l0 l1 0) else (some false)
theorem laws_eqGlyphS.mono_l : ∀ k, (∀ y0 y1 y2, LeO (laws_eqGlyphS.l0 k y0 y1 y2) (laws_eqGlyphS.l0 (k + 1) y0 y1 y2))
 | 0 => fun _ _ _ r h => by simp [laws_eqGlyphS.l0] at h
 | k + 1 => by
  have ih0 := laws_eqGlyphS.mono_l k
  ·intro y0 y1 y2
   unfold laws_eqGlyphS.l0
   repeat' (first | (with_reducible first | exact ih0 .. | exact LeO.refl _ | exact LeO.none _ | refine LeO.ite ?_ ?_ | refine LeO.bind ?_ (fun _ => ?_)) | exact ih0 .. | exact LeO.none _ | refine LeO.ite ?_ ?_ | refine LeO.bind ?_ (fun _ => ?_))
theorem laws_eqGlyphS.mono : ∀ a0 a1 k, LeO (laws_eqGlyphS.f k a0 a1) (laws_eqGlyphS.f (k + 1) a0 a1) := by
 intro a0 a1 k
 have ih0 := laws_eqGlyphS.mono_l k
 unfold laws_eqGlyphS.f
 repeat' (first | (with_reducible first | exact ih0 .. | exact LeO.refl _ | exact LeO.none _ | refine LeO.ite ?_ ?_ | refine LeO.bind ?_ (fun _ => ?_)) | exact ih0 .. | exact LeO.none _ | refine LeO.ite ?_ ?_ | refine LeO.bind ?_ (fun _ => ?_))
def laws_eqGlyphS.T6 : Bool × List (List Nat × List Nat) := (true, [([], []), ([], []), ([0, 1], [0, 1]), ([2], [2]), ([], []), ([], []), ([4, 5], [4, 5]), ([6], [6]), ([3, 7], [3, 7]), ([8], [8])])
def laws_eqGlyphS.B6 : List Nat := [0, 0, 3, 7, 0, 0, 48, 112, 255, 511]
theorem laws_eqGlyphS.tab6 : rtab .any (opsOf Tryd.f37 6) = laws_eqGlyphS.T6 := by kernel_rfl
theorem laws_eqGlyphS.bits6 : waitsOk laws_eqGlyphS.T6.2 laws_eqGlyphS.B6 = true := by kernel_rfl
set_option maxHeartbeats 8000000 in
set_option maxRecDepth 100000 in
theorem laws_eqGlyphS.calls (k : Nat) (A0 : Option Addr) (c0 : Nat) (l0 : List (S68)) (A1 : Option Addr) (c1 : Nat) (l1 : List (S68)) (r : Bool) (w : World) (hr0 : Kd.C k68 w A0 l0.length l0) (hc0 : l0.length ≤ c0) (hr1 : Kd.C k68 w A1 l1.length l1) (hc1 : l1.length ≤ c1) (h : laws_eqGlyphS.f k l0 l1 = some r) :
  Calls Tryd.prog 37 #[.slice A0 l0.length c0, .slice A1 l1.length c1] w fun e w' => e = .returned (.bool r) ∧ Below w.heap.size w w' := by
 have hu68 := Tryd.underlying68
 have HR0 := am hr0
 have HC0 := am hc0
 clear hr0 hc0
 have HR1 := am hr1
 have HC1 := am hc1
 clear hr1 hc1
 have HB := am (Below.refl w.heap.size w)
 have H : (if (l0.length : Int) = (l1.length : Int) then (laws_eqGlyphS.l0 k l0 l1 0) else (some false)) = some r := h
 clear h
 by_cases c3 : (l0.length : Int) = (l1.length : Int)
 rotate_left
 ·rw [if_neg c3] at H
  have c3b0 : ((l0.length : Int) == (l1.length : Int)) = false := beq_eq_false_iff_ne.mpr c3
  have c3b1 : ((l0.length : Int) != (l1.length : Int)) = true := bne_iff_ne.mpr c3
  have c3b2 : (l0.length == l1.length) = false := by first | simpa using c3 | (simp at c3 ⊢; omega)
  obtain rfl := Option.some.inj H
  go_enter Tryd.func37, Tryd.ntmps37
  go_wp2
  go_ret
  exact ⟨rv, bB⟩
 rw [if_pos c3] at H
 have c3b0 : ((l0.length : Int) == (l1.length : Int)) = true := beq_iff_eq.mpr c3
 have c3b1 : ((l0.length : Int) != (l1.length : Int)) = false := bne_eq_false_iff_eq.mpr c3
 have c3b2 : (l0.length == l1.length) = true := by first | simpa using c3 | (simp at c3 ⊢; omega)
 clear c3
 have H' := am H
 clear H
 go_enter Tryd.func37, Tryd.ntmps37
 go_wp2
 go_loopg [5] k (fun kq v5 w' => ∃ (x5_1 : Int), v5 = .int .i64 x5_1 ∧ Aside0 (laws_eqGlyphS.l0 kq l0 l1 x5_1 = some r) ∧ Aside0 (kq ≤ k) ∧ Aside0 (Below w.heap.size w w'))
 case atStart => exact ⟨(0), sr, H', ⟨Nat.le_refl _⟩, ⟨bB⟩⟩
 case round =>
  clear H'
  try clear c1
  try clear c3b0
  try clear c3b1
  try clear c3b2
  obtain ⟨x5_1, rfl, HA, HK1, HB⟩ := hrel
  cases gk with
  | zero => exact absurd HA.out (by simp [laws_eqGlyphS.l0])
  | succ k1 =>
   have H := HA.out
   clear HA
   simp only [laws_eqGlyphS.l0] at H
   by_cases c4 : x5_1 < (l0.length : Int)
   rotate_left
   ·rw [if_neg c4] at H
    have c4b0 : decide (x5_1 < (l0.length : Int)) = false := decide_eq_false c4
    clear c4
    obtain rfl := Option.some.inj H
    go_wp2
    go_ret
    exact ⟨rv, bB⟩
   rw [if_pos c4] at H
   have c4b0 : decide (x5_1 < (l0.length : Int)) = true := decide_eq_true c4
   clear c4
   replace H := iteN H
   obtain ⟨c5, H⟩ := H
   have c5b0 : decide (0 ≤ x5_1) = true := decide_eq_true c5
   clear c5
   replace H := iteN H
   obtain ⟨c6, H⟩ := H
   have c6b0 : decide (x5_1 < (l1.length : Int)) = true := decide_eq_true c6
   clear c6
   obtain ⟨t432, A7, H⟩ := bb H
   by_cases c8 : t432 = true
   rotate_left
   ·replace c8 := Bool.eq_false_iff.mpr c8
    subst c8
    replace H := iF H
    obtain rfl := Option.some.inj H
    try go_wp2
    replace HB := am (below_drew1 HB.out)
    have p430 : 0 ≤ (x5_1 : Int) := od
    have q430 : x5_1 < (l0.length : Int) := od
    obtain ⟨ad430, e430, hx430_0, hx430_1, hx430_2, hx430_3, hx430_4⟩ := at_T68 HR0.out x5_1 p430 q430
    have hw430_4 := hx430_4
    have hw430_3 := hx430_3
    have hw430_2 := hx430_2
    have hw430_1 := hx430_1
    have hw430_0 := hx430_0
    cases e430
    replace hx430_0 := cl HB hx430_0
    replace hx430_1 := cl HB hx430_1
    replace hx430_2 := cl HB hx430_2
    replace hx430_3 := cl HB hx430_3
    replace hx430_4 := cl HB hx430_4
    replace p430 := eq_true p430
    replace q430 := eq_true q430
    have p431 : 0 ≤ (x5_1 : Int) := od
    have q431 : x5_1 < (l1.length : Int) := od
    obtain ⟨ad431, e431, hx431_0, hx431_1, hx431_2, hx431_3, hx431_4⟩ := at_T68 HR1.out x5_1 p431 q431
    have hw431_4 := hx431_4
    have hw431_3 := hx431_3
    have hw431_2 := hx431_2
    have hw431_1 := hx431_1
    have hw431_0 := hx431_0
    cases e431
    replace hx431_0 := cl HB hx431_0
    replace hx431_1 := cl HB hx431_1
    replace hx431_2 := cl HB hx431_2
    replace hx431_3 := cl HB hx431_3
    replace hx431_4 := cl HB hx431_4
    replace p431 := eq_true p431
    replace q431 := eq_true q431
    refine start_ (n := 10) (S := fun w' => w'.cell? (ad430.add ((x5_1).toNat * 5)) = some (.int .i64 ((rd_T68 l0 x5_1).f0)) ∧ w'.cell? ⟨(ad430.add ((x5_1).toNat * 5)).block, (ad430.add ((x5_1).toNat * 5)).off + 1, none⟩ = some (.int .i64 ((rd_T68 l0 x5_1).f1)) ∧ w'.cell? ⟨(ad430.add ((x5_1).toNat * 5)).block, (ad430.add ((x5_1).toNat * 5)).off + 2, none⟩ = some (.int .i64 ((rd_T68 l0 x5_1).f2)) ∧ w'.cell? ⟨(ad430.add ((x5_1).toNat * 5)).block, (ad430.add ((x5_1).toNat * 5)).off + 3, none⟩ = some (.int .i64 ((rd_T68 l0 x5_1).f3)) ∧ w'.cell? ⟨(ad430.add ((x5_1).toNat * 5)).block, (ad430.add ((x5_1).toNat * 5)).off + 4, none⟩ = some (.int .i64 ((rd_T68 l0 x5_1).f4)) ∧ w'.cell? (ad431.add ((x5_1).toNat * 5)) = some (.int .i64 ((rd_T68 l1 x5_1).f0)) ∧ w'.cell? ⟨(ad431.add ((x5_1).toNat * 5)).block, (ad431.add ((x5_1).toNat * 5)).off + 1, none⟩ = some (.int .i64 ((rd_T68 l1 x5_1).f1)) ∧ w'.cell? ⟨(ad431.add ((x5_1).toNat * 5)).block, (ad431.add ((x5_1).toNat * 5)).off + 2, none⟩ = some (.int .i64 ((rd_T68 l1 x5_1).f2)) ∧ w'.cell? ⟨(ad431.add ((x5_1).toNat * 5)).block, (ad431.add ((x5_1).toNat * 5)).off + 3, none⟩ = some (.int .i64 ((rd_T68 l1 x5_1).f3)) ∧ w'.cell? ⟨(ad431.add ((x5_1).toNat * 5)).block, (ad431.add ((x5_1).toNat * 5)).off + 4, none⟩ = some (.int .i64 ((rd_T68 l1 x5_1).f4))) (ds := []) #[false, false, false, false, false, false, false, false, false, false] (by kernel_rfl) rfl rfl ⟨((HB.out.cell (World.block_lt_of_cell? w _ hw430_0)).trans hw430_0), ((HB.out.cell (World.block_lt_of_cell? w _ hw430_1)).trans hw430_1), ((HB.out.cell (World.block_lt_of_cell? w _ hw430_2)).trans hw430_2), ((HB.out.cell (World.block_lt_of_cell? w _ hw430_3)).trans hw430_3), ((HB.out.cell (World.block_lt_of_cell? w _ hw430_4)).trans hw430_4), ((HB.out.cell (World.block_lt_of_cell? w _ hw431_0)).trans hw431_0), ((HB.out.cell (World.block_lt_of_cell? w _ hw431_1)).trans hw431_1), ((HB.out.cell (World.block_lt_of_cell? w _ hw431_2)).trans hw431_2), ((HB.out.cell (World.block_lt_of_cell? w _ hw431_3)).trans hw431_3), ((HB.out.cell (World.block_lt_of_cell? w _ hw431_4)).trans hw431_4)⟩ (fun hHeld => ?_); refine with_tabW laws_eqGlyphS.tab6 laws_eqGlyphS.bits6 (fun HT_ HW_ => ?_)
    generalize wr.drew = w11 at HB hx430_0 hx430_1 hx430_2 hx430_3 hx430_4 hx431_0 hx431_1 hx431_2 hx431_3 hx431_4 hHeld ⊢
    refine pq 0 17 HT_.out ?_
    refine pq 1 18 HT_.out ?_
    refine pq 2 19 HT_.out ?_
    refine pq 4 21 HT_.out ?_
    refine pq 5 22 HT_.out ?_
    refine pq 6 23 HT_.out ?_
    refine take_ (i := 3) (N := some 20) (v := ?_) (a' := ?_) #[true, true, true, true, true, true, true, false, false, false] rfl rfl (take_ofW HT_.out HW_.out (by kernel_rfl)) (fun _ _ _ h => h) (Or.inl ⟨by rfl, ?_⟩) hHeld ?_ ?_
    rotate_left
    ·rintro w' ⟨s0, s1, s2, s3, s4, s5, s6, s7, s8, s9⟩
     go_simp
     with_reducible rfl
    rotate_left
    ·simp only [Act.put, List.setIfInBounds_toArray, List.set_cons_zero, List.set_cons_succ, i64_w, i32_w]
     rfl
    refine take_ (i := 7) (N := some 24) (v := ?_) (a' := ?_) #[true, true, true, true, true, true, true, true, false, false] rfl rfl (take_ofW HT_.out HW_.out (by kernel_rfl)) (fun _ _ _ h => h) (Or.inl ⟨by rfl, ?_⟩) hHeld ?_ ?_
    rotate_left
    ·rintro w' ⟨s0, s1, s2, s3, s4, s5, s6, s7, s8, s9⟩
     go_simp
     with_reducible rfl
    rotate_left
    ·simp only [Act.put, List.setIfInBounds_toArray, List.set_cons_zero, List.set_cons_succ, i64_w, i32_w]
     rfl
    refine one_ (i := 8) (N := some 25) #[true, true, true, true, true, true, true, true, true, false] rfl rfl (one_of HT_.out (by kernel_rfl)) (by decide) (fun K hK => ?_)
    refine goes_ Tryd.func72 (by kernel_rfl) rfl #[.agg #[.int .i64 ((rd_T68 l0 x5_1).f0), .int .i64 ((rd_T68 l0 x5_1).f1), .int .i64 ((rd_T68 l0 x5_1).f2), .int .i64 ((rd_T68 l0 x5_1).f3), .int .i64 ((rd_T68 l0 x5_1).f4)], .agg #[.int .i64 ((rd_T68 l1 x5_1).f0), .int .i64 ((rd_T68 l1 x5_1).f1), .int .i64 ((rd_T68 l1 x5_1).f2), .int .i64 ((rd_T68 l1 x5_1).f3), .int .i64 ((rd_T68 l1 x5_1).f4)]] (by rfl) rfl rfl (by (try simp only [List.map_toArray, List.map_cons, List.map_nil]); first | done | rfl | (simp only [List.length_drop, List.length_take]; rfl)) ?_
    with_reducible refine (laws_eqGlyph.calls ((rd_T68 l0 x5_1).f0) ((rd_T68 l0 x5_1).f1) ((rd_T68 l0 x5_1).f2) ((rd_T68 l0 x5_1).f3) ((rd_T68 l0 x5_1).f4) ((rd_T68 l1 x5_1).f0) ((rd_T68 l1 x5_1).f1) ((rd_T68 l1 x5_1).f2) ((rd_T68 l1 x5_1).f3) ((rd_T68 l1 x5_1).f4) false _ A7.out).mono ?_
    rintro e w12 ⟨rfl, hb⟩
    refine ⟨_, rfl, ?_⟩
    replace HB := am (below_step bB hb)
    (try clear hb)
    (try clear hb2)
    (try clear hk)
    (try clear hi)
    refine hK.out _ _ ⟨((HB.out.cell (World.block_lt_of_cell? w _ hw430_0)).trans hw430_0), ((HB.out.cell (World.block_lt_of_cell? w _ hw430_1)).trans hw430_1), ((HB.out.cell (World.block_lt_of_cell? w _ hw430_2)).trans hw430_2), ((HB.out.cell (World.block_lt_of_cell? w _ hw430_3)).trans hw430_3), ((HB.out.cell (World.block_lt_of_cell? w _ hw430_4)).trans hw430_4), ((HB.out.cell (World.block_lt_of_cell? w _ hw431_0)).trans hw431_0), ((HB.out.cell (World.block_lt_of_cell? w _ hw431_1)).trans hw431_1), ((HB.out.cell (World.block_lt_of_cell? w _ hw431_2)).trans hw431_2), ((HB.out.cell (World.block_lt_of_cell? w _ hw431_3)).trans hw431_3), ((HB.out.cell (World.block_lt_of_cell? w _ hw431_4)).trans hw431_4)⟩ (fun hHeld => ?_)
    clear hK K
    refine norm_ (a' := ?_) ?_ ?_
    rotate_left
    ·show Act.put _ (some 25) _ = _
     simp only [Act.put, List.setIfInBounds_toArray, List.set_cons_zero, List.set_cons_succ, i64_w, i32_w]
     rfl
    refine pq 9 26 HT_.out ?_
    refine done_ (done_of HT_.out (by kernel_rfl)) ?_
    try go_wp2
    go_ret
    exact ⟨rv, bB⟩
   subst c8
   replace H := iT H
   have H' := am H
   clear H
   try go_wp2
   replace HB := am (below_drew1 HB.out)
   have p430 : 0 ≤ (x5_1 : Int) := od
   have q430 : x5_1 < (l0.length : Int) := od
   obtain ⟨ad430, e430, hx430_0, hx430_1, hx430_2, hx430_3, hx430_4⟩ := at_T68 HR0.out x5_1 p430 q430
   have hw430_4 := hx430_4
   have hw430_3 := hx430_3
   have hw430_2 := hx430_2
   have hw430_1 := hx430_1
   have hw430_0 := hx430_0
   cases e430
   replace hx430_0 := cl HB hx430_0
   replace hx430_1 := cl HB hx430_1
   replace hx430_2 := cl HB hx430_2
   replace hx430_3 := cl HB hx430_3
   replace hx430_4 := cl HB hx430_4
   replace p430 := eq_true p430
   replace q430 := eq_true q430
   have p431 : 0 ≤ (x5_1 : Int) := od
   have q431 : x5_1 < (l1.length : Int) := od
   obtain ⟨ad431, e431, hx431_0, hx431_1, hx431_2, hx431_3, hx431_4⟩ := at_T68 HR1.out x5_1 p431 q431
   have hw431_4 := hx431_4
   have hw431_3 := hx431_3
   have hw431_2 := hx431_2
   have hw431_1 := hx431_1
   have hw431_0 := hx431_0
   cases e431
   replace hx431_0 := cl HB hx431_0
   replace hx431_1 := cl HB hx431_1
   replace hx431_2 := cl HB hx431_2
   replace hx431_3 := cl HB hx431_3
   replace hx431_4 := cl HB hx431_4
   replace p431 := eq_true p431
   replace q431 := eq_true q431
   refine start_ (n := 10) (S := fun w' => w'.cell? (ad430.add ((x5_1).toNat * 5)) = some (.int .i64 ((rd_T68 l0 x5_1).f0)) ∧ w'.cell? ⟨(ad430.add ((x5_1).toNat * 5)).block, (ad430.add ((x5_1).toNat * 5)).off + 1, none⟩ = some (.int .i64 ((rd_T68 l0 x5_1).f1)) ∧ w'.cell? ⟨(ad430.add ((x5_1).toNat * 5)).block, (ad430.add ((x5_1).toNat * 5)).off + 2, none⟩ = some (.int .i64 ((rd_T68 l0 x5_1).f2)) ∧ w'.cell? ⟨(ad430.add ((x5_1).toNat * 5)).block, (ad430.add ((x5_1).toNat * 5)).off + 3, none⟩ = some (.int .i64 ((rd_T68 l0 x5_1).f3)) ∧ w'.cell? ⟨(ad430.add ((x5_1).toNat * 5)).block, (ad430.add ((x5_1).toNat * 5)).off + 4, none⟩ = some (.int .i64 ((rd_T68 l0 x5_1).f4)) ∧ w'.cell? (ad431.add ((x5_1).toNat * 5)) = some (.int .i64 ((rd_T68 l1 x5_1).f0)) ∧ w'.cell? ⟨(ad431.add ((x5_1).toNat * 5)).block, (ad431.add ((x5_1).toNat * 5)).off + 1, none⟩ = some (.int .i64 ((rd_T68 l1 x5_1).f1)) ∧ w'.cell? ⟨(ad431.add ((x5_1).toNat * 5)).block, (ad431.add ((x5_1).toNat * 5)).off + 2, none⟩ = some (.int .i64 ((rd_T68 l1 x5_1).f2)) ∧ w'.cell? ⟨(ad431.add ((x5_1).toNat * 5)).block, (ad431.add ((x5_1).toNat * 5)).off + 3, none⟩ = some (.int .i64 ((rd_T68 l1 x5_1).f3)) ∧ w'.cell? ⟨(ad431.add ((x5_1).toNat * 5)).block, (ad431.add ((x5_1).toNat * 5)).off + 4, none⟩ = some (.int .i64 ((rd_T68 l1 x5_1).f4))) (ds := []) #[false, false, false, false, false, false, false, false, false, false] (by kernel_rfl) rfl rfl ⟨((HB.out.cell (World.block_lt_of_cell? w _ hw430_0)).trans hw430_0), ((HB.out.cell (World.block_lt_of_cell? w _ hw430_1)).trans hw430_1), ((HB.out.cell (World.block_lt_of_cell? w _ hw430_2)).trans hw430_2), ((HB.out.cell (World.block_lt_of_cell? w _ hw430_3)).trans hw430_3), ((HB.out.cell (World.block_lt_of_cell? w _ hw430_4)).trans hw430_4), ((HB.out.cell (World.block_lt_of_cell? w _ hw431_0)).trans hw431_0), ((HB.out.cell (World.block_lt_of_cell? w _ hw431_1)).trans hw431_1), ((HB.out.cell (World.block_lt_of_cell? w _ hw431_2)).trans hw431_2), ((HB.out.cell (World.block_lt_of_cell? w _ hw431_3)).trans hw431_3), ((HB.out.cell (World.block_lt_of_cell? w _ hw431_4)).trans hw431_4)⟩ (fun hHeld => ?_); refine with_tabW laws_eqGlyphS.tab6 laws_eqGlyphS.bits6 (fun HT_ HW_ => ?_)
   generalize wr.drew = w9 at HB hx430_0 hx430_1 hx430_2 hx430_3 hx430_4 hx431_0 hx431_1 hx431_2 hx431_3 hx431_4 hHeld ⊢
   refine pq 0 17 HT_.out ?_
   refine pq 1 18 HT_.out ?_
   refine pq 2 19 HT_.out ?_
   refine pq 4 21 HT_.out ?_
   refine pq 5 22 HT_.out ?_
   refine pq 6 23 HT_.out ?_
   refine take_ (i := 3) (N := some 20) (v := ?_) (a' := ?_) #[true, true, true, true, true, true, true, false, false, false] rfl rfl (take_ofW HT_.out HW_.out (by kernel_rfl)) (fun _ _ _ h => h) (Or.inl ⟨by rfl, ?_⟩) hHeld ?_ ?_
   rotate_left
   ·rintro w' ⟨s0, s1, s2, s3, s4, s5, s6, s7, s8, s9⟩
    go_simp
    with_reducible rfl
   rotate_left
   ·simp only [Act.put, List.setIfInBounds_toArray, List.set_cons_zero, List.set_cons_succ, i64_w, i32_w]
    rfl
   refine take_ (i := 7) (N := some 24) (v := ?_) (a' := ?_) #[true, true, true, true, true, true, true, true, false, false] rfl rfl (take_ofW HT_.out HW_.out (by kernel_rfl)) (fun _ _ _ h => h) (Or.inl ⟨by rfl, ?_⟩) hHeld ?_ ?_
   rotate_left
   ·rintro w' ⟨s0, s1, s2, s3, s4, s5, s6, s7, s8, s9⟩
    go_simp
    with_reducible rfl
   rotate_left
   ·simp only [Act.put, List.setIfInBounds_toArray, List.set_cons_zero, List.set_cons_succ, i64_w, i32_w]
    rfl
   refine one_ (i := 8) (N := some 25) #[true, true, true, true, true, true, true, true, true, false] rfl rfl (one_of HT_.out (by kernel_rfl)) (by decide) (fun K hK => ?_)
   refine goes_ Tryd.func72 (by kernel_rfl) rfl #[.agg #[.int .i64 ((rd_T68 l0 x5_1).f0), .int .i64 ((rd_T68 l0 x5_1).f1), .int .i64 ((rd_T68 l0 x5_1).f2), .int .i64 ((rd_T68 l0 x5_1).f3), .int .i64 ((rd_T68 l0 x5_1).f4)], .agg #[.int .i64 ((rd_T68 l1 x5_1).f0), .int .i64 ((rd_T68 l1 x5_1).f1), .int .i64 ((rd_T68 l1 x5_1).f2), .int .i64 ((rd_T68 l1 x5_1).f3), .int .i64 ((rd_T68 l1 x5_1).f4)]] (by rfl) rfl rfl (by (try simp only [List.map_toArray, List.map_cons, List.map_nil]); first | done | rfl | (simp only [List.length_drop, List.length_take]; rfl)) ?_
   with_reducible refine (laws_eqGlyph.calls ((rd_T68 l0 x5_1).f0) ((rd_T68 l0 x5_1).f1) ((rd_T68 l0 x5_1).f2) ((rd_T68 l0 x5_1).f3) ((rd_T68 l0 x5_1).f4) ((rd_T68 l1 x5_1).f0) ((rd_T68 l1 x5_1).f1) ((rd_T68 l1 x5_1).f2) ((rd_T68 l1 x5_1).f3) ((rd_T68 l1 x5_1).f4) true _ A7.out).mono ?_
   rintro e w10 ⟨rfl, hb⟩
   refine ⟨_, rfl, ?_⟩
   replace HB := am (below_step bB hb)
   (try clear hb)
   (try clear hb2)
   (try clear hk)
   (try clear hi)
   refine hK.out _ _ ⟨((HB.out.cell (World.block_lt_of_cell? w _ hw430_0)).trans hw430_0), ((HB.out.cell (World.block_lt_of_cell? w _ hw430_1)).trans hw430_1), ((HB.out.cell (World.block_lt_of_cell? w _ hw430_2)).trans hw430_2), ((HB.out.cell (World.block_lt_of_cell? w _ hw430_3)).trans hw430_3), ((HB.out.cell (World.block_lt_of_cell? w _ hw430_4)).trans hw430_4), ((HB.out.cell (World.block_lt_of_cell? w _ hw431_0)).trans hw431_0), ((HB.out.cell (World.block_lt_of_cell? w _ hw431_1)).trans hw431_1), ((HB.out.cell (World.block_lt_of_cell? w _ hw431_2)).trans hw431_2), ((HB.out.cell (World.block_lt_of_cell? w _ hw431_3)).trans hw431_3), ((HB.out.cell (World.block_lt_of_cell? w _ hw431_4)).trans hw431_4)⟩ (fun hHeld => ?_)
   clear hK K
   refine norm_ (a' := ?_) ?_ ?_
   rotate_left
   ·show Act.put _ (some 25) _ = _
    simp only [Act.put, List.setIfInBounds_toArray, List.set_cons_zero, List.set_cons_succ, i64_w, i32_w]
    rfl
   refine pq 9 26 HT_.out ?_
   refine done_ (done_of HT_.out (by kernel_rfl)) ?_
   try go_wp2
   go_roundg k1
   case measure => have := HK1.out; omega
   case rel => exact ⟨(wrap64 (x5_1 + 1)), sr, H', ⟨kl⟩, ⟨bB⟩⟩
/-! ### laws_markGlyphS: function 38 -/
def laws_markGlyphS.l0 : Nat → List (S68) → Int → Int → Option (Int × (List (S68)))
 | 0, _, _, _ => none
 | k + 1, x0, x1, x5 => if x5 < (x0.length : Int) then (if 0 ≤ x5 then ((some (x0.set (x5 : Int).toNat (⟨x1, (rd_T68 x0 x5).f1, (rd_T68 x0 x5).f2, (rd_T68 x0 x5).f3, (rd_T68 x0 x5).f4⟩ : S68) : List (S68))).bind fun y433 => ((some (y433.set (x5 : Int).toNat (⟨(rd_T68 y433 x5).f0, wrap64 (x1 + 1), (rd_T68 y433 x5).f2, (rd_T68 y433 x5).f3, (rd_T68 y433 x5).f4⟩ : S68) : List (S68))).bind fun y434 => ((some (y434.set (x5 : Int).toNat (⟨(rd_T68 y434 x5).f0, (rd_T68 y434 x5).f1, wrap64 ((wrap64 (x1 + 1)) + 1), (rd_T68 y434 x5).f3, (rd_T68 y434 x5).f4⟩ : S68) : List (S68))).bind fun y435 => ((some (y435.set (x5 : Int).toNat (⟨(rd_T68 y435 x5).f0, (rd_T68 y435 x5).f1, (rd_T68 y435 x5).f2, wrap64 ((wrap64 ((wrap64 (x1 + 1)) + 1)) + 1), (rd_T68 y435 x5).f4⟩ : S68) : List (S68))).bind fun y436 => (laws_markGlyphS.l0 k (y436.set (x5 : Int).toNat (⟨(rd_T68 y436 x5).f0, (rd_T68 y436 x5).f1, (rd_T68 y436 x5).f2, (rd_T68 y436 x5).f3, wrap64 ((wrap64 ((wrap64 ((wrap64 (x1 + 1)) + 1)) + 1)) + 1)⟩ : S68)) (wrap64 ((wrap64 ((wrap64 ((wrap64 ((wrap64 (x1 + 1)) + 1)) + 1)) + 1)) + 1)) (wrap64 (x5 + 1))))))) else (none)) else (some (x1, x0))
def laws_markGlyphS.f (k : Nat) (l0 : List (S68)) (a1 : Int) : Option (Int × (List (S68))) := laws_markGlyphS.l0 k l0 a1 0
theorem laws_markGlyphS.mono_l : ∀ k, (∀ y0 y1 y2, LeO (laws_markGlyphS.l0 k y0 y1 y2) (laws_markGlyphS.l0 (k + 1) y0 y1 y2))
 | 0 => fun _ _ _ r h => by simp [laws_markGlyphS.l0] at h
 | k + 1 => by
  have ih0 := laws_markGlyphS.mono_l k
  ·intro y0 y1 y2
   unfold laws_markGlyphS.l0
   repeat' (first | (with_reducible first | exact ih0 .. | exact LeO.refl _ | exact LeO.none _ | refine LeO.ite ?_ ?_ | refine LeO.bind ?_ (fun _ => ?_)) | exact ih0 .. | exact LeO.none _ | refine LeO.ite ?_ ?_ | refine LeO.bind ?_ (fun _ => ?_))
theorem laws_markGlyphS.mono : ∀ a0 a1 k, LeO (laws_markGlyphS.f k a0 a1) (laws_markGlyphS.f (k + 1) a0 a1) := by
 intro a0 a1 k
 have ih0 := laws_markGlyphS.mono_l k
 unfold laws_markGlyphS.f
 repeat' (first | (with_reducible first | exact ih0 .. | exact LeO.refl _ | exact LeO.none _ | refine LeO.ite ?_ ?_ | refine LeO.bind ?_ (fun _ => ?_)) | exact ih0 .. | exact LeO.none _ | refine LeO.ite ?_ ?_ | refine LeO.bind ?_ (fun _ => ?_))
set_option maxHeartbeats 8000000 in
set_option maxRecDepth 100000 in
theorem laws_markGlyphS.calls (k : Nat) (P0_ : Nat → Prop) (u9000_ : Value) (l0 : List (S68)) (a1 : Int) (r1 : Int) (r2 : List (S68)) (w0 w : World) (hB : Below w0.heap.size w0 w) (ho0 : Kd.R k68 68 w w0.heap.size P0_ u9000_ l0) (h : laws_markGlyphS.f k l0 a1 = some (r1, r2)) :
  Calls Tryd.prog 38 #[u9000_, .int .i64 a1] w fun e w' => e = .returned (.int .i64 r1) ∧ Kd.R k68 68 w' w0.heap.size (fun k_ => (P0_ k_ ∨ w.heap.size ≤ k_)) u9000_ r2 ∧ Below w0.heap.size w0 w' ∧ Kept w w' (fun k_ => P0_ k_) := by
 have HO0 := am (show Kd.R k68 68 w w0.heap.size (fun k_ => (P0_ k_ ∨ w.heap.size ≤ k_)) u9000_ l0 from Kd.R_mono ho0 (fun k_ hk => (.inl hk)))
 have HK := am (Kept.refl w (fun k_ => P0_ k_))
 have HW0 := am hB.size
 have HB := am hB
 clear hB
 have H : (laws_markGlyphS.l0 k l0 a1 0) = some (r1, r2) := h
 clear h
 have H' := am H
 clear H
 go_enter Tryd.func38, Tryd.ntmps38
 go_wp2
 go_loopg [1, 5] k (fun kq v1 v5 w' => ∃ (x0_1 : List (S68)) (x1_1 : Int) (x5_1 : Int), v1 = .int .i64 x1_1 ∧ v5 = .int .i64 x5_1 ∧ Aside0 (laws_markGlyphS.l0 kq x0_1 x1_1 x5_1 = some (r1, r2)) ∧ Aside0 (kq ≤ k) ∧ Aside0 (Kd.R k68 68 w' w0.heap.size (fun k_ => (P0_ k_ ∨ w.heap.size ≤ k_)) u9000_ x0_1) ∧ Aside0 (Kept w w' (fun k_ => P0_ k_)) ∧ Aside0 (Below w0.heap.size w0 w'))
 case atStart => exact ⟨(l0), (a1), (0), sr, sr, H', ⟨Nat.le_refl _⟩, ⟨kR HO0.out⟩, ⟨by repeat (first | (with_reducible first | exact HK.out | apply Kept.alloc | apply Kept.drewN | apply Kept.drew) | exact HK.out)⟩, ⟨bB⟩⟩
 case round =>
  clear H'
  obtain ⟨x0_1, x1_1, x5_1, rfl, rfl, HA, HK1, HO_0, HK, HB⟩ := hrel
  cases gk with
  | zero => exact absurd HA.out (by simp [laws_markGlyphS.l0])
  | succ k1 =>
   have H := HA.out
   clear HA
   simp only [laws_markGlyphS.l0] at H
   by_cases c3 : x5_1 < (x0_1.length : Int)
   rotate_left
   ·rw [if_neg c3] at H
    have c3b0 : decide (x5_1 < (x0_1.length : Int)) = false := decide_eq_false c3
    clear c3
    simp only [Option.some.injEq, Prod.mk.injEq] at H
    obtain ⟨rfl, rfl⟩ := H
    obtain ⟨Ao21, co21, eo21⟩ := Kd.R_slice HO_0.out
    subst eo21
    go_wp2
    go_ret
    exact ⟨rv, kR HO_0.out, bB, by repeat (first | (with_reducible first | exact HK.out | apply Kept.alloc | apply Kept.drewN | apply Kept.drew) | exact HK.out)⟩
   rw [if_pos c3] at H
   have c3b0 : decide (x5_1 < (x0_1.length : Int)) = true := decide_eq_true c3
   clear c3
   replace H := iteN H
   obtain ⟨c4, H⟩ := H
   have c4b0 : decide (0 ≤ x5_1) = true := decide_eq_true c4
   clear c4
   obtain ⟨y433, hy433⟩ : ∃ y_ : List (S68), y_ = (x0_1.set (x5_1 : Int).toNat (⟨x1_1, (rd_T68 x0_1 x5_1).f1, (rd_T68 x0_1 x5_1).f2, (rd_T68 x0_1 x5_1).f3, (rd_T68 x0_1 x5_1).f4⟩ : S68)) := ⟨_, rfl⟩
   replace H : ((some (y433.set (x5_1 : Int).toNat (⟨(rd_T68 y433 x5_1).f0, wrap64 (x1_1 + 1), (rd_T68 y433 x5_1).f2, (rd_T68 y433 x5_1).f3, (rd_T68 y433 x5_1).f4⟩ : S68) : List (S68))).bind fun y434 => ((some (y434.set (x5_1 : Int).toNat (⟨(rd_T68 y434 x5_1).f0, (rd_T68 y434 x5_1).f1, wrap64 ((wrap64 (x1_1 + 1)) + 1), (rd_T68 y434 x5_1).f3, (rd_T68 y434 x5_1).f4⟩ : S68) : List (S68))).bind fun y435 => ((some (y435.set (x5_1 : Int).toNat (⟨(rd_T68 y435 x5_1).f0, (rd_T68 y435 x5_1).f1, (rd_T68 y435 x5_1).f2, wrap64 ((wrap64 ((wrap64 (x1_1 + 1)) + 1)) + 1), (rd_T68 y435 x5_1).f4⟩ : S68) : List (S68))).bind fun y436 => (laws_markGlyphS.l0 k1 (y436.set (x5_1 : Int).toNat (⟨(rd_T68 y436 x5_1).f0, (rd_T68 y436 x5_1).f1, (rd_T68 y436 x5_1).f2, (rd_T68 y436 x5_1).f3, wrap64 ((wrap64 ((wrap64 ((wrap64 (x1_1 + 1)) + 1)) + 1)) + 1)⟩ : S68)) (wrap64 ((wrap64 ((wrap64 ((wrap64 ((wrap64 (x1_1 + 1)) + 1)) + 1)) + 1)) + 1)) (wrap64 (x5_1 + 1)))))) = some (r1, r2) := by first | (rw [hy433]; with_reducible exact H) | (have H2_ := (Option.bind_some _ _).symm.trans H; rw [hy433]; with_reducible exact H2_) | (have H2_ := (Option.bind_some _ _).symm.trans H; with_reducible exact H2_) | with_reducible exact H | (rw [hy433]; exact H) | exact H
   have Ny433 := am hy433
   clear hy433
   obtain ⟨y434, hy434⟩ : ∃ y_ : List (S68), y_ = (y433.set (x5_1 : Int).toNat (⟨(rd_T68 y433 x5_1).f0, wrap64 (x1_1 + 1), (rd_T68 y433 x5_1).f2, (rd_T68 y433 x5_1).f3, (rd_T68 y433 x5_1).f4⟩ : S68)) := ⟨_, rfl⟩
   replace H : ((some (y434.set (x5_1 : Int).toNat (⟨(rd_T68 y434 x5_1).f0, (rd_T68 y434 x5_1).f1, wrap64 ((wrap64 (x1_1 + 1)) + 1), (rd_T68 y434 x5_1).f3, (rd_T68 y434 x5_1).f4⟩ : S68) : List (S68))).bind fun y435 => ((some (y435.set (x5_1 : Int).toNat (⟨(rd_T68 y435 x5_1).f0, (rd_T68 y435 x5_1).f1, (rd_T68 y435 x5_1).f2, wrap64 ((wrap64 ((wrap64 (x1_1 + 1)) + 1)) + 1), (rd_T68 y435 x5_1).f4⟩ : S68) : List (S68))).bind fun y436 => (laws_markGlyphS.l0 k1 (y436.set (x5_1 : Int).toNat (⟨(rd_T68 y436 x5_1).f0, (rd_T68 y436 x5_1).f1, (rd_T68 y436 x5_1).f2, (rd_T68 y436 x5_1).f3, wrap64 ((wrap64 ((wrap64 ((wrap64 (x1_1 + 1)) + 1)) + 1)) + 1)⟩ : S68)) (wrap64 ((wrap64 ((wrap64 ((wrap64 ((wrap64 (x1_1 + 1)) + 1)) + 1)) + 1)) + 1)) (wrap64 (x5_1 + 1))))) = some (r1, r2) := by first | (rw [hy434]; with_reducible exact H) | (have H2_ := (Option.bind_some _ _).symm.trans H; rw [hy434]; with_reducible exact H2_) | (have H2_ := (Option.bind_some _ _).symm.trans H; with_reducible exact H2_) | with_reducible exact H | (rw [hy434]; exact H) | exact H
   have Ny434 := am hy434
   clear hy434
   obtain ⟨y435, hy435⟩ : ∃ y_ : List (S68), y_ = (y434.set (x5_1 : Int).toNat (⟨(rd_T68 y434 x5_1).f0, (rd_T68 y434 x5_1).f1, wrap64 ((wrap64 (x1_1 + 1)) + 1), (rd_T68 y434 x5_1).f3, (rd_T68 y434 x5_1).f4⟩ : S68)) := ⟨_, rfl⟩
   replace H : ((some (y435.set (x5_1 : Int).toNat (⟨(rd_T68 y435 x5_1).f0, (rd_T68 y435 x5_1).f1, (rd_T68 y435 x5_1).f2, wrap64 ((wrap64 ((wrap64 (x1_1 + 1)) + 1)) + 1), (rd_T68 y435 x5_1).f4⟩ : S68) : List (S68))).bind fun y436 => (laws_markGlyphS.l0 k1 (y436.set (x5_1 : Int).toNat (⟨(rd_T68 y436 x5_1).f0, (rd_T68 y436 x5_1).f1, (rd_T68 y436 x5_1).f2, (rd_T68 y436 x5_1).f3, wrap64 ((wrap64 ((wrap64 ((wrap64 (x1_1 + 1)) + 1)) + 1)) + 1)⟩ : S68)) (wrap64 ((wrap64 ((wrap64 ((wrap64 ((wrap64 (x1_1 + 1)) + 1)) + 1)) + 1)) + 1)) (wrap64 (x5_1 + 1)))) = some (r1, r2) := by first | (rw [hy435]; with_reducible exact H) | (have H2_ := (Option.bind_some _ _).symm.trans H; rw [hy435]; with_reducible exact H2_) | (have H2_ := (Option.bind_some _ _).symm.trans H; with_reducible exact H2_) | with_reducible exact H | (rw [hy435]; exact H) | exact H
   have Ny435 := am hy435
   clear hy435
   obtain ⟨y436, hy436⟩ : ∃ y_ : List (S68), y_ = (y435.set (x5_1 : Int).toNat (⟨(rd_T68 y435 x5_1).f0, (rd_T68 y435 x5_1).f1, (rd_T68 y435 x5_1).f2, wrap64 ((wrap64 ((wrap64 (x1_1 + 1)) + 1)) + 1), (rd_T68 y435 x5_1).f4⟩ : S68)) := ⟨_, rfl⟩
   replace H : (laws_markGlyphS.l0 k1 (y436.set (x5_1 : Int).toNat (⟨(rd_T68 y436 x5_1).f0, (rd_T68 y436 x5_1).f1, (rd_T68 y436 x5_1).f2, (rd_T68 y436 x5_1).f3, wrap64 ((wrap64 ((wrap64 ((wrap64 (x1_1 + 1)) + 1)) + 1)) + 1)⟩ : S68)) (wrap64 ((wrap64 ((wrap64 ((wrap64 ((wrap64 (x1_1 + 1)) + 1)) + 1)) + 1)) + 1)) (wrap64 (x5_1 + 1))) = some (r1, r2) := by first | (rw [hy436]; with_reducible exact H) | (have H2_ := (Option.bind_some _ _).symm.trans H; rw [hy436]; with_reducible exact H2_) | (have H2_ := (Option.bind_some _ _).symm.trans H; with_reducible exact H2_) | with_reducible exact H | (rw [hy436]; exact H) | exact H
   have Ny436 := am hy436
   clear hy436
   obtain ⟨y437, hy437⟩ : ∃ y_ : List (S68), y_ = (y436.set (x5_1 : Int).toNat (⟨(rd_T68 y436 x5_1).f0, (rd_T68 y436 x5_1).f1, (rd_T68 y436 x5_1).f2, (rd_T68 y436 x5_1).f3, wrap64 ((wrap64 ((wrap64 ((wrap64 (x1_1 + 1)) + 1)) + 1)) + 1)⟩ : S68)) := ⟨_, rfl⟩
   replace H : (laws_markGlyphS.l0 k1 y437 (wrap64 ((wrap64 ((wrap64 ((wrap64 ((wrap64 (x1_1 + 1)) + 1)) + 1)) + 1)) + 1)) (wrap64 (x5_1 + 1))) = some (r1, r2) := by first | (rw [hy437]; with_reducible exact H) | (have H2_ := (Option.bind_some _ _).symm.trans H; rw [hy437]; with_reducible exact H2_) | (have H2_ := (Option.bind_some _ _).symm.trans H; with_reducible exact H2_) | with_reducible exact H | (rw [hy437]; exact H) | exact H
   have Ny437 := am hy437
   clear hy437
   have H' := am H
   clear H
   obtain ⟨Ao10, co10, eo10⟩ := Kd.R_slice HO_0.out
   subst eo10
   have p5 : 0 ≤ (x5_1 : Int) := od
   have q5 : (x5_1 : Int) < ((x0_1.length : Int) : Int) := od
   obtain ⟨go5, co5, eo5, gb5, gl5, cl5, HG5⟩ := Kd.R_form HO_0.out (by omega)
   (first | cases eo5 | (injection eo5 with ea_ en_ ec_; (first | subst ea_ | (injection ea_ with ea_; subst ea_)); subst ec_; clear en_))
   have GB5 := am gb5
   have GG5 := am HG5
   clear gb5 gl5 HG5
   have HMgo5 := am (show (P0_ go5 ∨ w.heap.size ≤ go5) from (HO_0.out.1 _ rfl))
   obtain ⟨ce5, hcl5, hM5, hcc5, hfr5⟩ := Kd.R_elem HO_0.out z68 (x5_1 : Int) p5 q5
   obtain rfl := k68_openM hM5
   have hx5_0 : wr.cell? ⟨go5, (x5_1 : Int).toNat * 5, none⟩ = some (.int .i64 ((rd_T68 x0_1 x5_1).f0)) := hcc5 0 _ rfl
   have hx5_1 : wr.cell? ⟨go5, (x5_1 : Int).toNat * 5 + 1, none⟩ = some (.int .i64 ((rd_T68 x0_1 x5_1).f1)) := hcc5 1 _ rfl
   have hx5_2 : wr.cell? ⟨go5, (x5_1 : Int).toNat * 5 + 2, none⟩ = some (.int .i64 ((rd_T68 x0_1 x5_1).f2)) := hcc5 2 _ rfl
   have hx5_3 : wr.cell? ⟨go5, (x5_1 : Int).toNat * 5 + 3, none⟩ = some (.int .i64 ((rd_T68 x0_1 x5_1).f3)) := hcc5 3 _ rfl
   have hx5_4 : wr.cell? ⟨go5, (x5_1 : Int).toNat * 5 + 4, none⟩ = some (.int .i64 ((rd_T68 x0_1 x5_1).f4)) := hcc5 4 _ rfl
   have hf5_0 : wr.frozen? ⟨go5, (x5_1 : Int).toNat * 5, none⟩ = false := hfr5 0
   have hf5_1 : wr.frozen? ⟨go5, (x5_1 : Int).toNat * 5 + 1, none⟩ = false := hfr5 1
   have hf5_2 : wr.frozen? ⟨go5, (x5_1 : Int).toNat * 5 + 2, none⟩ = false := hfr5 2
   have hf5_3 : wr.frozen? ⟨go5, (x5_1 : Int).toNat * 5 + 3, none⟩ = false := hfr5 3
   have hf5_4 : wr.frozen? ⟨go5, (x5_1 : Int).toNat * 5 + 4, none⟩ = false := hfr5 4
   clear hcl5 hcc5 hfr5 hM5
   replace p5 := eq_true p5
   replace q5 := eq_true q5
   have HX11 := am (show Kd.R k68 68 wr w0.heap.size (fun k_ => (P0_ k_ ∨ w.heap.size ≤ k_)) (.slice (some ⟨go5, 0, none⟩) x0_1.length co10) x0_1 from (kR HO_0.out))
   obtain ⟨ce11, hcl11, hM11, hcc11, hfr11⟩ := Kd.R_elem HX11.out z68 (x5_1 : Int) (od) (by have h_ : (x5_1 : Int) < ((x0_1.length : Int) : Int) := od; first | exact h_ | (have e_ := (Kd.R_reads' HO_0.out).1; omega) | simpa using h_)
   obtain rfl := k68_openM hM11
   have HP11 := Kd.R_seg HX11.out (x5_1 : Int) (od) (by have h_ : (x5_1 : Int) < ((x0_1.length : Int) : Int) := od; first | exact h_ | (have e_ := (Kd.R_reads' HO_0.out).1; omega) | simpa using h_) (seg := [.int .i64 x1_1]) (j := 0) hcl11 hcc11 (show 1 ≤ 5 from by decide) (x' := (⟨x1_1, (rd_T68 x0_1 x5_1).f1, (rd_T68 x0_1 x5_1).f2, (rd_T68 x0_1 x5_1).f3, (rd_T68 x0_1 x5_1).f4⟩ : S68)) (k68_mkM _ _ _ (⟨x1_1, (rd_T68 x0_1 x5_1).f1, (rd_T68 x0_1 x5_1).f2, (rd_T68 x0_1 x5_1).f3, (rd_T68 x0_1 x5_1).f4⟩ : S68) ) (fun _ hk => hk)
   have hx11_0 := hcc11 0 _ rfl
   (try simp only [show (k68).sz = 5 from rfl, Nat.mul_one, Nat.add_zero] at hx11_0)
   have hf11_0 := hfr11 0
   (try simp only [show (k68).sz = 5 from rfl, Nat.mul_one, Nat.add_zero] at hf11_0)
   clear hcl11 hcc11 hfr11 hM11
   go_wp2_with (first | ((with_reducible refine gate_store (t := 2) (p := 16) rfl ?_); refine store_event (t := 2) (p := 16) (v := ?vo_w12) (w1 := (wr.setCell ⟨go5, (x5_1 : Int).toNat * 5, none⟩ (.int .i64 x1_1))) ?hg ?ho ?hn ?hr ?_; (case ho => rfl); (case hg => rfl); (case hn => rfl); (case hr => first | (go_simp; done) | (go_simp; rfl)); intro w12 hw; have hg : wr.grownBy w12 (some go5) := (by rw [hw]; exact HP11.2); have hp_ : Kd.R k68 68 w12 w0.heap.size (fun k_ => (P0_ k_ ∨ w.heap.size ≤ k_)) (.slice (some ⟨go5, 0, none⟩) x0_1.length co10) y433 := (by rw [hw, Ny433.out]; exact HP11.1); clear HP11; replace HB := am ((by rw [hw]; exact below_set (HB.out) GB5.out : Below w0.heap.size w0 w12)); replace HK := am (Kept.of_grown (S := (fun k_ => P0_ k_)) hg (by repeat (first | (with_reducible first | exact HK.out | apply Kept.alloc | apply Kept.drewN | apply Kept.drew) | exact HK.out)) (fun k_ e_ => (HO_0.out.1 k_ e_))); replace HO_0 := am (hp_); clear hg hw hp_; have p6 : 0 ≤ (x5_1 : Int) := od; have q6 : (x5_1 : Int) < ((x0_1.length : Int) : Int) := od; obtain ⟨ce6, hcl6, hM6, hcc6, hfr6⟩ := Kd.R_elem HO_0.out z68 (x5_1 : Int) p6 q6; obtain rfl := k68_openM hM6; have hx6_0 : w12.cell? ⟨go5, (x5_1 : Int).toNat * 5, none⟩ = some (.int .i64 ((rd_T68 y433 x5_1).f0)) := hcc6 0 _ rfl; have hx6_1 : w12.cell? ⟨go5, (x5_1 : Int).toNat * 5 + 1, none⟩ = some (.int .i64 ((rd_T68 y433 x5_1).f1)) := hcc6 1 _ rfl; have hx6_2 : w12.cell? ⟨go5, (x5_1 : Int).toNat * 5 + 2, none⟩ = some (.int .i64 ((rd_T68 y433 x5_1).f2)) := hcc6 2 _ rfl; have hx6_3 : w12.cell? ⟨go5, (x5_1 : Int).toNat * 5 + 3, none⟩ = some (.int .i64 ((rd_T68 y433 x5_1).f3)) := hcc6 3 _ rfl; have hx6_4 : w12.cell? ⟨go5, (x5_1 : Int).toNat * 5 + 4, none⟩ = some (.int .i64 ((rd_T68 y433 x5_1).f4)) := hcc6 4 _ rfl; have hf6_0 : w12.frozen? ⟨go5, (x5_1 : Int).toNat * 5, none⟩ = false := hfr6 0; have hf6_1 : w12.frozen? ⟨go5, (x5_1 : Int).toNat * 5 + 1, none⟩ = false := hfr6 1; have hf6_2 : w12.frozen? ⟨go5, (x5_1 : Int).toNat * 5 + 2, none⟩ = false := hfr6 2; have hf6_3 : w12.frozen? ⟨go5, (x5_1 : Int).toNat * 5 + 3, none⟩ = false := hfr6 3; have hf6_4 : w12.frozen? ⟨go5, (x5_1 : Int).toNat * 5 + 4, none⟩ = false := hfr6 4; clear hcl6 hcc6 hfr6 hM6; replace p6 := eq_true p6; replace q6 := eq_true q6; have HX13 := am (show Kd.R k68 68 w12 w0.heap.size (fun k_ => (P0_ k_ ∨ w.heap.size ≤ k_)) (.slice (some ⟨go5, 0, none⟩) x0_1.length co10) y433 from (kR HO_0.out)); obtain ⟨ce13, hcl13, hM13, hcc13, hfr13⟩ := Kd.R_elem HX13.out z68 (x5_1 : Int) (od) (by have h_ : (x5_1 : Int) < ((x0_1.length : Int) : Int) := od; first | exact h_ | (have e_ := (Kd.R_reads' HO_0.out).1; omega) | simpa using h_); obtain rfl := k68_openM hM13; have HP13 := Kd.R_seg HX13.out (x5_1 : Int) (od) (by have h_ : (x5_1 : Int) < ((x0_1.length : Int) : Int) := od; first | exact h_ | (have e_ := (Kd.R_reads' HO_0.out).1; omega) | simpa using h_) (seg := [.int .i64 (wrap64 (x1_1 + 1))]) (j := 1) hcl13 hcc13 (show 2 ≤ 5 from by decide) (x' := (⟨(rd_T68 y433 x5_1).f0, wrap64 (x1_1 + 1), (rd_T68 y433 x5_1).f2, (rd_T68 y433 x5_1).f3, (rd_T68 y433 x5_1).f4⟩ : S68)) (k68_mkM _ _ _ (⟨(rd_T68 y433 x5_1).f0, wrap64 (x1_1 + 1), (rd_T68 y433 x5_1).f2, (rd_T68 y433 x5_1).f3, (rd_T68 y433 x5_1).f4⟩ : S68) ) (fun _ hk => hk); have hx13_1 := hcc13 1 _ rfl; (try simp only [show (k68).sz = 5 from rfl, Nat.mul_one, Nat.add_zero] at hx13_1); have hf13_1 := hfr13 1; (try simp only [show (k68).sz = 5 from rfl, Nat.mul_one, Nat.add_zero] at hf13_1); clear hcl13 hcc13 hfr13 hM13) | ((with_reducible refine gate_store (t := 2) (p := 23) rfl ?_); refine store_event (t := 2) (p := 23) (v := ?vo_w14) (w1 := (w12.setCell ⟨go5, (x5_1 : Int).toNat * 5 + 1, none⟩ (.int .i64 (wrap64 (x1_1 + 1))))) ?hg ?ho ?hn ?hr ?_; (case ho => rfl); (case hg => rfl); (case hn => rfl); (case hr => first | (go_simp; done) | (go_simp; rfl)); intro w14 hw; have hg : w12.grownBy w14 (some go5) := (by rw [hw]; exact HP13.2); have hp_ : Kd.R k68 68 w14 w0.heap.size (fun k_ => (P0_ k_ ∨ w.heap.size ≤ k_)) (.slice (some ⟨go5, 0, none⟩) x0_1.length co10) y434 := (by rw [hw, Ny434.out]; exact HP13.1); clear HP13; replace HB := am ((by rw [hw]; exact below_set (HB.out) GB5.out : Below w0.heap.size w0 w14)); replace HK := am (Kept.of_grown (S := (fun k_ => P0_ k_)) hg (by repeat (first | (with_reducible first | exact HK.out | apply Kept.alloc | apply Kept.drewN | apply Kept.drew) | exact HK.out)) (fun k_ e_ => (HO_0.out.1 k_ e_))); replace HO_0 := am (hp_); clear hg hw hp_; have p7 : 0 ≤ (x5_1 : Int) := od; have q7 : (x5_1 : Int) < ((x0_1.length : Int) : Int) := od; obtain ⟨ce7, hcl7, hM7, hcc7, hfr7⟩ := Kd.R_elem HO_0.out z68 (x5_1 : Int) p7 q7; obtain rfl := k68_openM hM7; have hx7_0 : w14.cell? ⟨go5, (x5_1 : Int).toNat * 5, none⟩ = some (.int .i64 ((rd_T68 y434 x5_1).f0)) := hcc7 0 _ rfl; have hx7_1 : w14.cell? ⟨go5, (x5_1 : Int).toNat * 5 + 1, none⟩ = some (.int .i64 ((rd_T68 y434 x5_1).f1)) := hcc7 1 _ rfl; have hx7_2 : w14.cell? ⟨go5, (x5_1 : Int).toNat * 5 + 2, none⟩ = some (.int .i64 ((rd_T68 y434 x5_1).f2)) := hcc7 2 _ rfl; have hx7_3 : w14.cell? ⟨go5, (x5_1 : Int).toNat * 5 + 3, none⟩ = some (.int .i64 ((rd_T68 y434 x5_1).f3)) := hcc7 3 _ rfl; have hx7_4 : w14.cell? ⟨go5, (x5_1 : Int).toNat * 5 + 4, none⟩ = some (.int .i64 ((rd_T68 y434 x5_1).f4)) := hcc7 4 _ rfl; have hf7_0 : w14.frozen? ⟨go5, (x5_1 : Int).toNat * 5, none⟩ = false := hfr7 0; have hf7_1 : w14.frozen? ⟨go5, (x5_1 : Int).toNat * 5 + 1, none⟩ = false := hfr7 1; have hf7_2 : w14.frozen? ⟨go5, (x5_1 : Int).toNat * 5 + 2, none⟩ = false := hfr7 2; have hf7_3 : w14.frozen? ⟨go5, (x5_1 : Int).toNat * 5 + 3, none⟩ = false := hfr7 3; have hf7_4 : w14.frozen? ⟨go5, (x5_1 : Int).toNat * 5 + 4, none⟩ = false := hfr7 4; clear hcl7 hcc7 hfr7 hM7; replace p7 := eq_true p7; replace q7 := eq_true q7; have HX15 := am (show Kd.R k68 68 w14 w0.heap.size (fun k_ => (P0_ k_ ∨ w.heap.size ≤ k_)) (.slice (some ⟨go5, 0, none⟩) x0_1.length co10) y434 from (kR HO_0.out)); obtain ⟨ce15, hcl15, hM15, hcc15, hfr15⟩ := Kd.R_elem HX15.out z68 (x5_1 : Int) (od) (by have h_ : (x5_1 : Int) < ((x0_1.length : Int) : Int) := od; first | exact h_ | (have e_ := (Kd.R_reads' HO_0.out).1; omega) | simpa using h_); obtain rfl := k68_openM hM15; have HP15 := Kd.R_seg HX15.out (x5_1 : Int) (od) (by have h_ : (x5_1 : Int) < ((x0_1.length : Int) : Int) := od; first | exact h_ | (have e_ := (Kd.R_reads' HO_0.out).1; omega) | simpa using h_) (seg := [.int .i64 (wrap64 ((wrap64 (x1_1 + 1)) + 1))]) (j := 2) hcl15 hcc15 (show 3 ≤ 5 from by decide) (x' := (⟨(rd_T68 y434 x5_1).f0, (rd_T68 y434 x5_1).f1, wrap64 ((wrap64 (x1_1 + 1)) + 1), (rd_T68 y434 x5_1).f3, (rd_T68 y434 x5_1).f4⟩ : S68)) (k68_mkM _ _ _ (⟨(rd_T68 y434 x5_1).f0, (rd_T68 y434 x5_1).f1, wrap64 ((wrap64 (x1_1 + 1)) + 1), (rd_T68 y434 x5_1).f3, (rd_T68 y434 x5_1).f4⟩ : S68) ) (fun _ hk => hk); have hx15_2 := hcc15 2 _ rfl; (try simp only [show (k68).sz = 5 from rfl, Nat.mul_one, Nat.add_zero] at hx15_2); have hf15_2 := hfr15 2; (try simp only [show (k68).sz = 5 from rfl, Nat.mul_one, Nat.add_zero] at hf15_2); clear hcl15 hcc15 hfr15 hM15) | ((with_reducible refine gate_store (t := 2) (p := 30) rfl ?_); refine store_event (t := 2) (p := 30) (v := ?vo_w16) (w1 := (w14.setCell ⟨go5, (x5_1 : Int).toNat * 5 + 2, none⟩ (.int .i64 (wrap64 ((wrap64 (x1_1 + 1)) + 1))))) ?hg ?ho ?hn ?hr ?_; (case ho => rfl); (case hg => rfl); (case hn => rfl); (case hr => first | (go_simp; done) | (go_simp; rfl)); intro w16 hw; have hg : w14.grownBy w16 (some go5) := (by rw [hw]; exact HP15.2); have hp_ : Kd.R k68 68 w16 w0.heap.size (fun k_ => (P0_ k_ ∨ w.heap.size ≤ k_)) (.slice (some ⟨go5, 0, none⟩) x0_1.length co10) y435 := (by rw [hw, Ny435.out]; exact HP15.1); clear HP15; replace HB := am ((by rw [hw]; exact below_set (HB.out) GB5.out : Below w0.heap.size w0 w16)); replace HK := am (Kept.of_grown (S := (fun k_ => P0_ k_)) hg (by repeat (first | (with_reducible first | exact HK.out | apply Kept.alloc | apply Kept.drewN | apply Kept.drew) | exact HK.out)) (fun k_ e_ => (HO_0.out.1 k_ e_))); replace HO_0 := am (hp_); clear hg hw hp_; have p8 : 0 ≤ (x5_1 : Int) := od; have q8 : (x5_1 : Int) < ((x0_1.length : Int) : Int) := od; obtain ⟨ce8, hcl8, hM8, hcc8, hfr8⟩ := Kd.R_elem HO_0.out z68 (x5_1 : Int) p8 q8; obtain rfl := k68_openM hM8; have hx8_0 : w16.cell? ⟨go5, (x5_1 : Int).toNat * 5, none⟩ = some (.int .i64 ((rd_T68 y435 x5_1).f0)) := hcc8 0 _ rfl; have hx8_1 : w16.cell? ⟨go5, (x5_1 : Int).toNat * 5 + 1, none⟩ = some (.int .i64 ((rd_T68 y435 x5_1).f1)) := hcc8 1 _ rfl; have hx8_2 : w16.cell? ⟨go5, (x5_1 : Int).toNat * 5 + 2, none⟩ = some (.int .i64 ((rd_T68 y435 x5_1).f2)) := hcc8 2 _ rfl; have hx8_3 : w16.cell? ⟨go5, (x5_1 : Int).toNat * 5 + 3, none⟩ = some (.int .i64 ((rd_T68 y435 x5_1).f3)) := hcc8 3 _ rfl; have hx8_4 : w16.cell? ⟨go5, (x5_1 : Int).toNat * 5 + 4, none⟩ = some (.int .i64 ((rd_T68 y435 x5_1).f4)) := hcc8 4 _ rfl; have hf8_0 : w16.frozen? ⟨go5, (x5_1 : Int).toNat * 5, none⟩ = false := hfr8 0; have hf8_1 : w16.frozen? ⟨go5, (x5_1 : Int).toNat * 5 + 1, none⟩ = false := hfr8 1; have hf8_2 : w16.frozen? ⟨go5, (x5_1 : Int).toNat * 5 + 2, none⟩ = false := hfr8 2; have hf8_3 : w16.frozen? ⟨go5, (x5_1 : Int).toNat * 5 + 3, none⟩ = false := hfr8 3; have hf8_4 : w16.frozen? ⟨go5, (x5_1 : Int).toNat * 5 + 4, none⟩ = false := hfr8 4; clear hcl8 hcc8 hfr8 hM8; replace p8 := eq_true p8; replace q8 := eq_true q8; have HX17 := am (show Kd.R k68 68 w16 w0.heap.size (fun k_ => (P0_ k_ ∨ w.heap.size ≤ k_)) (.slice (some ⟨go5, 0, none⟩) x0_1.length co10) y435 from (kR HO_0.out)); obtain ⟨ce17, hcl17, hM17, hcc17, hfr17⟩ := Kd.R_elem HX17.out z68 (x5_1 : Int) (od) (by have h_ : (x5_1 : Int) < ((x0_1.length : Int) : Int) := od; first | exact h_ | (have e_ := (Kd.R_reads' HO_0.out).1; omega) | simpa using h_); obtain rfl := k68_openM hM17; have HP17 := Kd.R_seg HX17.out (x5_1 : Int) (od) (by have h_ : (x5_1 : Int) < ((x0_1.length : Int) : Int) := od; first | exact h_ | (have e_ := (Kd.R_reads' HO_0.out).1; omega) | simpa using h_) (seg := [.int .i64 (wrap64 ((wrap64 ((wrap64 (x1_1 + 1)) + 1)) + 1))]) (j := 3) hcl17 hcc17 (show 4 ≤ 5 from by decide) (x' := (⟨(rd_T68 y435 x5_1).f0, (rd_T68 y435 x5_1).f1, (rd_T68 y435 x5_1).f2, wrap64 ((wrap64 ((wrap64 (x1_1 + 1)) + 1)) + 1), (rd_T68 y435 x5_1).f4⟩ : S68)) (k68_mkM _ _ _ (⟨(rd_T68 y435 x5_1).f0, (rd_T68 y435 x5_1).f1, (rd_T68 y435 x5_1).f2, wrap64 ((wrap64 ((wrap64 (x1_1 + 1)) + 1)) + 1), (rd_T68 y435 x5_1).f4⟩ : S68) ) (fun _ hk => hk); have hx17_3 := hcc17 3 _ rfl; (try simp only [show (k68).sz = 5 from rfl, Nat.mul_one, Nat.add_zero] at hx17_3); have hf17_3 := hfr17 3; (try simp only [show (k68).sz = 5 from rfl, Nat.mul_one, Nat.add_zero] at hf17_3); clear hcl17 hcc17 hfr17 hM17) | ((with_reducible refine gate_store (t := 2) (p := 37) rfl ?_); refine store_event (t := 2) (p := 37) (v := ?vo_w18) (w1 := (w16.setCell ⟨go5, (x5_1 : Int).toNat * 5 + 3, none⟩ (.int .i64 (wrap64 ((wrap64 ((wrap64 (x1_1 + 1)) + 1)) + 1))))) ?hg ?ho ?hn ?hr ?_; (case ho => rfl); (case hg => rfl); (case hn => rfl); (case hr => first | (go_simp; done) | (go_simp; rfl)); intro w18 hw; have hg : w16.grownBy w18 (some go5) := (by rw [hw]; exact HP17.2); have hp_ : Kd.R k68 68 w18 w0.heap.size (fun k_ => (P0_ k_ ∨ w.heap.size ≤ k_)) (.slice (some ⟨go5, 0, none⟩) x0_1.length co10) y436 := (by rw [hw, Ny436.out]; exact HP17.1); clear HP17; replace HB := am ((by rw [hw]; exact below_set (HB.out) GB5.out : Below w0.heap.size w0 w18)); replace HK := am (Kept.of_grown (S := (fun k_ => P0_ k_)) hg (by repeat (first | (with_reducible first | exact HK.out | apply Kept.alloc | apply Kept.drewN | apply Kept.drew) | exact HK.out)) (fun k_ e_ => (HO_0.out.1 k_ e_))); replace HO_0 := am (hp_); clear hg hw hp_; have p9 : 0 ≤ (x5_1 : Int) := od; have q9 : (x5_1 : Int) < ((x0_1.length : Int) : Int) := od; obtain ⟨ce9, hcl9, hM9, hcc9, hfr9⟩ := Kd.R_elem HO_0.out z68 (x5_1 : Int) p9 q9; obtain rfl := k68_openM hM9; have hx9_0 : w18.cell? ⟨go5, (x5_1 : Int).toNat * 5, none⟩ = some (.int .i64 ((rd_T68 y436 x5_1).f0)) := hcc9 0 _ rfl; have hx9_1 : w18.cell? ⟨go5, (x5_1 : Int).toNat * 5 + 1, none⟩ = some (.int .i64 ((rd_T68 y436 x5_1).f1)) := hcc9 1 _ rfl; have hx9_2 : w18.cell? ⟨go5, (x5_1 : Int).toNat * 5 + 2, none⟩ = some (.int .i64 ((rd_T68 y436 x5_1).f2)) := hcc9 2 _ rfl; have hx9_3 : w18.cell? ⟨go5, (x5_1 : Int).toNat * 5 + 3, none⟩ = some (.int .i64 ((rd_T68 y436 x5_1).f3)) := hcc9 3 _ rfl; have hx9_4 : w18.cell? ⟨go5, (x5_1 : Int).toNat * 5 + 4, none⟩ = some (.int .i64 ((rd_T68 y436 x5_1).f4)) := hcc9 4 _ rfl; have hf9_0 : w18.frozen? ⟨go5, (x5_1 : Int).toNat * 5, none⟩ = false := hfr9 0; have hf9_1 : w18.frozen? ⟨go5, (x5_1 : Int).toNat * 5 + 1, none⟩ = false := hfr9 1; have hf9_2 : w18.frozen? ⟨go5, (x5_1 : Int).toNat * 5 + 2, none⟩ = false := hfr9 2; have hf9_3 : w18.frozen? ⟨go5, (x5_1 : Int).toNat * 5 + 3, none⟩ = false := hfr9 3; have hf9_4 : w18.frozen? ⟨go5, (x5_1 : Int).toNat * 5 + 4, none⟩ = false := hfr9 4; clear hcl9 hcc9 hfr9 hM9; replace p9 := eq_true p9; replace q9 := eq_true q9; have HX19 := am (show Kd.R k68 68 w18 w0.heap.size (fun k_ => (P0_ k_ ∨ w.heap.size ≤ k_)) (.slice (some ⟨go5, 0, none⟩) x0_1.length co10) y436 from (kR HO_0.out)); obtain ⟨ce19, hcl19, hM19, hcc19, hfr19⟩ := Kd.R_elem HX19.out z68 (x5_1 : Int) (od) (by have h_ : (x5_1 : Int) < ((x0_1.length : Int) : Int) := od; first | exact h_ | (have e_ := (Kd.R_reads' HO_0.out).1; omega) | simpa using h_); obtain rfl := k68_openM hM19; have HP19 := Kd.R_seg HX19.out (x5_1 : Int) (od) (by have h_ : (x5_1 : Int) < ((x0_1.length : Int) : Int) := od; first | exact h_ | (have e_ := (Kd.R_reads' HO_0.out).1; omega) | simpa using h_) (seg := [.int .i64 (wrap64 ((wrap64 ((wrap64 ((wrap64 (x1_1 + 1)) + 1)) + 1)) + 1))]) (j := 4) hcl19 hcc19 (show 5 ≤ 5 from by decide) (x' := (⟨(rd_T68 y436 x5_1).f0, (rd_T68 y436 x5_1).f1, (rd_T68 y436 x5_1).f2, (rd_T68 y436 x5_1).f3, wrap64 ((wrap64 ((wrap64 ((wrap64 (x1_1 + 1)) + 1)) + 1)) + 1)⟩ : S68)) (k68_mkM _ _ _ (⟨(rd_T68 y436 x5_1).f0, (rd_T68 y436 x5_1).f1, (rd_T68 y436 x5_1).f2, (rd_T68 y436 x5_1).f3, wrap64 ((wrap64 ((wrap64 ((wrap64 (x1_1 + 1)) + 1)) + 1)) + 1)⟩ : S68) ) (fun _ hk => hk); have hx19_4 := hcc19 4 _ rfl; (try simp only [show (k68).sz = 5 from rfl, Nat.mul_one, Nat.add_zero] at hx19_4); have hf19_4 := hfr19 4; (try simp only [show (k68).sz = 5 from rfl, Nat.mul_one, Nat.add_zero] at hf19_4); clear hcl19 hcc19 hfr19 hM19) | ((with_reducible refine gate_store (t := 2) (p := 44) rfl ?_); refine store_event (t := 2) (p := 44) (v := ?vo_w20) (w1 := (w18.setCell ⟨go5, (x5_1 : Int).toNat * 5 + 4, none⟩ (.int .i64 (wrap64 ((wrap64 ((wrap64 ((wrap64 (x1_1 + 1)) + 1)) + 1)) + 1))))) ?hg ?ho ?hn ?hr ?_; (case ho => rfl); (case hg => rfl); (case hn => rfl); (case hr => first | (go_simp; done) | (go_simp; rfl)); intro w20 hw; have hg : w18.grownBy w20 (some go5) := (by rw [hw]; exact HP19.2); have hp_ : Kd.R k68 68 w20 w0.heap.size (fun k_ => (P0_ k_ ∨ w.heap.size ≤ k_)) (.slice (some ⟨go5, 0, none⟩) x0_1.length co10) y437 := (by rw [hw, Ny437.out]; exact HP19.1); clear HP19; replace HB := am ((by rw [hw]; exact below_set (HB.out) GB5.out : Below w0.heap.size w0 w20)); replace HK := am (Kept.of_grown (S := (fun k_ => P0_ k_)) hg (by repeat (first | (with_reducible first | exact HK.out | apply Kept.alloc | apply Kept.drewN | apply Kept.drew) | exact HK.out)) (fun k_ e_ => (HO_0.out.1 k_ e_))); replace HO_0 := am (hp_); clear hg hw hp_))
   go_roundg k1
   case measure => have := HK1.out; omega
   case rel => exact ⟨(y437), (wrap64 ((wrap64 ((wrap64 ((wrap64 ((wrap64 (x1_1 + 1)) + 1)) + 1)) + 1)) + 1)), (wrap64 (x5_1 + 1)), sr, sr, H', ⟨kl⟩, ⟨kR HO_0.out⟩, ⟨by repeat (first | (with_reducible first | exact HK.out | apply Kept.alloc | apply Kept.drewN | apply Kept.drew) | exact HK.out)⟩, ⟨bB⟩⟩
end Go.Proofs.YtmlhnpggjkoinaaDoor.PFnExactGlyphsOf

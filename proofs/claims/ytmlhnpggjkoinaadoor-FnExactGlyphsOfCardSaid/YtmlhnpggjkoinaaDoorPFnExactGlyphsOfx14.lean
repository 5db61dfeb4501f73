-- Written by a program of this session (wip/tools/myprint.py) that runs the kit's print with hooks of its own. Lean checks it.
import Derived.Test.YtmlhnpggjkoinaaDoorPFnExactGlyphsOfx0
import Derived.Test.YtmlhnpggjkoinaaDoorSlimMore
import Derived.Test.YtmlhnpggjkoinaaDoorPFnExactGlyphsOfx9
import Derived.Test.YtmlhnpggjkoinaaDoorPFnExactGlyphsOfx11
import Derived.Test.YtmlhnpggjkoinaaDoorPFnExactGlyphsOfx13
namespace Go.Proofs.YtmlhnpggjkoinaaDoor.PFnExactGlyphsOf
open Go.RowKit Go.Proofs.YtmlhnpggjkoinaaDoorW.PrintWords Go.Proofs.YtmlhnpggjkoinaaDoorW.PrintLast Go.Proofs.YtmlhnpggjkoinaaDoorW.PrintMore
attribute [local go_sem] max2_int min2_int max_two min_two max_three min_three max_four min_four   -- for this text's walks alone
set_option linter.unusedVariables false
set_option linter.unusedSimpArgs false

/-! ### impl_glyphs: function 71 -/
mutual
def impl_glyphs.l0 : Nat → List (S74) → List Int → List Bool → List (S68) → Int → List Int → Int → Int → Option ((List (S68)))
 | 0, _, _, _, _, _, _, _, _ => none
 | k + 1, x3, x5, x6, x7, x8, x24, x25, x26 => if x26 < x25 then (if 0 ≤ x26 then (if x26 < (x24.length : Int) then (if x26 < (x6.length : Int) then (if rdOf false x6 x26 = true then (if x26 < (x3.length : Int) then (if x26 < (x5.length : Int) then (if x7.length < 3518437208883 then (impl_glyphs.l0 k x3 x5 x6 (x7 ++ [(⟨rd x24 x26, rd x5 x26, (rd_T74 x3 x26).f1, 0, 0⟩ : S68)]) ((rd_T74 x3 x26).f1) x24 x25 (wrap64 (x26 + 1))) else (none)) else (none)) else (none)) else (if x26 < (x5.length : Int) then (if x7.length < 3518437208883 then (impl_glyphs.l0 k x3 x5 x6 (x7 ++ [(⟨rd x24 x26, rd x5 x26, x8, 0, 0⟩ : S68)]) x8 x24 x25 (wrap64 (x26 + 1))) else (none)) else (none))) else (none)) else (none)) else (none)) else (impl_glyphs.l1 k x7 (x7.length : Int) 0)
def impl_glyphs.l1 : Nat → List (S68) → Int → Int → Option ((List (S68)))
 | 0, _, _, _ => none
 | k + 1, x7, x52, x53 => if x53 < x52 then (if 0 ≤ x53 then (if x53 < (x7.length : Int) then ((impl_in.f ((rd_T68 x7 x53).f0) 1568 1579).bind fun t406 => (if t406 = true then (impl_glyphs.j2 k x7 x53 x52 x53 ((Int.tmod ((rd_T68 x7 x53).f0) 2) == 1)) else (impl_glyphs.j2 k x7 x53 x52 x53 true))) else (none)) else (none)) else (some x7)
def impl_glyphs.j2 : Nat → List (S68) → Int → Int → Int → Bool → Option ((List (S68)))
 | 0, _, _, _, _, _ => none
 | k + 1, x7, x11, x52, x53, x68 => if x68 = true then (impl_glyphs.l1 k x7 x52 (wrap64 (x53 + 1))) else (impl_glyphs.l2 k x7 x11 (-1) (wrap64 (x11 - 1)) x52 x53)
def impl_glyphs.j9 : Nat → List (S68) → Int → Int → Int → Int → Option ((List (S68)))
 | 0, _, _, _, _, _ => none
 | k + 1, x7, x11, x13, x52, x53 => if x13 ≥ 0 then (if 0 ≤ x11 then (if x11 < (x7.length : Int) then (if 0 ≤ (wrap64 (x13 + 1)) then (if (wrap64 (x13 + 1)) ≤ (wrap64 (x11 + 1)) then (if (wrap64 (x11 + 1)) ≤ (x7.length : Int) then (if 0 ≤ x13 then (if x13 ≤ x11 then (if x11 ≤ (x7.length : Int) then (if x13 < (x7.length : Int) then (impl_glyphs.l1 k ((GlyW.mvL x7 (x13 : Int).toNat (x11 : Int).toNat).set (x13 : Int).toNat (⟨(rd_T68 x7 x11).f0, (rd_T68 x7 x11).f1, (rd_T68 x7 x11).f2, (rd_T68 x7 x11).f3, (rd_T68 x7 x11).f4⟩ : S68)) x52 (wrap64 (x53 + 1))) else (none)) else (none)) else (none)) else (none)) else (none)) else (none)) else (none)) else (none)) else (none)) else (impl_glyphs.l1 k x7 x52 (wrap64 (x53 + 1)))
def impl_glyphs.l2 : Nat → List (S68) → Int → Int → Int → Int → Int → Option ((List (S68)))
 | 0, _, _, _, _, _, _ => none
 | k + 1, x7, x11, x13, x14, x52, x53 => impl_glyphs.l3 k x7 x11 x13 x14 x52 x53
def impl_glyphs.l3 : Nat → List (S68) → Int → Int → Int → Int → Int → Option ((List (S68)))
 | 0, _, _, _, _, _, _ => none
 | k + 1, x7, x11, x13, x14, x52, x53 => if x14 ≥ 0 then (if 0 ≤ x14 then (if x14 < (x7.length : Int) then (if ((rd_T68 x7 x14).f0) = 1584 then (impl_glyphs.j5 k x7 x11 x13 x14 x52 x53 true) else (impl_glyphs.j5 k x7 x11 x13 x14 x52 x53 (((rd_T68 x7 x14).f0) == 1585))) else (none)) else (none)) else (impl_glyphs.j5 k x7 x11 x13 x14 x52 x53 false)
def impl_glyphs.j5 : Nat → List (S68) → Int → Int → Int → Int → Int → Bool → Option ((List (S68)))
 | 0, _, _, _, _, _, _, _ => none
 | k + 1, x7, x11, x13, x14, x52, x53, x88 => if x88 = true then (impl_glyphs.l3 k x7 x11 x13 (wrap64 (x14 - 1)) x52 x53) else (if x14 < 0 then (impl_glyphs.j6 k x7 x11 x13 x14 x52 x53 true) else (if 0 ≤ x14 then (if x14 < (x7.length : Int) then ((impl_consonant.f ((rd_T68 x7 x14).f0)).bind fun t410 => (impl_glyphs.j6 k x7 x11 x13 x14 x52 x53 (!t410))) else (none)) else (none)))
def impl_glyphs.j6 : Nat → List (S68) → Int → Int → Int → Int → Int → Bool → Option ((List (S68)))
 | 0, _, _, _, _, _, _, _ => none
 | k + 1, x7, x11, x13, x14, x52, x53, x101 => if x101 = true then (impl_glyphs.j9 k x7 x11 x13 x52 x53) else (impl_glyphs.l4 k x7 x11 x14 (wrap64 (x14 - 1)) x52 x53)
def impl_glyphs.j8 : Nat → List (S68) → Int → Int → Int → Int → Int → Option ((List (S68)))
 | 0, _, _, _, _, _, _ => none
 | k + 1, x7, x11, x13, x14, x52, x53 => if x14 < 0 then (impl_glyphs.j9 k x7 x11 x13 x52 x53) else (if 0 ≤ x14 then (if x14 < (x7.length : Int) then (if ((rd_T68 x7 x14).f0) = 1584 then (impl_glyphs.l2 k x7 x11 x13 x14 x52 x53) else (impl_glyphs.j9 k x7 x11 x13 x52 x53)) else (none)) else (none))
def impl_glyphs.l4 : Nat → List (S68) → Int → Int → Int → Int → Int → Option ((List (S68)))
 | 0, _, _, _, _, _, _ => none
 | k + 1, x7, x11, x13, x14, x52, x53 => if x14 ≥ 0 then (if 0 ≤ x14 then (if x14 < (x7.length : Int) then (if ((rd_T68 x7 x14).f0) = 1585 then (impl_glyphs.l4 k x7 x11 x13 (wrap64 (x14 - 1)) x52 x53) else (impl_glyphs.j8 k x7 x11 x13 x14 x52 x53)) else (none)) else (none)) else (impl_glyphs.j8 k x7 x11 x13 x14 x52 x53)
end
def impl_glyphs.f (k : Nat) (a0 : ByteArray) : Option ((List (S68))) := (impl_read.f k a0).bind fun t382 => ((impl_onlyPoints.f k t382).bind fun t385 => ((impl_formsOf.f k t385).bind fun t388 => ((impl_charCuts.f k t385).bind fun t391 => (impl_glyphs.l0 k t382 t388 t391 ([] : List (S68)) 0 t385 (t385.length : Int) 0))))
theorem impl_glyphs.mono_l : ∀ k, (∀ y0 y1 y2 y3 y4 y5 y6 y7, LeO (impl_glyphs.l0 k y0 y1 y2 y3 y4 y5 y6 y7) (impl_glyphs.l0 (k + 1) y0 y1 y2 y3 y4 y5 y6 y7)) ∧ (∀ y0 y1 y2, LeO (impl_glyphs.l1 k y0 y1 y2) (impl_glyphs.l1 (k + 1) y0 y1 y2)) ∧ (∀ y0 y1 y2 y3 y4, LeO (impl_glyphs.j2 k y0 y1 y2 y3 y4) (impl_glyphs.j2 (k + 1) y0 y1 y2 y3 y4)) ∧ (∀ y0 y1 y2 y3 y4, LeO (impl_glyphs.j9 k y0 y1 y2 y3 y4) (impl_glyphs.j9 (k + 1) y0 y1 y2 y3 y4)) ∧ (∀ y0 y1 y2 y3 y4 y5, LeO (impl_glyphs.l2 k y0 y1 y2 y3 y4 y5) (impl_glyphs.l2 (k + 1) y0 y1 y2 y3 y4 y5)) ∧ (∀ y0 y1 y2 y3 y4 y5, LeO (impl_glyphs.l3 k y0 y1 y2 y3 y4 y5) (impl_glyphs.l3 (k + 1) y0 y1 y2 y3 y4 y5)) ∧ (∀ y0 y1 y2 y3 y4 y5 y6, LeO (impl_glyphs.j5 k y0 y1 y2 y3 y4 y5 y6) (impl_glyphs.j5 (k + 1) y0 y1 y2 y3 y4 y5 y6)) ∧ (∀ y0 y1 y2 y3 y4 y5 y6, LeO (impl_glyphs.j6 k y0 y1 y2 y3 y4 y5 y6) (impl_glyphs.j6 (k + 1) y0 y1 y2 y3 y4 y5 y6)) ∧ (∀ y0 y1 y2 y3 y4 y5, LeO (impl_glyphs.j8 k y0 y1 y2 y3 y4 y5) (impl_glyphs.j8 (k + 1) y0 y1 y2 y3 y4 y5)) ∧ (∀ y0 y1 y2 y3 y4 y5, LeO (impl_glyphs.l4 k y0 y1 y2 y3 y4 y5) (impl_glyphs.l4 (k + 1) y0 y1 y2 y3 y4 y5))
 | 0 => ⟨fun _ _ _ _ _ _ _ _ r h => by simp [impl_glyphs.l0] at h, fun _ _ _ r h => by simp [impl_glyphs.l1] at h, fun _ _ _ _ _ r h => by simp [impl_glyphs.j2] at h, fun _ _ _ _ _ r h => by simp [impl_glyphs.j9] at h, fun _ _ _ _ _ _ r h => by simp [impl_glyphs.l2] at h, fun _ _ _ _ _ _ r h => by simp [impl_glyphs.l3] at h, fun _ _ _ _ _ _ _ r h => by simp [impl_glyphs.j5] at h, fun _ _ _ _ _ _ _ r h => by simp [impl_glyphs.j6] at h, fun _ _ _ _ _ _ r h => by simp [impl_glyphs.j8] at h, fun _ _ _ _ _ _ r h => by simp [impl_glyphs.l4] at h⟩
 | k + 1 => by
  obtain ⟨ih0, ih1, ih2, ih3, ih4, ih5, ih6, ih7, ih8, ih9⟩ := impl_glyphs.mono_l k
  refine ⟨fun y0 y1 y2 y3 y4 y5 y6 y7 => ?_, fun y0 y1 y2 => ?_, fun y0 y1 y2 y3 y4 => ?_, fun y0 y1 y2 y3 y4 => ?_, fun y0 y1 y2 y3 y4 y5 => ?_, fun y0 y1 y2 y3 y4 y5 => ?_, fun y0 y1 y2 y3 y4 y5 y6 => ?_, fun y0 y1 y2 y3 y4 y5 y6 => ?_, fun y0 y1 y2 y3 y4 y5 => ?_, fun y0 y1 y2 y3 y4 y5 => ?_⟩
  all_goals (first | unfold impl_glyphs.l0 | unfold impl_glyphs.l1 | unfold impl_glyphs.j2 | unfold impl_glyphs.j9 | unfold impl_glyphs.l2 | unfold impl_glyphs.l3 | unfold impl_glyphs.j5 | unfold impl_glyphs.j6 | unfold impl_glyphs.j8 | unfold impl_glyphs.l4)
  all_goals (repeat' (first | (with_reducible first | exact ih0 .. | exact ih1 .. | exact ih2 .. | exact ih3 .. | exact ih4 .. | exact ih5 .. | exact ih6 .. | exact ih7 .. | exact ih8 .. | exact ih9 .. | exact impl_charCuts.mono .. | exact impl_formsOf.mono .. | exact impl_onlyPoints.mono .. | exact impl_read.mono .. | exact LeO.refl _ | exact LeO.none _ | refine LeO.ite ?_ ?_ | refine LeO.bind ?_ (fun _ => ?_)) | exact ih0 .. | exact ih1 .. | exact ih2 .. | exact ih3 .. | exact ih4 .. | exact ih5 .. | exact ih6 .. | exact ih7 .. | exact ih8 .. | exact ih9 .. | exact impl_charCuts.mono .. | exact impl_formsOf.mono .. | exact impl_onlyPoints.mono .. | exact impl_read.mono .. | exact LeO.none _ | refine LeO.ite ?_ ?_ | refine LeO.bind ?_ (fun _ => ?_)))
theorem impl_glyphs.mono : ∀ a0 k, LeO (impl_glyphs.f k a0) (impl_glyphs.f (k + 1) a0) := by
 intro a0 k
 obtain ⟨ih0, ih1, ih2, ih3, ih4, ih5, ih6, ih7, ih8, ih9⟩ := impl_glyphs.mono_l k
 unfold impl_glyphs.f
 repeat' (first | (with_reducible first | exact ih0 .. | exact ih1 .. | exact ih2 .. | exact ih3 .. | exact ih4 .. | exact ih5 .. | exact ih6 .. | exact ih7 .. | exact ih8 .. | exact ih9 .. | exact impl_charCuts.mono .. | exact impl_formsOf.mono .. | exact impl_onlyPoints.mono .. | exact impl_read.mono .. | exact LeO.refl _ | exact LeO.none _ | refine LeO.ite ?_ ?_ | refine LeO.bind ?_ (fun _ => ?_)) | exact ih0 .. | exact ih1 .. | exact ih2 .. | exact ih3 .. | exact ih4 .. | exact ih5 .. | exact ih6 .. | exact ih7 .. | exact ih8 .. | exact ih9 .. | exact impl_charCuts.mono .. | exact impl_formsOf.mono .. | exact impl_onlyPoints.mono .. | exact impl_read.mono .. | exact LeO.none _ | refine LeO.ite ?_ ?_ | refine LeO.bind ?_ (fun _ => ?_))
set_option maxHeartbeats 8000000 in
set_option maxRecDepth 100000 in
theorem impl_glyphs.calls (k : Nat) (a0 : ByteArray) (r : List (S68)) (w : World) (hG : GL w) (h : impl_glyphs.f k a0 = some r) :
  Calls Tryd.prog 71 #[.string a0] w fun e w' => ∃ v0_ : Value, e = .returned (v0_) ∧ Kd.R k68 68 w' w.heap.size (fun _ => True) v0_ r ∧ Below w.heap.size w w' := by
 have hu68 := Tryd.underlying68
 have HGL := am hG
 clear hG
 have HB := am (Below.refl w.heap.size w)
 have H : ((impl_read.f k a0).bind fun t382 => ((impl_onlyPoints.f k t382).bind fun t385 => ((impl_formsOf.f k t385).bind fun t388 => ((impl_charCuts.f k t385).bind fun t391 => (impl_glyphs.l0 k t382 t388 t391 ([] : List (S68)) 0 t385 (t385.length : Int) 0))))) = some r := h
 clear h
 obtain ⟨t382, A2, H⟩ := bb H
 obtain ⟨t385, A3, H⟩ := bb H
 obtain ⟨t388, A4, H⟩ := bb H
 obtain ⟨t391, A5, H⟩ := bb H
 have H' := am H
 clear H
 go_enter Tryd.func71, Tryd.ntmps71
 go_wp2_with (first | (go_at_call 56; (with_reducible refine (impl_read.calls k a0 t382 _ ?side1 A2.out).mono ?_); (case side1 => first | exact HGL.out | exact GL_below HGL.out bB); rintro e w6 ⟨v383, rfl, ho0, hb⟩; have HO384 := am (Kd.R_lower ho0 (below_size bB)); replace HB := am (below_step bB hb); (try clear hb); (try clear ho0); obtain ⟨Ao7, co7, eo7⟩ := Kd.R_slice HO384.out; subst eo7) | (go_at_call 59; (with_reducible refine (impl_onlyPoints.calls k _ _ t382 t385 _ ?side1 ?side2 A3.out).mono ?_); (case side1 => repeat (first | exact (Kd.R_reads' HO384.out).2.2 | (with_reducible refine Kd.C_alloc ?_ _) | (with_reducible refine Kd.C_drewN ?_ _) | (with_reducible refine Kd.C_drew ?_))); (case side2 => exact (Kd.R_reads' HO384.out).2.1); rintro e w8 ⟨v386, rfl, ho0, hb⟩; replace HO384 := am (Kd.R_below (kR HO384.out) hb); have HO387 := am (Kd.R_lower ho0 (below_size bB)); replace HB := am (below_step bB hb); (try clear hb); (try clear ho0); obtain ⟨Ao9, co9, eo9⟩ := Kd.R_slice HO387.out; subst eo9) | (go_at_call 74; (with_reducible refine (impl_formsOf.calls k _ _ t385 t388 _ ?side1 ?side2 A4.out).mono ?_); (case side1 => repeat (first | exact (Kd.R_reads' HO387.out).2.2 | (with_reducible refine Kd.C_alloc ?_ _) | (with_reducible refine Kd.C_drewN ?_ _) | (with_reducible refine Kd.C_drew ?_))); (case side2 => exact (Kd.R_reads' HO387.out).2.1); rintro e w10 ⟨v389, rfl, ho0, hb⟩; replace HO384 := am (Kd.R_below (kR HO384.out) hb); have HO390 := am (Kd.R_lower (Kd.R_new' ho0 (Kd.R_lt (kR HO387.out))) (below_size bB)); replace HO387 := am (Kd.R_elder' (kR HO387.out) (Kd.R_base ho0) hb); replace HB := am (below_step bB hb); (try clear hb); (try clear ho0)) | (go_at_call 81; (with_reducible refine (impl_charCuts.calls k _ _ t385 t391 _ ?side1 ?side2 A5.out).mono ?_); (case side1 => repeat (first | exact (Kd.R_reads' HO387.out).2.2 | (with_reducible refine Kd.C_alloc ?_ _) | (with_reducible refine Kd.C_drewN ?_ _) | (with_reducible refine Kd.C_drew ?_))); (case side2 => exact (Kd.R_reads' HO387.out).2.1); rintro e w11 ⟨v392, rfl, ho0, hb⟩; replace HO384 := am (Kd.R_below (kR HO384.out) hb); replace HO387 := am (Kd.R_below (kR HO387.out) hb); replace HO390 := am (Kd.R_below (kR HO390.out) hb); have HO393 := am (Kd.R_lower ho0 (below_size bB)); replace HB := am (below_step bB hb); (try clear hb); (try clear ho0)))
 repeat (go_quiet (first | (go_at_call 56; (with_reducible refine (impl_read.calls k a0 t382 _ ?side1 A2.out).mono ?_); (case side1 => first | exact HGL.out | exact GL_below HGL.out bB); rintro e w6 ⟨v383, rfl, ho0, hb⟩; have HO384 := am (Kd.R_lower ho0 (below_size bB)); replace HB := am (below_step bB hb); (try clear hb); (try clear ho0); obtain ⟨Ao7, co7, eo7⟩ := Kd.R_slice HO384.out; subst eo7) | (go_at_call 59; (with_reducible refine (impl_onlyPoints.calls k _ _ t382 t385 _ ?side1 ?side2 A3.out).mono ?_); (case side1 => repeat (first | exact (Kd.R_reads' HO384.out).2.2 | (with_reducible refine Kd.C_alloc ?_ _) | (with_reducible refine Kd.C_drewN ?_ _) | (with_reducible refine Kd.C_drew ?_))); (case side2 => exact (Kd.R_reads' HO384.out).2.1); rintro e w8 ⟨v386, rfl, ho0, hb⟩; replace HO384 := am (Kd.R_below (kR HO384.out) hb); have HO387 := am (Kd.R_lower ho0 (below_size bB)); replace HB := am (below_step bB hb); (try clear hb); (try clear ho0); obtain ⟨Ao9, co9, eo9⟩ := Kd.R_slice HO387.out; subst eo9) | (go_at_call 74; (with_reducible refine (impl_formsOf.calls k _ _ t385 t388 _ ?side1 ?side2 A4.out).mono ?_); (case side1 => repeat (first | exact (Kd.R_reads' HO387.out).2.2 | (with_reducible refine Kd.C_alloc ?_ _) | (with_reducible refine Kd.C_drewN ?_ _) | (with_reducible refine Kd.C_drew ?_))); (case side2 => exact (Kd.R_reads' HO387.out).2.1); rintro e w10 ⟨v389, rfl, ho0, hb⟩; replace HO384 := am (Kd.R_below (kR HO384.out) hb); have HO390 := am (Kd.R_lower (Kd.R_new' ho0 (Kd.R_lt (kR HO387.out))) (below_size bB)); replace HO387 := am (Kd.R_elder' (kR HO387.out) (Kd.R_base ho0) hb); replace HB := am (below_step bB hb); (try clear hb); (try clear ho0)) | (go_at_call 81; (with_reducible refine (impl_charCuts.calls k _ _ t385 t391 _ ?side1 ?side2 A5.out).mono ?_); (case side1 => repeat (first | exact (Kd.R_reads' HO387.out).2.2 | (with_reducible refine Kd.C_alloc ?_ _) | (with_reducible refine Kd.C_drewN ?_ _) | (with_reducible refine Kd.C_drew ?_))); (case side2 => exact (Kd.R_reads' HO387.out).2.1); rintro e w11 ⟨v392, rfl, ho0, hb⟩; replace HO384 := am (Kd.R_below (kR HO384.out) hb); replace HO387 := am (Kd.R_below (kR HO387.out) hb); replace HO390 := am (Kd.R_below (kR HO390.out) hb); have HO393 := am (Kd.R_lower ho0 (below_size bB)); replace HB := am (below_step bB hb); (try clear hb); (try clear ho0))); try go_wp2_with (first | (go_at_call 56; (with_reducible refine (impl_read.calls k a0 t382 _ ?side1 A2.out).mono ?_); (case side1 => first | exact HGL.out | exact GL_below HGL.out bB); rintro e w6 ⟨v383, rfl, ho0, hb⟩; have HO384 := am (Kd.R_lower ho0 (below_size bB)); replace HB := am (below_step bB hb); (try clear hb); (try clear ho0); obtain ⟨Ao7, co7, eo7⟩ := Kd.R_slice HO384.out; subst eo7) | (go_at_call 59; (with_reducible refine (impl_onlyPoints.calls k _ _ t382 t385 _ ?side1 ?side2 A3.out).mono ?_); (case side1 => repeat (first | exact (Kd.R_reads' HO384.out).2.2 | (with_reducible refine Kd.C_alloc ?_ _) | (with_reducible refine Kd.C_drewN ?_ _) | (with_reducible refine Kd.C_drew ?_))); (case side2 => exact (Kd.R_reads' HO384.out).2.1); rintro e w8 ⟨v386, rfl, ho0, hb⟩; replace HO384 := am (Kd.R_below (kR HO384.out) hb); have HO387 := am (Kd.R_lower ho0 (below_size bB)); replace HB := am (below_step bB hb); (try clear hb); (try clear ho0); obtain ⟨Ao9, co9, eo9⟩ := Kd.R_slice HO387.out; subst eo9) | (go_at_call 74; (with_reducible refine (impl_formsOf.calls k _ _ t385 t388 _ ?side1 ?side2 A4.out).mono ?_); (case side1 => repeat (first | exact (Kd.R_reads' HO387.out).2.2 | (with_reducible refine Kd.C_alloc ?_ _) | (with_reducible refine Kd.C_drewN ?_ _) | (with_reducible refine Kd.C_drew ?_))); (case side2 => exact (Kd.R_reads' HO387.out).2.1); rintro e w10 ⟨v389, rfl, ho0, hb⟩; replace HO384 := am (Kd.R_below (kR HO384.out) hb); have HO390 := am (Kd.R_lower (Kd.R_new' ho0 (Kd.R_lt (kR HO387.out))) (below_size bB)); replace HO387 := am (Kd.R_elder' (kR HO387.out) (Kd.R_base ho0) hb); replace HB := am (below_step bB hb); (try clear hb); (try clear ho0)) | (go_at_call 81; (with_reducible refine (impl_charCuts.calls k _ _ t385 t391 _ ?side1 ?side2 A5.out).mono ?_); (case side1 => repeat (first | exact (Kd.R_reads' HO387.out).2.2 | (with_reducible refine Kd.C_alloc ?_ _) | (with_reducible refine Kd.C_drewN ?_ _) | (with_reducible refine Kd.C_drew ?_))); (case side2 => exact (Kd.R_reads' HO387.out).2.1); rintro e w11 ⟨v392, rfl, ho0, hb⟩; replace HO384 := am (Kd.R_below (kR HO384.out) hb); replace HO387 := am (Kd.R_below (kR HO387.out) hb); replace HO390 := am (Kd.R_below (kR HO390.out) hb); have HO393 := am (Kd.R_lower ho0 (below_size bB)); replace HB := am (below_step bB hb); (try clear hb); (try clear ho0))))
 go_loopg [7, 8, 26] k (fun kq v7 v8 v26 w' => ∃ (x7_1 : List (S68)) (x8_1 : Int) (x26_1 : Int), v8 = .int .i64 x8_1 ∧ v26 = .int .i64 x26_1 ∧ Aside0 (impl_glyphs.l0 kq t382 t388 t391 x7_1 x8_1 t385 (t385.length : Int) x26_1 = some r) ∧ Aside0 (kq ≤ k) ∧ Aside0 (Kd.R k74 74 w' w.heap.size (fun _ => True) (.slice Ao7 t382.length co7) t382) ∧ Aside0 (Kd.R (Kd.int .i64) 2 w' w.heap.size (fun k_ => some k_ ≠ ((.slice Ao9 t385.length co9) : Value).ownBlock) v389 t388) ∧ Aside0 (Kd.R Kd.bool 4 w' w.heap.size (fun _ => True) v392 t391) ∧ Aside0 (Kd.R k68 68 w' w.heap.size (fun _ => True) v7 x7_1) ∧ Aside0 (Kd.R (Kd.int .i64) 2 w' w.heap.size (fun k_ => some k_ ≠ (v389 : Value).ownBlock) (.slice Ao9 t385.length co9) t385) ∧ Aside0 (Below w.heap.size w w'))
 case atStart => exact ⟨(([] : List (S68))), (0), (0), sr, sr, H', ⟨Nat.le_refl _⟩, ⟨kR HO384.out⟩, ⟨kR (Kd.R_mono HO390.out (fun _ hk => hk.2))⟩, ⟨kR HO393.out⟩, ⟨by first | exact Kd.R_nil _ _ _ _ _ | exact Kd.N_nil _ _ _ _ _ | exact Kd.V_nil _ _ _ _ _ | exact Kd.Q_nil _ _ _ _ _ | exact Kd.S_nil _ _ _ _ _⟩, ⟨kR (Kd.R_mono HO387.out (fun _ hk => hk.2))⟩, ⟨bB⟩⟩
 case round =>
  clear H'
  obtain ⟨x7_1, x8_1, x26_1, rfl, rfl, HA, HK1, HO_3, HO_5, HO_6, HO_7, HO_24, HB⟩ := hrel
  cases gk with
  | zero => exact absurd HA.out (by simp [impl_glyphs.l0])
  | succ k1 =>
   have H := HA.out
   clear HA
   simp only [impl_glyphs.l0] at H
   by_cases c12 : x26_1 < (t385.length : Int)
   ·rw [if_pos c12] at H
    have c12b0 : decide (x26_1 < (t385.length : Int)) = true := decide_eq_true c12
    clear c12
    replace H := iteN H
    obtain ⟨c13, H⟩ := H
    have c13b0 : decide (0 ≤ x26_1) = true := decide_eq_true c13
    clear c13
    replace H := iteN H
    obtain ⟨c14, H⟩ := H
    have c14b0 : decide (x26_1 < (t385.length : Int)) = true := decide_eq_true c14
    clear c14
    replace H := iteN H
    obtain ⟨c15, H⟩ := H
    have c15b0 : decide (x26_1 < (t391.length : Int)) = true := decide_eq_true c15
    clear c15
    obtain ⟨bq16, hbq16⟩ : ∃ b_ : Bool, b_ = (rdOf false t391 x26_1) := ⟨_, rfl⟩
    replace H : (if bq16 = true then (if x26_1 < (t382.length : Int) then (if x26_1 < (t388.length : Int) then (if x7_1.length < 3518437208883 then (impl_glyphs.l0 k1 t382 t388 t391 (x7_1 ++ [(⟨rd t385 x26_1, rd t388 x26_1, (rd_T74 t382 x26_1).f1, 0, 0⟩ : S68)]) ((rd_T74 t382 x26_1).f1) t385 (t385.length : Int) (wrap64 (x26_1 + 1))) else (none)) else (none)) else (none)) else (if x26_1 < (t388.length : Int) then (if x7_1.length < 3518437208883 then (impl_glyphs.l0 k1 t382 t388 t391 (x7_1 ++ [(⟨rd t385 x26_1, rd t388 x26_1, x8_1, 0, 0⟩ : S68)]) x8_1 t385 (t385.length : Int) (wrap64 (x26_1 + 1))) else (none)) else (none))) = some r := by rw [← hbq16] at H; exact H
    have Nbq16 := am hbq16
    clear hbq16
    by_cases c17 : bq16 = true
    rotate_left
    ·replace c17 := Bool.eq_false_iff.mpr c17
     subst c17
     replace H := iF H
     replace H := iteN H
     obtain ⟨c24, H⟩ := H
     have c24b0 : decide (x26_1 < (t388.length : Int)) = true := decide_eq_true c24
     clear c24
     replace H := iteN H
     obtain ⟨c25, H⟩ := H
     have LMc25 := am c25
     clear c25
     obtain ⟨y402, hy402⟩ : ∃ y_ : List (S68), y_ = (x7_1 ++ [(⟨rd t385 x26_1, rd t388 x26_1, x8_1, 0, 0⟩ : S68)]) := ⟨_, rfl⟩
     replace H : (impl_glyphs.l0 k1 t382 t388 t391 y402 x8_1 t385 (t385.length : Int) (wrap64 (x26_1 + 1))) = some r := by first | (rw [hy402]; with_reducible exact H) | (have H2_ := (Option.bind_some _ _).symm.trans H; rw [hy402]; with_reducible exact H2_) | (have H2_ := (Option.bind_some _ _).symm.trans H; with_reducible exact H2_) | with_reducible exact H | (rw [hy402]; exact H) | exact H
     have Ny402 := am hy402
     clear hy402
     have H' := am H
     clear H
     have p394 : 0 ≤ (x26_1 : Int) := od
     have q394 : x26_1 < (t385.length : Int) := od
     obtain ⟨ad394, e394, hx394_0⟩ := Kd.at_int (Kd.R_reads' HO_24.out).2.2 x26_1 p394 q394
     cases e394
     replace p394 := eq_true p394
     replace q394 := eq_true q394
     obtain ⟨Ao26, co26, eo26⟩ := Kd.R_slice HO_6.out
     subst eo26
     have p395 : 0 ≤ (x26_1 : Int) := od
     have q395 : x26_1 < (t391.length : Int) := od
     obtain ⟨ad395, e395, hx395_0⟩ := Kd.at_bool (Kd.R_reads' HO_6.out).2.2 x26_1 p395 q395
     (try rw [← Nbq16.out] at hx395_0)
     cases e395
     replace p395 := eq_true p395
     replace q395 := eq_true q395
     obtain ⟨Ao27, co27, eo27⟩ := Kd.R_slice HO_5.out
     subst eo27
     have p401 : 0 ≤ (x26_1 : Int) := od
     have q401 : x26_1 < (t388.length : Int) := od
     obtain ⟨ad401, e401, hx401_0⟩ := Kd.at_int (Kd.R_reads' HO_5.out).2.2 x26_1 p401 q401
     cases e401
     replace p401 := eq_true p401
     replace q401 := eq_true q401
     go_wp2_with (first | ((with_reducible refine gate_builtin (b := .append) (xs := #[.tmp 40, .tmp 48]) rfl ?_); at_builtin; refine Kd.R_append k68 (w0 := w) w.heap.size rfl (.tmp 40) (.tmp 48) 42 68 (.agg #[(.int .i64 0), (.int .i64 0), (.int .i64 0), (.int .i64 0), (.int .i64 0)]) 40 rfl Tryd.underlying42 info68 rfl (by decide) (by omega) u7 x7_1 (⟨rd t385 x26_1, rd t388 x26_1, x8_1, 0, 0⟩ : S68) [.int .i64 (rd t385 x26_1), .int .i64 (rd t388 x26_1), .int .i64 x8_1, .int .i64 0, .int .i64 0] (fun _ => True) (fun _ => False) rfl rfl ?aP (fun _ hk => hk.elim) ?aF ?aO ?aB ?aS ?aL ?_; (case aP => exact k68_mkM _ _ _ (⟨rd t385 x26_1, rd t388 x26_1, x8_1, 0, 0⟩ : S68)); (case aB => exact bB); (case aF => exact (fun _ _ => trivial)); (case aO => exact (kR HO_7.out)); (case aS => exact (below_size bB)); (case aL => have := LMc25.out; omega); intro v403 w28 ho hb hg hat; rw [← Ny402.out] at ho; replace HO_3 := am (Kd.R_over' (kR HO_3.out) (Kd.R_typed (kR HO_7.out)) (by decide) hg); replace HO_5 := am (Kd.R_over' (kR HO_5.out) (Kd.R_typed (kR HO_7.out)) (by decide) hg); replace HO_6 := am (Kd.R_over' (kR HO_6.out) (Kd.R_typed (kR HO_7.out)) (by decide) hg); replace HO_24 := am (Kd.R_over' (kR HO_24.out) (Kd.R_typed (kR HO_7.out)) (by decide) hg); replace HB := am (hb); have HO404 := am (ho); clear HO_7; clear ho hb hg hat))
     repeat (go_quiet (first | ((with_reducible refine gate_builtin (b := .append) (xs := #[.tmp 40, .tmp 48]) rfl ?_); at_builtin; refine Kd.R_append k68 (w0 := w) w.heap.size rfl (.tmp 40) (.tmp 48) 42 68 (.agg #[(.int .i64 0), (.int .i64 0), (.int .i64 0), (.int .i64 0), (.int .i64 0)]) 40 rfl Tryd.underlying42 info68 rfl (by decide) (by omega) u7 x7_1 (⟨rd t385 x26_1, rd t388 x26_1, x8_1, 0, 0⟩ : S68) [.int .i64 (rd t385 x26_1), .int .i64 (rd t388 x26_1), .int .i64 x8_1, .int .i64 0, .int .i64 0] (fun _ => True) (fun _ => False) rfl rfl ?aP (fun _ hk => hk.elim) ?aF ?aO ?aB ?aS ?aL ?_; (case aP => exact k68_mkM _ _ _ (⟨rd t385 x26_1, rd t388 x26_1, x8_1, 0, 0⟩ : S68)); (case aB => exact bB); (case aF => exact (fun _ _ => trivial)); (case aO => exact (kR HO_7.out)); (case aS => exact (below_size bB)); (case aL => have := LMc25.out; omega); intro v403 w28 ho hb hg hat; rw [← Ny402.out] at ho; replace HO_3 := am (Kd.R_over' (kR HO_3.out) (Kd.R_typed (kR HO_7.out)) (by decide) hg); replace HO_5 := am (Kd.R_over' (kR HO_5.out) (Kd.R_typed (kR HO_7.out)) (by decide) hg); replace HO_6 := am (Kd.R_over' (kR HO_6.out) (Kd.R_typed (kR HO_7.out)) (by decide) hg); replace HO_24 := am (Kd.R_over' (kR HO_24.out) (Kd.R_typed (kR HO_7.out)) (by decide) hg); replace HB := am (hb); have HO404 := am (ho); clear HO_7; clear ho hb hg hat)); try go_wp2_with (first | ((with_reducible refine gate_builtin (b := .append) (xs := #[.tmp 40, .tmp 48]) rfl ?_); at_builtin; refine Kd.R_append k68 (w0 := w) w.heap.size rfl (.tmp 40) (.tmp 48) 42 68 (.agg #[(.int .i64 0), (.int .i64 0), (.int .i64 0), (.int .i64 0), (.int .i64 0)]) 40 rfl Tryd.underlying42 info68 rfl (by decide) (by omega) u7 x7_1 (⟨rd t385 x26_1, rd t388 x26_1, x8_1, 0, 0⟩ : S68) [.int .i64 (rd t385 x26_1), .int .i64 (rd t388 x26_1), .int .i64 x8_1, .int .i64 0, .int .i64 0] (fun _ => True) (fun _ => False) rfl rfl ?aP (fun _ hk => hk.elim) ?aF ?aO ?aB ?aS ?aL ?_; (case aP => exact k68_mkM _ _ _ (⟨rd t385 x26_1, rd t388 x26_1, x8_1, 0, 0⟩ : S68)); (case aB => exact bB); (case aF => exact (fun _ _ => trivial)); (case aO => exact (kR HO_7.out)); (case aS => exact (below_size bB)); (case aL => have := LMc25.out; omega); intro v403 w28 ho hb hg hat; rw [← Ny402.out] at ho; replace HO_3 := am (Kd.R_over' (kR HO_3.out) (Kd.R_typed (kR HO_7.out)) (by decide) hg); replace HO_5 := am (Kd.R_over' (kR HO_5.out) (Kd.R_typed (kR HO_7.out)) (by decide) hg); replace HO_6 := am (Kd.R_over' (kR HO_6.out) (Kd.R_typed (kR HO_7.out)) (by decide) hg); replace HO_24 := am (Kd.R_over' (kR HO_24.out) (Kd.R_typed (kR HO_7.out)) (by decide) hg); replace HB := am (hb); have HO404 := am (ho); clear HO_7; clear ho hb hg hat)))
     go_roundg k1
     case measure => have := HK1.out; omega
     case rel => exact ⟨(y402), (x8_1), (wrap64 (x26_1 + 1)), sr, sr, H', ⟨kl⟩, ⟨kR HO_3.out⟩, ⟨kR HO_5.out⟩, ⟨kR HO_6.out⟩, ⟨kR HO404.out⟩, ⟨kR HO_24.out⟩, ⟨bB⟩⟩
    subst c17
    replace H := iT H
    replace H := iteN H
    obtain ⟨c18, H⟩ := H
    have c18b0 : decide (x26_1 < (t382.length : Int)) = true := decide_eq_true c18
    clear c18
    replace H := iteN H
    obtain ⟨c19, H⟩ := H
    have c19b0 : decide (x26_1 < (t388.length : Int)) = true := decide_eq_true c19
    clear c19
    replace H := iteN H
    obtain ⟨c20, H⟩ := H
    have LMc20 := am c20
    clear c20
    obtain ⟨y398, hy398⟩ : ∃ y_ : List (S68), y_ = (x7_1 ++ [(⟨rd t385 x26_1, rd t388 x26_1, (rd_T74 t382 x26_1).f1, 0, 0⟩ : S68)]) := ⟨_, rfl⟩
    replace H : (impl_glyphs.l0 k1 t382 t388 t391 y398 ((rd_T74 t382 x26_1).f1) t385 (t385.length : Int) (wrap64 (x26_1 + 1))) = some r := by first | (rw [hy398]; with_reducible exact H) | (have H2_ := (Option.bind_some _ _).symm.trans H; rw [hy398]; with_reducible exact H2_) | (have H2_ := (Option.bind_some _ _).symm.trans H; with_reducible exact H2_) | with_reducible exact H | (rw [hy398]; exact H) | exact H
    have Ny398 := am hy398
    clear hy398
    have H' := am H
    clear H
    have p394 : 0 ≤ (x26_1 : Int) := od
    have q394 : x26_1 < (t385.length : Int) := od
    obtain ⟨ad394, e394, hx394_0⟩ := Kd.at_int (Kd.R_reads' HO_24.out).2.2 x26_1 p394 q394
    cases e394
    replace p394 := eq_true p394
    replace q394 := eq_true q394
    obtain ⟨Ao21, co21, eo21⟩ := Kd.R_slice HO_6.out
    subst eo21
    have p395 : 0 ≤ (x26_1 : Int) := od
    have q395 : x26_1 < (t391.length : Int) := od
    obtain ⟨ad395, e395, hx395_0⟩ := Kd.at_bool (Kd.R_reads' HO_6.out).2.2 x26_1 p395 q395
    (try rw [← Nbq16.out] at hx395_0)
    cases e395
    replace p395 := eq_true p395
    replace q395 := eq_true q395
    have p396 : 0 ≤ (x26_1 : Int) := od
    have q396 : x26_1 < (t382.length : Int) := od
    obtain ⟨ad396, e396, hx396_0, hx396_1, hx396_2, hx396_3⟩ := at_T74 (Kd.R_reads' HO_3.out).2.2 x26_1 p396 q396
    (try rw [← Nbq16.out] at hx396_3)
    cases e396
    replace p396 := eq_true p396
    replace q396 := eq_true q396
    obtain ⟨Ao22, co22, eo22⟩ := Kd.R_slice HO_5.out
    subst eo22
    have p397 : 0 ≤ (x26_1 : Int) := od
    have q397 : x26_1 < (t388.length : Int) := od
    obtain ⟨ad397, e397, hx397_0⟩ := Kd.at_int (Kd.R_reads' HO_5.out).2.2 x26_1 p397 q397
    cases e397
    replace p397 := eq_true p397
    replace q397 := eq_true q397
    go_wp2_with (first | ((with_reducible refine gate_builtin (b := .append) (xs := #[.tmp 40, .tmp 48]) rfl ?_); at_builtin; refine Kd.R_append k68 (w0 := w) w.heap.size rfl (.tmp 40) (.tmp 48) 42 68 (.agg #[(.int .i64 0), (.int .i64 0), (.int .i64 0), (.int .i64 0), (.int .i64 0)]) 40 rfl Tryd.underlying42 info68 rfl (by decide) (by omega) u7 x7_1 (⟨rd t385 x26_1, rd t388 x26_1, (rd_T74 t382 x26_1).f1, 0, 0⟩ : S68) [.int .i64 (rd t385 x26_1), .int .i64 (rd t388 x26_1), .int .i64 ((rd_T74 t382 x26_1).f1), .int .i64 0, .int .i64 0] (fun _ => True) (fun _ => False) rfl rfl ?aP (fun _ hk => hk.elim) ?aF ?aO ?aB ?aS ?aL ?_; (case aP => exact k68_mkM _ _ _ (⟨rd t385 x26_1, rd t388 x26_1, (rd_T74 t382 x26_1).f1, 0, 0⟩ : S68)); (case aB => exact bB); (case aF => exact (fun _ _ => trivial)); (case aO => exact (kR HO_7.out)); (case aS => exact (below_size bB)); (case aL => have := LMc20.out; omega); intro v399 w23 ho hb hg hat; rw [← Ny398.out] at ho; replace HO_3 := am (Kd.R_over' (kR HO_3.out) (Kd.R_typed (kR HO_7.out)) (by decide) hg); replace HO_5 := am (Kd.R_over' (kR HO_5.out) (Kd.R_typed (kR HO_7.out)) (by decide) hg); replace HO_6 := am (Kd.R_over' (kR HO_6.out) (Kd.R_typed (kR HO_7.out)) (by decide) hg); replace HO_24 := am (Kd.R_over' (kR HO_24.out) (Kd.R_typed (kR HO_7.out)) (by decide) hg); replace HB := am (hb); have HO400 := am (ho); clear HO_7; clear ho hb hg hat))
    repeat (go_quiet (first | ((with_reducible refine gate_builtin (b := .append) (xs := #[.tmp 40, .tmp 48]) rfl ?_); at_builtin; refine Kd.R_append k68 (w0 := w) w.heap.size rfl (.tmp 40) (.tmp 48) 42 68 (.agg #[(.int .i64 0), (.int .i64 0), (.int .i64 0), (.int .i64 0), (.int .i64 0)]) 40 rfl Tryd.underlying42 info68 rfl (by decide) (by omega) u7 x7_1 (⟨rd t385 x26_1, rd t388 x26_1, (rd_T74 t382 x26_1).f1, 0, 0⟩ : S68) [.int .i64 (rd t385 x26_1), .int .i64 (rd t388 x26_1), .int .i64 ((rd_T74 t382 x26_1).f1), .int .i64 0, .int .i64 0] (fun _ => True) (fun _ => False) rfl rfl ?aP (fun _ hk => hk.elim) ?aF ?aO ?aB ?aS ?aL ?_; (case aP => exact k68_mkM _ _ _ (⟨rd t385 x26_1, rd t388 x26_1, (rd_T74 t382 x26_1).f1, 0, 0⟩ : S68)); (case aB => exact bB); (case aF => exact (fun _ _ => trivial)); (case aO => exact (kR HO_7.out)); (case aS => exact (below_size bB)); (case aL => have := LMc20.out; omega); intro v399 w23 ho hb hg hat; rw [← Ny398.out] at ho; replace HO_3 := am (Kd.R_over' (kR HO_3.out) (Kd.R_typed (kR HO_7.out)) (by decide) hg); replace HO_5 := am (Kd.R_over' (kR HO_5.out) (Kd.R_typed (kR HO_7.out)) (by decide) hg); replace HO_6 := am (Kd.R_over' (kR HO_6.out) (Kd.R_typed (kR HO_7.out)) (by decide) hg); replace HO_24 := am (Kd.R_over' (kR HO_24.out) (Kd.R_typed (kR HO_7.out)) (by decide) hg); replace HB := am (hb); have HO400 := am (ho); clear HO_7; clear ho hb hg hat)); try go_wp2_with (first | ((with_reducible refine gate_builtin (b := .append) (xs := #[.tmp 40, .tmp 48]) rfl ?_); at_builtin; refine Kd.R_append k68 (w0 := w) w.heap.size rfl (.tmp 40) (.tmp 48) 42 68 (.agg #[(.int .i64 0), (.int .i64 0), (.int .i64 0), (.int .i64 0), (.int .i64 0)]) 40 rfl Tryd.underlying42 info68 rfl (by decide) (by omega) u7 x7_1 (⟨rd t385 x26_1, rd t388 x26_1, (rd_T74 t382 x26_1).f1, 0, 0⟩ : S68) [.int .i64 (rd t385 x26_1), .int .i64 (rd t388 x26_1), .int .i64 ((rd_T74 t382 x26_1).f1), .int .i64 0, .int .i64 0] (fun _ => True) (fun _ => False) rfl rfl ?aP (fun _ hk => hk.elim) ?aF ?aO ?aB ?aS ?aL ?_; (case aP => exact k68_mkM _ _ _ (⟨rd t385 x26_1, rd t388 x26_1, (rd_T74 t382 x26_1).f1, 0, 0⟩ : S68)); (case aB => exact bB); (case aF => exact (fun _ _ => trivial)); (case aO => exact (kR HO_7.out)); (case aS => exact (below_size bB)); (case aL => have := LMc20.out; omega); intro v399 w23 ho hb hg hat; rw [← Ny398.out] at ho; replace HO_3 := am (Kd.R_over' (kR HO_3.out) (Kd.R_typed (kR HO_7.out)) (by decide) hg); replace HO_5 := am (Kd.R_over' (kR HO_5.out) (Kd.R_typed (kR HO_7.out)) (by decide) hg); replace HO_6 := am (Kd.R_over' (kR HO_6.out) (Kd.R_typed (kR HO_7.out)) (by decide) hg); replace HO_24 := am (Kd.R_over' (kR HO_24.out) (Kd.R_typed (kR HO_7.out)) (by decide) hg); replace HB := am (hb); have HO400 := am (ho); clear HO_7; clear ho hb hg hat)))
    go_roundg k1
    case measure => have := HK1.out; omega
    case rel => exact ⟨(y398), ((rd_T74 t382 x26_1).f1), (wrap64 (x26_1 + 1)), sr, sr, H', ⟨kl⟩, ⟨kR HO_3.out⟩, ⟨kR HO_5.out⟩, ⟨kR HO_6.out⟩, ⟨kR HO400.out⟩, ⟨kR HO_24.out⟩, ⟨bB⟩⟩
   rw [if_neg c12] at H
   have c12b0 : decide (x26_1 < (t385.length : Int)) = false := decide_eq_false c12
   clear c12
   have H' := am H
   clear H
   obtain ⟨Ao29, co29, eo29⟩ := Kd.R_slice HO_7.out
   subst eo29
   go_wp2
   repeat (go_quiet (fail); try go_wp2)
   go_loopg [53] k1 (fun kq v53 w' => ∃ (x7_2 : List (S68)) (x53_2 : Int), v53 = .int .i64 x53_2 ∧ Aside0 (impl_glyphs.l1 kq x7_2 (x7_1.length : Int) x53_2 = some r) ∧ Aside0 (kq ≤ k1) ∧ Aside0 (Kd.R k68 68 w' w.heap.size (fun _ => True) (.slice Ao29 x7_1.length co29) x7_2) ∧ Aside0 (Below w.heap.size w w'))
   case atStart => exact ⟨(x7_1), (0), sr, H', ⟨Nat.le_refl _⟩, ⟨kR HO_7.out⟩, ⟨bB⟩⟩
   case round =>
    clear H'
    try clear c12b0
    obtain ⟨x7_2, x53_2, rfl, HA, HK2, HO_7, HB⟩ := hrel
    have hl7_2 := (Kd.R_reads' HO_7.out).1
    rw [hl7_2] at HO_7
    (try simp only [hl7_2])
    cases gk with
    | zero => exact absurd HA.out (by simp [impl_glyphs.l1])
    | succ k2 =>
     have H := HA.out
     clear HA
     simp only [impl_glyphs.l1] at H
     by_cases c30 : x53_2 < (x7_1.length : Int)
     rotate_left
     ·rw [if_neg c30] at H
      have c30b0 : decide (x53_2 < (x7_1.length : Int)) = false := decide_eq_false c30
      (try simp only [hl7_2] at c30b0)
      clear c30
      obtain rfl := Option.some.inj H
      go_wp2
      repeat (go_quiet (fail); try go_wp2)
      go_ret
      exact ⟨_, rv, kR HO_7.out, bB⟩
     rw [if_pos c30] at H
     have c30b0 : decide (x53_2 < (x7_1.length : Int)) = true := decide_eq_true c30
     (try simp only [hl7_2] at c30b0)
     clear c30
     replace H := iteN H
     obtain ⟨c31, H⟩ := H
     have c31b0 : decide (0 ≤ x53_2) = true := decide_eq_true c31
     clear c31
     replace H := iteN H
     obtain ⟨c32, H⟩ := H
     have c32b0 : decide (x53_2 < (x7_2.length : Int)) = true := decide_eq_true c32
     clear c32
     have HC33 := am H
     clear H
     have p405 : 0 ≤ (x53_2 : Int) := od
     have q405 : x53_2 < (x7_2.length : Int) := od
     obtain ⟨ad405, e405, hx405_0, hx405_1, hx405_2, hx405_3, hx405_4⟩ := at_T68 (Kd.R_reads' HO_7.out).2.2 x53_2 p405 q405
     cases e405
     replace p405 := eq_true p405
     replace q405 := eq_true q405
     go_upto_region 17 with (fail)
     repeat (go_quiet (fail); go_upto_region 17 with (fail))
     go_cut [68] (fun v68 wc => ∃ (kq : Nat) (x68_32 : Bool), v68 = .bool x68_32 ∧ Aside0 (impl_glyphs.j2 kq x7_2 x53_2 (x7_1.length : Int) x53_2 x68_32 = some r) ∧ Aside0 (kq ≤ k2) ∧ Aside0 (Kd.R k68 68 wc w.heap.size (fun _ => True) (.slice (some ad405) x7_2.length co29) x7_2) ∧ Aside0 (Below w.heap.size w wc))
     case first =>
      have H := HC33.out
      clear HC33
      obtain ⟨t406, A34, H⟩ := bb H
      by_cases c35 : t406 = true
      ·subst c35
       replace H := iT H
       have H' := am H
       clear H
       go_wp2_with (first | (go_at_call 99; (with_reducible refine (impl_in.calls ((rd_T68 x7_2 x53_2).f0) 1568 1579 true _ A34.out).mono ?_); rintro e w' ⟨rfl, ⟨nd, rfl⟩⟩; (try first | exact ⟨rfl, _, World.drewN_drewN _ _ _⟩ | exact ⟨rfl, _, Eq.trans (World.drewN_drewN _ _ _) (congrArg (World.drewN _) (Nat.add_assoc _ _ _))⟩)))
       repeat (go_quiet (first | (go_at_call 99; (with_reducible refine (impl_in.calls ((rd_T68 x7_2 x53_2).f0) 1568 1579 true _ A34.out).mono ?_); rintro e w' ⟨rfl, ⟨nd, rfl⟩⟩; (try first | exact ⟨rfl, _, World.drewN_drewN _ _ _⟩ | exact ⟨rfl, _, Eq.trans (World.drewN_drewN _ _ _) (congrArg (World.drewN _) (Nat.add_assoc _ _ _))⟩))); try go_wp2_with (first | (go_at_call 99; (with_reducible refine (impl_in.calls ((rd_T68 x7_2 x53_2).f0) 1568 1579 true _ A34.out).mono ?_); rintro e w' ⟨rfl, ⟨nd, rfl⟩⟩; (try first | exact ⟨rfl, _, World.drewN_drewN _ _ _⟩ | exact ⟨rfl, _, Eq.trans (World.drewN_drewN _ _ _) (congrArg (World.drewN _) (Nat.add_assoc _ _ _))⟩))))
       go_meet
       case rel => exact ⟨_, (((Int.tmod ((rd_T68 x7_2 x53_2).f0) 2) == 1)), sr, H', ⟨kl⟩, ⟨by (try simp only [hl7_2]); (with_reducible repeat (first | apply Kd.R_alloc | apply Kd.R_drewN | apply Kd.R_drew)); exact HO_7.out⟩, ⟨bB⟩⟩
      replace c35 := Bool.eq_false_iff.mpr c35
      subst c35
      replace H := iF H
      have H' := am H
      clear H
      go_wp2_with (first | (go_at_call 99; (with_reducible refine (impl_in.calls ((rd_T68 x7_2 x53_2).f0) 1568 1579 false _ A34.out).mono ?_); rintro e w' ⟨rfl, ⟨nd, rfl⟩⟩; (try first | exact ⟨rfl, _, World.drewN_drewN _ _ _⟩ | exact ⟨rfl, _, Eq.trans (World.drewN_drewN _ _ _) (congrArg (World.drewN _) (Nat.add_assoc _ _ _))⟩)))
      repeat (go_quiet (first | (go_at_call 99; (with_reducible refine (impl_in.calls ((rd_T68 x7_2 x53_2).f0) 1568 1579 false _ A34.out).mono ?_); rintro e w' ⟨rfl, ⟨nd, rfl⟩⟩; (try first | exact ⟨rfl, _, World.drewN_drewN _ _ _⟩ | exact ⟨rfl, _, Eq.trans (World.drewN_drewN _ _ _) (congrArg (World.drewN _) (Nat.add_assoc _ _ _))⟩))); try go_wp2_with (first | (go_at_call 99; (with_reducible refine (impl_in.calls ((rd_T68 x7_2 x53_2).f0) 1568 1579 false _ A34.out).mono ?_); rintro e w' ⟨rfl, ⟨nd, rfl⟩⟩; (try first | exact ⟨rfl, _, World.drewN_drewN _ _ _⟩ | exact ⟨rfl, _, Eq.trans (World.drewN_drewN _ _ _) (congrArg (World.drewN _) (Nat.add_assoc _ _ _))⟩))))
      go_meet
      case rel => exact ⟨_, (true), sr, H', ⟨kl⟩, ⟨by (try simp only [hl7_2]); (with_reducible repeat (first | apply Kd.R_alloc | apply Kd.R_drewN | apply Kd.R_drew)); exact HO_7.out⟩, ⟨bB⟩⟩
     case rest =>
      clear HC33
      try clear c30b0
      try clear c31b0
      try clear c32b0
      try clear hx405_0
      try clear hx405_1
      try clear hx405_2
      try clear hx405_3
      try clear hx405_4
      try clear p405
      try clear q405
      obtain ⟨kq, x68_32, rfl, HA, HJ32, HO_7, HB⟩ := hcut
      cases kq with
      | zero => exact absurd HA.out (by simp [impl_glyphs.j2])
      | succ kj32 =>
       have H := HA.out
       clear HA
       simp only [impl_glyphs.j2] at H
       by_cases c36 : x68_32 = true
       ·subst c36
        replace H := iT H
        have H' := am H
        clear H
        go_wp2
        repeat (go_quiet (fail); try go_wp2)
        (try simp only [← hl7_2])
        go_roundg kj32
        case measure => have := HK1.out; have := HK2.out; have := HJ32.out; omega
        case rel => exact ⟨(x7_2), (wrap64 (x53_2 + 1)), sr, H', ⟨kl⟩, ⟨by (try simp only [hl7_2]); (with_reducible repeat (first | apply Kd.R_alloc | apply Kd.R_drewN | apply Kd.R_drew)); exact HO_7.out⟩, ⟨bB⟩⟩
       replace c36 := Bool.eq_false_iff.mpr c36
       subst c36
       replace H := iF H
       have HC37 := am H
       clear H
       go_upto_block 4 with (fail)
       repeat (go_quiet (fail); go_upto_block 4 with (fail))
       go_cut [13] (fun v13 wc => ∃ (kq : Nat) (x13_36 : Int), v13 = .int .i64 x13_36 ∧ Aside0 (impl_glyphs.j9 kq x7_2 x53_2 x13_36 (x7_1.length : Int) x53_2 = some r) ∧ Aside0 (kq ≤ kj32) ∧ Aside0 (Kd.R k68 68 wc w.heap.size (fun _ => True) (.slice (some ad405) x7_2.length co29) x7_2) ∧ Aside0 (Below w.heap.size w wc))
       case first =>
        have H := HC37.out
        clear HC37
        have H' := am H
        clear H
        go_wp2
        repeat (go_quiet (fail); try go_wp2)
        go_loopg [13, 14] kj32 (fun kq v13 v14 w' => ∃ (x13_4 : Int) (x14_4 : Int), v13 = .int .i64 x13_4 ∧ v14 = .int .i64 x14_4 ∧ Aside0 (impl_glyphs.l2 kq x7_2 x53_2 x13_4 x14_4 (x7_1.length : Int) x53_2 = some r) ∧ Aside0 (kq ≤ kj32) ∧ Aside0 (Kd.R k68 68 w' w.heap.size (fun _ => True) (.slice (some ad405) x7_2.length co29) x7_2) ∧ Aside0 (Below w.heap.size w w'))
        case atStart => exact ⟨((-1)), (wrap64 (x53_2 - 1)), sr, sr, H', ⟨Nat.le_refl _⟩, ⟨by (try simp only [hl7_2]); (with_reducible repeat (first | apply Kd.R_alloc | apply Kd.R_drewN | apply Kd.R_drew)); exact HO_7.out⟩, ⟨bB⟩⟩
        case round =>
         clear H'
         try clear c36
         obtain ⟨x13_4, x14_4, rfl, rfl, HA, HK4, HO_7, HB⟩ := hrel
         cases gk with
         | zero => exact absurd HA.out (by simp [impl_glyphs.l2])
         | succ k4 =>
          have H := HA.out
          clear HA
          simp only [impl_glyphs.l2] at H
          have H' := am H
          clear H
          go_wp2
          repeat (go_quiet (fail); try go_wp2)
          go_loopg [14] k4 (fun kq v14 w' => ∃ (x14_5 : Int), v14 = .int .i64 x14_5 ∧ Aside0 (impl_glyphs.l3 kq x7_2 x53_2 x13_4 x14_5 (x7_1.length : Int) x53_2 = some r) ∧ Aside0 (kq ≤ k4) ∧ Aside0 (Kd.R k68 68 w' w.heap.size (fun _ => True) (.slice (some ad405) x7_2.length co29) x7_2) ∧ Aside0 (Below w.heap.size w w'))
          case atStart => exact ⟨(x14_4), sr, H', ⟨Nat.le_refl _⟩, ⟨by (try simp only [hl7_2]); (with_reducible repeat (first | apply Kd.R_alloc | apply Kd.R_drewN | apply Kd.R_drew)); exact HO_7.out⟩, ⟨bB⟩⟩
          case round =>
           clear H'
           obtain ⟨x14_5, rfl, HA, HK5, HO_7, HB⟩ := hrel
           cases gk with
           | zero => exact absurd HA.out (by simp [impl_glyphs.l3])
           | succ k5 =>
            have H := HA.out
            clear HA
            simp only [impl_glyphs.l3] at H
            have HC38 := am H
            clear H
            go_upto_region 20 with (fail)
            repeat (go_quiet (fail); go_upto_region 20 with (fail))
            go_cut [88] (fun v88 wc => ∃ (kq : Nat) (x88_37 : Bool), v88 = .bool x88_37 ∧ Aside0 (impl_glyphs.j5 kq x7_2 x53_2 x13_4 x14_5 (x7_1.length : Int) x53_2 x88_37 = some r) ∧ Aside0 (kq ≤ k5) ∧ Aside0 (Kd.R k68 68 wc w.heap.size (fun _ => True) (.slice (some ad405) x7_2.length co29) x7_2) ∧ Aside0 (Below w.heap.size w wc))
            case first =>
             have H := HC38.out
             clear HC38
             by_cases c39 : x14_5 ≥ 0
             rotate_left
             ·rw [if_neg c39] at H
              have c39b0 : decide (0 ≤ x14_5) = false := decide_eq_false c39
              clear c39
              (first | rw [c39b0] | (simp only [i64_w, i32_w]; rw [c39b0]) | skip)
              have H' := am H
              clear H
              go_wp2
              repeat (go_quiet (fail); try go_wp2)
              go_meet
              case rel => exact ⟨_, (false), sr, H', ⟨kl⟩, ⟨by (try simp only [hl7_2]); (with_reducible repeat (first | apply Kd.R_alloc | apply Kd.R_drewN | apply Kd.R_drew)); exact HO_7.out⟩, ⟨bB⟩⟩
             rw [if_pos c39] at H
             have c39b0 : decide (0 ≤ x14_5) = true := decide_eq_true c39
             clear c39
             (first | rw [c39b0] | (simp only [i64_w, i32_w]; rw [c39b0]) | skip)
             replace H := iteN H
             obtain ⟨c40, H⟩ := H
             have c40b0 : decide (0 ≤ x14_5) = true := decide_eq_true c40
             clear c40
             replace H := iteN H
             obtain ⟨c41, H⟩ := H
             have c41b0 : decide (x14_5 < (x7_2.length : Int)) = true := decide_eq_true c41
             clear c41
             by_cases c42 : ((rd_T68 x7_2 x14_5).f0) = 1584
             ·rw [if_pos c42] at H
              have c42b0 : (((rd_T68 x7_2 x14_5).f0) == 1584) = true := beq_iff_eq.mpr c42
              have c42b1 : (((rd_T68 x7_2 x14_5).f0) != 1584) = false := bne_eq_false_iff_eq.mpr c42
              clear c42
              have H' := am H
              clear H
              have p407 : 0 ≤ (x14_5 : Int) := od
              have q407 : x14_5 < (x7_2.length : Int) := od
              obtain ⟨ad407, e407, hx407_0, hx407_1, hx407_2, hx407_3, hx407_4⟩ := at_T68 (Kd.R_reads' HO_7.out).2.2 x14_5 p407 q407
              obtain rfl : ad405 = ad407 := (by injection e407)
              replace p407 := eq_true p407
              replace q407 := eq_true q407
              go_wp2
              repeat (go_quiet (fail); try go_wp2)
              go_meet
              case rel => exact ⟨_, (true), sr, H', ⟨kl⟩, ⟨by (try simp only [hl7_2]); (with_reducible repeat (first | apply Kd.R_alloc | apply Kd.R_drewN | apply Kd.R_drew)); exact HO_7.out⟩, ⟨bB⟩⟩
             rw [if_neg c42] at H
             have c42b0 : (((rd_T68 x7_2 x14_5).f0) == 1584) = false := beq_eq_false_iff_ne.mpr c42
             have c42b1 : (((rd_T68 x7_2 x14_5).f0) != 1584) = true := bne_iff_ne.mpr c42
             have H' := am H
             clear H
             have p407 : 0 ≤ (x14_5 : Int) := od
             have q407 : x14_5 < (x7_2.length : Int) := od
             obtain ⟨ad407, e407, hx407_0, hx407_1, hx407_2, hx407_3, hx407_4⟩ := at_T68 (Kd.R_reads' HO_7.out).2.2 x14_5 p407 q407
             obtain rfl : ad405 = ad407 := (by injection e407)
             replace p407 := eq_true p407
             replace q407 := eq_true q407
             have p408 : 0 ≤ (x14_5 : Int) := od
             have q408 : x14_5 < (x7_2.length : Int) := od
             obtain ⟨ad408, e408, hx408_0, hx408_1, hx408_2, hx408_3, hx408_4⟩ := at_T68 (Kd.R_reads' HO_7.out).2.2 x14_5 p408 q408
             obtain rfl : ad405 = ad408 := (by injection e408)
             replace p408 := eq_true p408
             replace q408 := eq_true q408
             go_wp2
             repeat (go_quiet (fail); try go_wp2)
             go_meet
             case rel => exact ⟨_, ((((rd_T68 x7_2 x14_5).f0) == 1585)), sr, H', ⟨kl⟩, ⟨by (try simp only [hl7_2]); (with_reducible repeat (first | apply Kd.R_alloc | apply Kd.R_drewN | apply Kd.R_drew)); exact HO_7.out⟩, ⟨bB⟩⟩
            case rest =>
             clear HC38
             obtain ⟨kq, x88_37, rfl, HA, HJ37, HO_7, HB⟩ := hcut
             cases kq with
             | zero => exact absurd HA.out (by simp [impl_glyphs.j5])
             | succ kj37 =>
              have H := HA.out
              clear HA
              simp only [impl_glyphs.j5] at H
              by_cases c43 : x88_37 = true
              ·subst c43
               replace H := iT H
               have H' := am H
               clear H
               go_wp2
               repeat (go_quiet (fail); try go_wp2)
               go_roundg kj37
               case measure => have := HK1.out; have := HK2.out; have := HJ32.out; have := HK4.out; have := HK5.out; have := HJ37.out; omega
               case rel => exact ⟨(wrap64 (x14_5 - 1)), sr, H', ⟨kl⟩, ⟨by (try simp only [hl7_2]); (with_reducible repeat (first | apply Kd.R_alloc | apply Kd.R_drewN | apply Kd.R_drew)); exact HO_7.out⟩, ⟨bB⟩⟩
              replace c43 := Bool.eq_false_iff.mpr c43
              subst c43
              replace H := iF H
              have HC44 := am H
              clear H
              go_upto_region 22 with (fail)
              repeat (go_quiet (fail); go_upto_region 22 with (fail))
              go_cut [101] (fun v101 wc => ∃ (kq : Nat) (x101_43 : Bool), v101 = .bool x101_43 ∧ Aside0 (impl_glyphs.j6 kq x7_2 x53_2 x13_4 x14_5 (x7_1.length : Int) x53_2 x101_43 = some r) ∧ Aside0 (kq ≤ kj37) ∧ Aside0 (Kd.R k68 68 wc w.heap.size (fun _ => True) (.slice (some ad405) x7_2.length co29) x7_2) ∧ Aside0 (Below w.heap.size w wc))
              case first =>
               have H := HC44.out
               clear HC44
               by_cases c45 : x14_5 < 0
               ·rw [if_pos c45] at H
                have c45b0 : decide (x14_5 < 0) = true := decide_eq_true c45
                clear c45
                (first | rw [c45b0] | (simp only [i64_w, i32_w]; rw [c45b0]) | skip)
                have H' := am H
                clear H
                go_wp2
                repeat (go_quiet (fail); try go_wp2)
                go_meet
                case rel => exact ⟨_, (true), sr, H', ⟨kl⟩, ⟨by (try simp only [hl7_2]); (with_reducible repeat (first | apply Kd.R_alloc | apply Kd.R_drewN | apply Kd.R_drew)); exact HO_7.out⟩, ⟨bB⟩⟩
               rw [if_neg c45] at H
               have c45b0 : decide (x14_5 < 0) = false := decide_eq_false c45
               clear c45
               (first | rw [c45b0] | (simp only [i64_w, i32_w]; rw [c45b0]) | skip)
               replace H := iteN H
               obtain ⟨c46, H⟩ := H
               have c46b0 : decide (0 ≤ x14_5) = true := decide_eq_true c46
               clear c46
               replace H := iteN H
               obtain ⟨c47, H⟩ := H
               have c47b0 : decide (x14_5 < (x7_2.length : Int)) = true := decide_eq_true c47
               clear c47
               obtain ⟨t410, A48, H⟩ := bb H
               have H' := am H
               clear H
               have p409 : 0 ≤ (x14_5 : Int) := od
               have q409 : x14_5 < (x7_2.length : Int) := od
               obtain ⟨ad409, e409, hx409_0, hx409_1, hx409_2, hx409_3, hx409_4⟩ := at_T68 (Kd.R_reads' HO_7.out).2.2 x14_5 p409 q409
               obtain rfl : ad405 = ad409 := (by injection e409)
               replace p409 := eq_true p409
               replace q409 := eq_true q409
               go_wp2_with (first | (go_at_call 100; (with_reducible refine (impl_consonant.calls ((rd_T68 x7_2 x14_5).f0) t410 _ A48.out).mono ?_); rintro e w' ⟨rfl, ⟨nd, rfl⟩⟩; (try first | exact ⟨rfl, _, World.drewN_drewN _ _ _⟩ | exact ⟨rfl, _, Eq.trans (World.drewN_drewN _ _ _) (congrArg (World.drewN _) (Nat.add_assoc _ _ _))⟩)))
               repeat (go_quiet (first | (go_at_call 100; (with_reducible refine (impl_consonant.calls ((rd_T68 x7_2 x14_5).f0) t410 _ A48.out).mono ?_); rintro e w' ⟨rfl, ⟨nd, rfl⟩⟩; (try first | exact ⟨rfl, _, World.drewN_drewN _ _ _⟩ | exact ⟨rfl, _, Eq.trans (World.drewN_drewN _ _ _) (congrArg (World.drewN _) (Nat.add_assoc _ _ _))⟩))); try go_wp2_with (first | (go_at_call 100; (with_reducible refine (impl_consonant.calls ((rd_T68 x7_2 x14_5).f0) t410 _ A48.out).mono ?_); rintro e w' ⟨rfl, ⟨nd, rfl⟩⟩; (try first | exact ⟨rfl, _, World.drewN_drewN _ _ _⟩ | exact ⟨rfl, _, Eq.trans (World.drewN_drewN _ _ _) (congrArg (World.drewN _) (Nat.add_assoc _ _ _))⟩))))
               go_meet
               case rel => exact ⟨_, (!t410), sr, H', ⟨kl⟩, ⟨by (try simp only [hl7_2]); (with_reducible repeat (first | apply Kd.R_alloc | apply Kd.R_drewN | apply Kd.R_drew)); exact HO_7.out⟩, ⟨bB⟩⟩
              case rest =>
               clear HC44
               try clear c43
               obtain ⟨kq, x101_43, rfl, HA, HJ43, HO_7, HB⟩ := hcut
               cases kq with
               | zero => exact absurd HA.out (by simp [impl_glyphs.j6])
               | succ kj43 =>
                have H := HA.out
                clear HA
                simp only [impl_glyphs.j6] at H
                by_cases c49 : x101_43 = true
                ·subst c49
                 replace H := iT H
                 have H' := am H
                 clear H
                 go_wp2
                 repeat (go_quiet (fail); try go_wp2)
                 go_meet
                 case rel => exact ⟨_, (x13_4), sr, H', ⟨kl⟩, ⟨by (try simp only [hl7_2]); (with_reducible repeat (first | apply Kd.R_alloc | apply Kd.R_drewN | apply Kd.R_drew)); exact HO_7.out⟩, ⟨bB⟩⟩
                replace c49 := Bool.eq_false_iff.mpr c49
                subst c49
                replace H := iF H
                have HC50 := am H
                clear H
                go_upto_block 8 with (fail)
                repeat (go_quiet (fail); go_upto_block 8 with (fail))
                go_cut [14] (fun v14 wc => ∃ (kq : Nat) (x14_49 : Int), v14 = .int .i64 x14_49 ∧ Aside0 (impl_glyphs.j8 kq x7_2 x53_2 x14_5 x14_49 (x7_1.length : Int) x53_2 = some r) ∧ Aside0 (kq ≤ kj43) ∧ Aside0 (Kd.R k68 68 wc w.heap.size (fun _ => True) (.slice (some ad405) x7_2.length co29) x7_2) ∧ Aside0 (Below w.heap.size w wc))
                case first =>
                 have H := HC50.out
                 clear HC50
                 have H' := am H
                 clear H
                 go_wp2
                 repeat (go_quiet (fail); try go_wp2)
                 go_loopg [14] kj43 (fun kq v14 w' => ∃ (x14_8 : Int), v14 = .int .i64 x14_8 ∧ Aside0 (impl_glyphs.l4 kq x7_2 x53_2 x14_5 x14_8 (x7_1.length : Int) x53_2 = some r) ∧ Aside0 (kq ≤ kj43) ∧ Aside0 (Kd.R k68 68 w' w.heap.size (fun _ => True) (.slice (some ad405) x7_2.length co29) x7_2) ∧ Aside0 (Below w.heap.size w w'))
                 case atStart => exact ⟨(wrap64 (x14_5 - 1)), sr, H', ⟨Nat.le_refl _⟩, ⟨by (try simp only [hl7_2]); (with_reducible repeat (first | apply Kd.R_alloc | apply Kd.R_drewN | apply Kd.R_drew)); exact HO_7.out⟩, ⟨bB⟩⟩
                 case round =>
                  clear H'
                  try clear c49
                  obtain ⟨x14_8, rfl, HA, HK8, HO_7, HB⟩ := hrel
                  cases gk with
                  | zero => exact absurd HA.out (by simp [impl_glyphs.l4])
                  | succ k8 =>
                   have H := HA.out
                   clear HA
                   simp only [impl_glyphs.l4] at H
                   by_cases c51 : x14_8 ≥ 0
                   rotate_left
                   ·rw [if_neg c51] at H
                    have c51b0 : decide (0 ≤ x14_8) = false := decide_eq_false c51
                    clear c51
                    (first | rw [c51b0] | (simp only [i64_w, i32_w]; rw [c51b0]) | skip)
                    have H' := am H
                    clear H
                    go_wp2
                    repeat (go_quiet (fail); try go_wp2)
                    go_meet
                    case rel => exact ⟨_, (x14_8), sr, H', ⟨kl⟩, ⟨by (try simp only [hl7_2]); (with_reducible repeat (first | apply Kd.R_alloc | apply Kd.R_drewN | apply Kd.R_drew)); exact HO_7.out⟩, ⟨bB⟩⟩
                   rw [if_pos c51] at H
                   have c51b0 : decide (0 ≤ x14_8) = true := decide_eq_true c51
                   clear c51
                   (first | rw [c51b0] | (simp only [i64_w, i32_w]; rw [c51b0]) | skip)
                   replace H := iteN H
                   obtain ⟨c52, H⟩ := H
                   have c52b0 : decide (0 ≤ x14_8) = true := decide_eq_true c52
                   clear c52
                   replace H := iteN H
                   obtain ⟨c53, H⟩ := H
                   have c53b0 : decide (x14_8 < (x7_2.length : Int)) = true := decide_eq_true c53
                   clear c53
                   by_cases c54 : ((rd_T68 x7_2 x14_8).f0) = 1585
                   rotate_left
                   ·rw [if_neg c54] at H
                    have c54b0 : (((rd_T68 x7_2 x14_8).f0) == 1585) = false := beq_eq_false_iff_ne.mpr c54
                    have c54b1 : (((rd_T68 x7_2 x14_8).f0) != 1585) = true := bne_iff_ne.mpr c54
                    have H' := am H
                    clear H
                    have p411 : 0 ≤ (x14_8 : Int) := od
                    have q411 : x14_8 < (x7_2.length : Int) := od
                    obtain ⟨ad411, e411, hx411_0, hx411_1, hx411_2, hx411_3, hx411_4⟩ := at_T68 (Kd.R_reads' HO_7.out).2.2 x14_8 p411 q411
                    obtain rfl : ad405 = ad411 := (by injection e411)
                    replace p411 := eq_true p411
                    replace q411 := eq_true q411
                    go_wp2
                    repeat (go_quiet (fail); try go_wp2)
                    go_meet
                    case rel => exact ⟨_, (x14_8), sr, H', ⟨kl⟩, ⟨by (try simp only [hl7_2]); (with_reducible repeat (first | apply Kd.R_alloc | apply Kd.R_drewN | apply Kd.R_drew)); exact HO_7.out⟩, ⟨bB⟩⟩
                   rw [if_pos c54] at H
                   have c54b0 : (((rd_T68 x7_2 x14_8).f0) == 1585) = true := beq_iff_eq.mpr c54
                   have c54b1 : (((rd_T68 x7_2 x14_8).f0) != 1585) = false := bne_eq_false_iff_eq.mpr c54
                   clear c54
                   have H' := am H
                   clear H
                   have p411 : 0 ≤ (x14_8 : Int) := od
                   have q411 : x14_8 < (x7_2.length : Int) := od
                   obtain ⟨ad411, e411, hx411_0, hx411_1, hx411_2, hx411_3, hx411_4⟩ := at_T68 (Kd.R_reads' HO_7.out).2.2 x14_8 p411 q411
                   obtain rfl : ad405 = ad411 := (by injection e411)
                   replace p411 := eq_true p411
                   replace q411 := eq_true q411
                   go_wp2
                   repeat (go_quiet (fail); try go_wp2)
                   go_roundg k8
                   case measure => have := HK1.out; have := HK2.out; have := HJ32.out; have := HK4.out; have := HK5.out; have := HJ37.out; have := HJ43.out; have := HK8.out; omega
                   case rel => exact ⟨(wrap64 (x14_8 - 1)), sr, H', ⟨kl⟩, ⟨by (try simp only [hl7_2]); (with_reducible repeat (first | apply Kd.R_alloc | apply Kd.R_drewN | apply Kd.R_drew)); exact HO_7.out⟩, ⟨bB⟩⟩
                case rest =>
                 clear HC50
                 try clear c49
                 obtain ⟨kq, x14_49, rfl, HA, HJ49, HO_7, HB⟩ := hcut
                 cases kq with
                 | zero => exact absurd HA.out (by simp [impl_glyphs.j8])
                 | succ kj49 =>
                  have H := HA.out
                  clear HA
                  simp only [impl_glyphs.j8] at H
                  by_cases c55 : x14_49 < 0
                  ·rw [if_pos c55] at H
                   have c55b0 : decide (x14_49 < 0) = true := decide_eq_true c55
                   clear c55
                   have H' := am H
                   clear H
                   go_wp2
                   repeat (go_quiet (fail); try go_wp2)
                   go_meet
                   case rel => exact ⟨_, (x14_5), sr, H', ⟨kl⟩, ⟨by (try simp only [hl7_2]); (with_reducible repeat (first | apply Kd.R_alloc | apply Kd.R_drewN | apply Kd.R_drew)); exact HO_7.out⟩, ⟨bB⟩⟩
                  rw [if_neg c55] at H
                  have c55b0 : decide (x14_49 < 0) = false := decide_eq_false c55
                  clear c55
                  replace H := iteN H
                  obtain ⟨c56, H⟩ := H
                  have c56b0 : decide (0 ≤ x14_49) = true := decide_eq_true c56
                  clear c56
                  replace H := iteN H
                  obtain ⟨c57, H⟩ := H
                  have c57b0 : decide (x14_49 < (x7_2.length : Int)) = true := decide_eq_true c57
                  clear c57
                  by_cases c58 : ((rd_T68 x7_2 x14_49).f0) = 1584
                  rotate_left
                  ·rw [if_neg c58] at H
                   have c58b0 : (((rd_T68 x7_2 x14_49).f0) == 1584) = false := beq_eq_false_iff_ne.mpr c58
                   have c58b1 : (((rd_T68 x7_2 x14_49).f0) != 1584) = true := bne_iff_ne.mpr c58
                   have H' := am H
                   clear H
                   have p412 : 0 ≤ (x14_49 : Int) := od
                   have q412 : x14_49 < (x7_2.length : Int) := od
                   obtain ⟨ad412, e412, hx412_0, hx412_1, hx412_2, hx412_3, hx412_4⟩ := at_T68 (Kd.R_reads' HO_7.out).2.2 x14_49 p412 q412
                   obtain rfl : ad405 = ad412 := (by injection e412)
                   replace p412 := eq_true p412
                   replace q412 := eq_true q412
                   go_wp2
                   repeat (go_quiet (fail); try go_wp2)
                   go_meet
                   case rel => exact ⟨_, (x14_5), sr, H', ⟨kl⟩, ⟨by (try simp only [hl7_2]); (with_reducible repeat (first | apply Kd.R_alloc | apply Kd.R_drewN | apply Kd.R_drew)); exact HO_7.out⟩, ⟨bB⟩⟩
                  rw [if_pos c58] at H
                  have c58b0 : (((rd_T68 x7_2 x14_49).f0) == 1584) = true := beq_iff_eq.mpr c58
                  have c58b1 : (((rd_T68 x7_2 x14_49).f0) != 1584) = false := bne_eq_false_iff_eq.mpr c58
                  clear c58
                  have H' := am H
                  clear H
                  have p412 : 0 ≤ (x14_49 : Int) := od
                  have q412 : x14_49 < (x7_2.length : Int) := od
                  obtain ⟨ad412, e412, hx412_0, hx412_1, hx412_2, hx412_3, hx412_4⟩ := at_T68 (Kd.R_reads' HO_7.out).2.2 x14_49 p412 q412
                  obtain rfl : ad405 = ad412 := (by injection e412)
                  replace p412 := eq_true p412
                  replace q412 := eq_true q412
                  go_wp2
                  repeat (go_quiet (fail); try go_wp2)
                  go_roundg kj49
                  case measure => have := HK1.out; have := HK2.out; have := HJ32.out; have := HK4.out; have := HK5.out; have := HJ37.out; have := HJ43.out; have := HJ49.out; omega
                  case rel => exact ⟨(x14_5), (x14_49), sr, sr, H', ⟨kl⟩, ⟨by (try simp only [hl7_2]); (with_reducible repeat (first | apply Kd.R_alloc | apply Kd.R_drewN | apply Kd.R_drew)); exact HO_7.out⟩, ⟨bB⟩⟩
       case rest =>
        clear HC37
        try clear c36
        obtain ⟨kq, x13_36, rfl, HA, HJ36, HO_7, HB⟩ := hcut
        cases kq with
        | zero => exact absurd HA.out (by simp [impl_glyphs.j9])
        | succ kj36 =>
         have H := HA.out
         clear HA
         simp only [impl_glyphs.j9] at H
         by_cases c59 : x13_36 ≥ 0
         rotate_left
         ·rw [if_neg c59] at H
          have c59b0 : decide (0 ≤ x13_36) = false := decide_eq_false c59
          clear c59
          have H' := am H
          clear H
          go_wp2
          repeat (go_quiet (fail); try go_wp2)
          (try simp only [← hl7_2])
          go_roundg kj36
          case measure => have := HK1.out; have := HK2.out; have := HJ32.out; have := HJ36.out; omega
          case rel => exact ⟨(x7_2), (wrap64 (x53_2 + 1)), sr, H', ⟨kl⟩, ⟨by (try simp only [hl7_2]); (with_reducible repeat (first | apply Kd.R_alloc | apply Kd.R_drewN | apply Kd.R_drew)); exact HO_7.out⟩, ⟨bB⟩⟩
         rw [if_pos c59] at H
         have c59b0 : decide (0 ≤ x13_36) = true := decide_eq_true c59
         clear c59
         replace H := iteN H
         obtain ⟨c60, H⟩ := H
         have c60b0 : decide (0 ≤ x53_2) = true := decide_eq_true c60
         clear c60
         replace H := iteN H
         obtain ⟨c61, H⟩ := H
         have c61b0 : decide (x53_2 < (x7_2.length : Int)) = true := decide_eq_true c61
         clear c61
         obtain ⟨ji62, hji62⟩ : ∃ j_ : Int, (wrap64 (x13_36 + 1)) = j_ := ⟨_, rfl⟩
         replace H : (if 0 ≤ (ji62) then (if (ji62) ≤ (wrap64 (x53_2 + 1)) then (if (wrap64 (x53_2 + 1)) ≤ (x7_2.length : Int) then (if 0 ≤ x13_36 then (if x13_36 ≤ x53_2 then (if x53_2 ≤ (x7_2.length : Int) then (if x13_36 < (x7_2.length : Int) then (impl_glyphs.l1 kj36 ((GlyW.mvL x7_2 (x13_36 : Int).toNat (x53_2 : Int).toNat).set (x13_36 : Int).toNat (⟨(rd_T68 x7_2 x53_2).f0, (rd_T68 x7_2 x53_2).f1, (rd_T68 x7_2 x53_2).f2, (rd_T68 x7_2 x53_2).f3, (rd_T68 x7_2 x53_2).f4⟩ : S68)) (x7_1.length : Int) (wrap64 (x53_2 + 1))) else (none)) else (none)) else (none)) else (none)) else (none)) else (none)) else (none)) = some r := by first | (rw [hji62] at H; exact H) | (simp only [hji62] at H ⊢; exact H)
         have hji62w : (IntKind.i64.wrap (x13_36 + 1)) = ji62 := (i64_w _).trans hji62
         replace H := iteN H
         obtain ⟨c63, H⟩ := H
         have c63b0 := eq_true c63
         have c63b1 : decide (0 ≤ (ji62)) = true := decide_eq_true c63
         clear c63
         replace H := iteN H
         obtain ⟨c64, H⟩ := H
         have c64b0 := eq_true c64
         have c64b1 : decide ((ji62) ≤ (wrap64 (x53_2 + 1))) = true := decide_eq_true c64
         replace H := iteN H
         obtain ⟨c65, H⟩ := H
         have c65b0 := eq_true c65
         have c65b1 : decide ((wrap64 (x53_2 + 1)) ≤ (x7_2.length : Int)) = true := decide_eq_true c65
         obtain ⟨y415, hy415⟩ : ∃ y_ : List (S68), y_ = ((x7_2.take ((wrap64 (x53_2 + 1)) : Int).toNat).drop ((ji62) : Int).toNat) := ⟨_, rfl⟩
         replace H : (if 0 ≤ x13_36 then (if x13_36 ≤ x53_2 then (if x53_2 ≤ (x7_2.length : Int) then (if x13_36 < (x7_2.length : Int) then (impl_glyphs.l1 kj36 ((GlyW.mvL x7_2 (x13_36 : Int).toNat (x53_2 : Int).toNat).set (x13_36 : Int).toNat (⟨(rd_T68 x7_2 x53_2).f0, (rd_T68 x7_2 x53_2).f1, (rd_T68 x7_2 x53_2).f2, (rd_T68 x7_2 x53_2).f3, (rd_T68 x7_2 x53_2).f4⟩ : S68)) (x7_1.length : Int) (wrap64 (x53_2 + 1))) else (none)) else (none)) else (none)) else (none)) = some r := by first | (rw [hy415]; with_reducible exact H) | (have H2_ := (Option.bind_some _ _).symm.trans H; rw [hy415]; with_reducible exact H2_) | (have H2_ := (Option.bind_some _ _).symm.trans H; with_reducible exact H2_) | with_reducible exact H | (rw [hy415]; exact H) | exact H
         have Ny415 := am hy415
         clear hy415
         replace H := iteN H
         obtain ⟨c66, H⟩ := H
         have c66b0 := eq_true c66
         have c66b1 : decide (0 ≤ x13_36) = true := decide_eq_true c66
         clear c66
         replace H := iteN H
         obtain ⟨c67, H⟩ := H
         have c67b0 := eq_true c67
         have c67b1 : decide (x13_36 ≤ x53_2) = true := decide_eq_true c67
         clear c67
         replace H := iteN H
         obtain ⟨c68, H⟩ := H
         have c68b0 := eq_true c68
         have c68b1 : decide (x53_2 ≤ (x7_2.length : Int)) = true := decide_eq_true c68
         clear c68
         obtain ⟨y419, hy419⟩ : ∃ y_ : List (S68), y_ = ((x7_2.take (x53_2 : Int).toNat).drop (x13_36 : Int).toNat) := ⟨_, rfl⟩
         replace H : (if x13_36 < (x7_2.length : Int) then (impl_glyphs.l1 kj36 ((GlyW.mvL x7_2 (x13_36 : Int).toNat (x53_2 : Int).toNat).set (x13_36 : Int).toNat (⟨(rd_T68 x7_2 x53_2).f0, (rd_T68 x7_2 x53_2).f1, (rd_T68 x7_2 x53_2).f2, (rd_T68 x7_2 x53_2).f3, (rd_T68 x7_2 x53_2).f4⟩ : S68)) (x7_1.length : Int) (wrap64 (x53_2 + 1))) else (none)) = some r := by first | (rw [hy419]; with_reducible exact H) | (have H2_ := (Option.bind_some _ _).symm.trans H; rw [hy419]; with_reducible exact H2_) | (have H2_ := (Option.bind_some _ _).symm.trans H; with_reducible exact H2_) | with_reducible exact H | (rw [hy419]; exact H) | exact H
         have Ny419 := am hy419
         clear hy419
         replace H := iteN H
         obtain ⟨c69, H⟩ := H
         have c69b0 : decide (x13_36 < (x7_2.length : Int)) = true := decide_eq_true c69
         clear c69
         obtain ⟨y423, hy423⟩ : ∃ y_ : List (S68), y_ = ((GlyW.mvL x7_2 (x13_36 : Int).toNat (x53_2 : Int).toNat).set (x13_36 : Int).toNat (⟨(rd_T68 x7_2 x53_2).f0, (rd_T68 x7_2 x53_2).f1, (rd_T68 x7_2 x53_2).f2, (rd_T68 x7_2 x53_2).f3, (rd_T68 x7_2 x53_2).f4⟩ : S68)) := ⟨_, rfl⟩
         replace H : (impl_glyphs.l1 kj36 y423 (x7_1.length : Int) (wrap64 (x53_2 + 1))) = some r := by first | (rw [hy423]; with_reducible exact H) | (have H2_ := (Option.bind_some _ _).symm.trans H; rw [hy423]; with_reducible exact H2_) | (have H2_ := (Option.bind_some _ _).symm.trans H; with_reducible exact H2_) | with_reducible exact H | (rw [hy423]; exact H) | exact H
         obtain ⟨xm_, hxm_⟩ : ∃ y_ : List (S68), y_ = GlyW.mvL x7_2 (x13_36 : Int).toNat (x53_2 : Int).toNat := ⟨_, rfl⟩
         rw [← hxm_] at hy423
         have a1_ : x13_36 ≤ x53_2 := of_decide_eq_true (by assumption)
         have a2_ : 0 ≤ x13_36 := of_decide_eq_true (by assumption)
         have a3_ : x53_2 < (x7_2.length : Int) := of_decide_eq_true (by assumption)
         have a4_ : x7_2.length ≤ 9223372036854775807 := (Kd.R_reads' HO_7.out).2.2.2.1
         have a5_ : (wrap64 (x53_2 + 1)) = x53_2 + 1 := GlyW.w64_ (by omega) (by omega)
         have a6_ : ji62 = x13_36 + 1 := by rw [← hji62]; exact GlyW.w64_ (by omega) (by omega)
         have E1_ := am (show ((wrap64 (x53_2 + 1)) : Int).toNat - (ji62 : Int).toNat = (x53_2 : Int).toNat - (x13_36 : Int).toNat from by rw [a5_, a6_]; omega)
         have E2_ := am (show (ji62 : Int).toNat = (x13_36 : Int).toNat + 1 from by rw [a6_]; omega)
         have E3_ := am (show (x13_36 : Int).toNat ≤ (x53_2 : Int).toNat from by omega)
         have E4_ := am (show (x53_2 : Int).toNat < x7_2.length from by omega)
         have Lxm_ := am (show xm_.length = x7_2.length from by rw [hxm_]; exact GlyW.mvL_length x7_2 _ _ (by omega) (by omega))
         have Nxm_ := am hxm_
         clear hxm_ a1_ a2_ a3_ a4_ a5_ a6_
         have Ny423 := am hy423
         clear hy423
         have H' := am H
         clear H
         have p413 : 0 ≤ (x53_2 : Int) := od
         have q413 : x53_2 < (x7_2.length : Int) := od
         obtain ⟨ad413, e413, hx413_0, hx413_1, hx413_2, hx413_3, hx413_4⟩ := at_T68 (Kd.R_reads' HO_7.out).2.2 x53_2 p413 q413
         obtain rfl : ad405 = ad413 := (by injection e413)
         replace p413 := eq_true p413
         replace q413 := eq_true q413
         go_wp2_with (first | ((with_reducible refine gate_dst (N := 15) rfl ?_); refine bx 15 #[.int .i64 0, .int .i64 0, .int .i64 0, .int .i64 0, .int .i64 0] 68 ?_; intro gb414 hg w71 hbox hb; replace HO_7 := am (Kd.R_below (Kd.R_elderB (kR HO_7.out) gb414 (Nat.le_of_eq hg.symm)) hb); have BK414 := am (hbox); have GW414 := am ((by rw [hg]; exact (below_size bB) : w.heap.size ≤ gb414)); have GE414 := am ((by rw [hg]; exact (below_size bB) : w.heap.size ≤ gb414)); replace HB := am (below_step bB hb); clear hb hbox hg; have hcz72_0 := bc BK414.out 0 (.int .i64 0); have hcz72_1 := bc BK414.out 1 (.int .i64 0); have hcz72_2 := bc BK414.out 2 (.int .i64 0); have hcz72_3 := bc BK414.out 3 (.int .i64 0); have hcz72_4 := bc BK414.out 4 (.int .i64 0); have hfz72_0 := blk_frozen BK414.out 0; have hfz72_1 := blk_frozen BK414.out 1; have hfz72_2 := blk_frozen BK414.out 2; have hfz72_3 := blk_frozen BK414.out 3; have hfz72_4 := blk_frozen BK414.out 4) | ((with_reducible refine gate_store (t := 68) (p := 15) rfl ?_); (try (rw [drewN_self w71]; generalize hq_ : World.drewN w71 _ = w71; have n0_ := am (Kd.R_at hq_ HO_7.out); have n1_ := am (blk_at hq_ BK414.out); have n2_ := am (below_at hq_ HB.out); clear hq_ HO_7 BK414 HB; have HO_7 := n0_; have BK414 := n1_; have HB := n2_; clear n0_ n1_ n2_)); refine store_event (t := 68) (p := 15) (v := ?vo_w73) (w1 := (((((w71.setCell ⟨gb414, 0, none⟩ (.int .i64 ((rd_T68 x7_2 x53_2).f0))).setCell ⟨gb414, 1, none⟩ (.int .i64 ((rd_T68 x7_2 x53_2).f1))).setCell ⟨gb414, 2, none⟩ (.int .i64 ((rd_T68 x7_2 x53_2).f2))).setCell ⟨gb414, 3, none⟩ (.int .i64 ((rd_T68 x7_2 x53_2).f3))).setCell ⟨gb414, 4, none⟩ (.int .i64 ((rd_T68 x7_2 x53_2).f4)))) ?hg ?ho ?hn ?hr ?_; (case ho => rfl); (case hg => rfl); (case hn => rfl); (case hr => first | (go_simp; done) | (go_simp; rfl)); intro w73 hw; have n0_ : Aside0 (Kd.R k68 68 w73 w.heap.size (fun k_ => k_ ≠ gb414) (.slice (some ad405) x7_2.length co29) x7_2) := ⟨(by rw [hw]; exact (kR (Kd.R_mono (Kd.R_far (p := ⟨gb414, 4, none⟩) (Kd.R_far (p := ⟨gb414, 3, none⟩) (Kd.R_far (p := ⟨gb414, 2, none⟩) (Kd.R_far (p := ⟨gb414, 1, none⟩) (Kd.R_far (p := ⟨gb414, 0, none⟩) (Kd.R_mono HO_7.out (fun k_ hk => (⟨hk, hk.2⟩ : _ ∧ k_ ≠ gb414))) (fun _ hk => hk.2) (.int .i64 ((rd_T68 x7_2 x53_2).f0))) (fun _ hk => hk.2) (.int .i64 ((rd_T68 x7_2 x53_2).f1))) (fun _ hk => hk.2) (.int .i64 ((rd_T68 x7_2 x53_2).f2))) (fun _ hk => hk.2) (.int .i64 ((rd_T68 x7_2 x53_2).f3))) (fun _ hk => hk.2) (.int .i64 ((rd_T68 x7_2 x53_2).f4))) (fun _ hk => hk.1.2))))⟩; have n1_ : Aside0 (w73.heap[gb414]? = some (.cells #[.int .i64 ((rd_T68 x7_2 x53_2).f0), .int .i64 ((rd_T68 x7_2 x53_2).f1), .int .i64 ((rd_T68 x7_2 x53_2).f2), .int .i64 ((rd_T68 x7_2 x53_2).f3), .int .i64 ((rd_T68 x7_2 x53_2).f4)] 68 (0, 0))) := ⟨(by rw [hw]; exact (by (with_reducible repeat (first | refine blk_drewN ?_ _ | refine blk_drew ?_ | refine blk_alloc ?_ _)); refine blk_put (cs := #[.int .i64 ((rd_T68 x7_2 x53_2).f0), .int .i64 ((rd_T68 x7_2 x53_2).f1), .int .i64 ((rd_T68 x7_2 x53_2).f2), .int .i64 ((rd_T68 x7_2 x53_2).f3), .int .i64 0]) ?_ 4 _ rfl; (with_reducible repeat (first | refine blk_drewN ?_ _ | refine blk_drew ?_ | refine blk_alloc ?_ _)); refine blk_put (cs := #[.int .i64 ((rd_T68 x7_2 x53_2).f0), .int .i64 ((rd_T68 x7_2 x53_2).f1), .int .i64 ((rd_T68 x7_2 x53_2).f2), .int .i64 0, .int .i64 0]) ?_ 3 _ rfl; (with_reducible repeat (first | refine blk_drewN ?_ _ | refine blk_drew ?_ | refine blk_alloc ?_ _)); refine blk_put (cs := #[.int .i64 ((rd_T68 x7_2 x53_2).f0), .int .i64 ((rd_T68 x7_2 x53_2).f1), .int .i64 0, .int .i64 0, .int .i64 0]) ?_ 2 _ rfl; (with_reducible repeat (first | refine blk_drewN ?_ _ | refine blk_drew ?_ | refine blk_alloc ?_ _)); refine blk_put (cs := #[.int .i64 ((rd_T68 x7_2 x53_2).f0), .int .i64 0, .int .i64 0, .int .i64 0, .int .i64 0]) ?_ 1 _ rfl; (with_reducible repeat (first | refine blk_drewN ?_ _ | refine blk_drew ?_ | refine blk_alloc ?_ _)); refine blk_put (cs := #[.int .i64 0, .int .i64 0, .int .i64 0, .int .i64 0, .int .i64 0]) ?_ 0 _ rfl; (with_reducible repeat (first | refine blk_drewN ?_ _ | refine blk_drew ?_ | refine blk_alloc ?_ _)); exact BK414.out))⟩; have n2_ : Aside0 (Below w.heap.size w w73) := ⟨(by rw [hw]; exact bS)⟩; clear hw; clear HO_7; clear BK414; clear HB; have HO_7 := n0_; have BK414 := n1_; have HB := n2_; clear n0_ n1_ n2_; have q74 : ((wrap64 (x53_2 + 1)) : Int) ≤ ((x7_2.length : Int) : Int) := od; obtain ⟨i074, hi074, _, hsz74, _⟩ := info_parts info68; have hroom74 : x7_2.length ≤ co29 := (Kd.R_reads' HO_7.out).2.1; have hC74 : Kd.C k68 _ (some ad405) x7_2.length x7_2 := (Kd.R_reads' HO_7.out).2.2; have ql74 : ((ji62) : Int) ≤ ((wrap64 (x53_2 + 1)) : Int) := od; have q074 : (0 : Int) ≤ ((ji62) : Int) := od; have hcut74 := cut_mid (P := Tryd.prog) 42 68 .i64 .i64 Tryd.underlying42 hi074 5 hsz74 (some ad405) x7_2.length co29 (ji62) (wrap64 (x53_2 + 1)) q074 ql74 q74 hroom74; have hr74 := Kd.C_mid (lo := ((ji62) : Int).toNat) (hi := ((wrap64 (x53_2 + 1)) : Int).toNat) (c := co29) hC74 (by omega) (by omega) hroom74; obtain ⟨A74, hA74⟩ : ∃ A1, A1 = (if co29 = ((ji62) : Int).toNat then (some ad405) else ((some ad405) : Option Addr).map (·.add (((ji62) : Int).toNat * 5))) := ⟨_, rfl⟩; obtain ⟨c74, hc74⟩ : ∃ c1, c1 = co29 - ((ji62) : Int).toNat := ⟨_, rfl⟩; have hy74 : y415.length = ((wrap64 (x53_2 + 1)) : Int).toNat - ((ji62) : Int).toNat := (by rw [Ny415.out, List.length_drop, List.length_take] <;> omega); rw [show ((x7_2).take ((wrap64 (x53_2 + 1)) : Int).toNat).drop ((ji62) : Int).toNat = y415 from Ny415.out.symm] at hr74; replace hr74 : Kd.C k68 _ A74 y415.length y415 := (by rw [hA74]; exact hr74); rw [← hy74, ← hA74, ← hc74] at hcut74; have HR418 := am hr74; have HC418 := am (show y415.length ≤ c74 from by rw [hy74, hc74]; exact Nat.sub_le_sub_right (Nat.le_trans (by omega) hroom74) _); clear hr74 hC74 hroom74 hi074 hsz74 hc74; have KY74 := am hy74; have KA74 := am hA74; clear hy74 hA74; have KL74 := am (show ((wrap64 (x53_2 + 1)) : Int).toNat ≤ x7_2.length from by omega); have KM74 := am (show ((ji62) : Int).toNat ≤ ((wrap64 (x53_2 + 1)) : Int).toNat from by omega); replace q74 := eq_true q74; have q75 : (x53_2 : Int) ≤ ((x7_2.length : Int) : Int) := od; obtain ⟨i075, hi075, _, hsz75, _⟩ := info_parts info68; have hroom75 : x7_2.length ≤ co29 := (Kd.R_reads' HO_7.out).2.1; have hC75 : Kd.C k68 _ (some ad405) x7_2.length x7_2 := (Kd.R_reads' HO_7.out).2.2; have ql75 : (x13_36 : Int) ≤ (x53_2 : Int) := od; have q075 : (0 : Int) ≤ (x13_36 : Int) := od; have hcut75 := cut_mid (P := Tryd.prog) 42 68 .i64 .i64 Tryd.underlying42 hi075 5 hsz75 (some ad405) x7_2.length co29 x13_36 x53_2 q075 ql75 q75 hroom75; have hr75 := Kd.C_mid (lo := (x13_36 : Int).toNat) (hi := (x53_2 : Int).toNat) (c := co29) hC75 (by omega) (by omega) hroom75; obtain ⟨A75, hA75⟩ : ∃ A1, A1 = (if co29 = (x13_36 : Int).toNat then (some ad405) else ((some ad405) : Option Addr).map (·.add ((x13_36 : Int).toNat * 5))) := ⟨_, rfl⟩; obtain ⟨c75, hc75⟩ : ∃ c1, c1 = co29 - (x13_36 : Int).toNat := ⟨_, rfl⟩; have hy75 : y419.length = (x53_2 : Int).toNat - (x13_36 : Int).toNat := (by rw [Ny419.out, List.length_drop, List.length_take] <;> omega); rw [show ((x7_2).take (x53_2 : Int).toNat).drop (x13_36 : Int).toNat = y419 from Ny419.out.symm] at hr75; replace hr75 : Kd.C k68 _ A75 y419.length y419 := (by rw [hA75]; exact hr75); rw [← hy75, ← hA75, ← hc75] at hcut75; have HR422 := am hr75; have HC422 := am (show y419.length ≤ c75 from by rw [hy75, hc75]; exact Nat.sub_le_sub_right (Nat.le_trans (by omega) hroom75) _); clear hr75 hC75 hroom75 hi075 hsz75 hc75; have KY75 := am hy75; have KA75 := am hA75; clear hy75 hA75; have KL75 := am (show (x53_2 : Int).toNat ≤ x7_2.length from by omega); have KM75 := am (show (x13_36 : Int).toNat ≤ (x53_2 : Int).toNat from by omega); replace q75 := eq_true q75; rw [← i64_w] at hcut74))
         go_still_tail 10, (by kernel_rfl)
         go_wp2_with (first | ((with_reducible refine gate_dst (N := 143) rfl ?_); refine GlyW.copy_self k68 w.heap.size 143 (e := 68) ?hinfo ?ht (Kd.R_drew HO_7.out) (below_drew1 HB.out) (below_size (below_drew1 HB.out)) (x13_36 : Int).toNat (x53_2 : Int).toNat E3_.out E4_.out (A1 := A74) (A2 := A75) (n1 := _) (n2 := _) (c1 := c74) (c2 := c75) (KY74.out.trans E1_.out) KY75.out (by rw [KA74.out, E2_.out]; rfl) (by rw [KA75.out]; rfl) ?hs ?hx ?_; (case hinfo => kernel_rfl); (case ht => exact Tryd.underlying42); (case hs => rfl); (case hx => rfl); intro w73 hr_ hB_ hg_; have n0_ : Aside0 (Kd.R k68 68 w73 w.heap.size (fun k_ => k_ ≠ gb414) (.slice (some ad405) x7_2.length co29) xm_) := ⟨by rw [Nxm_.out]; exact hr_⟩; have n1_ : Aside0 (w73.heap[gb414]? = some (.cells #[.int .i64 ((rd_T68 x7_2 x53_2).f0), .int .i64 ((rd_T68 x7_2 x53_2).f1), .int .i64 ((rd_T68 x7_2 x53_2).f2), .int .i64 ((rd_T68 x7_2 x53_2).f3), .int .i64 ((rd_T68 x7_2 x53_2).f4)] 68 (0, 0))) := ⟨blk_grown (blk_drew BK414.out) hg_ (Kd.R_away HO_7.out (fun _ hk => hk))⟩; have n2_ := am hB_; clear hr_ hB_ hg_; clear HO_7; clear BK414; clear HB; have HO_7 := n0_; have BK414 := n1_; have HB := n2_; clear n0_ n1_ n2_; have hcz76_0 := bc BK414.out 0 (.int .i64 ((rd_T68 x7_2 x53_2).f0)); have hcz76_1 := bc BK414.out 1 (.int .i64 ((rd_T68 x7_2 x53_2).f1)); have hcz76_2 := bc BK414.out 2 (.int .i64 ((rd_T68 x7_2 x53_2).f2)); have hcz76_3 := bc BK414.out 3 (.int .i64 ((rd_T68 x7_2 x53_2).f3)); have hcz76_4 := bc BK414.out 4 (.int .i64 ((rd_T68 x7_2 x53_2).f4)); have hfz76_0 := blk_frozen BK414.out 0; have hfz76_1 := blk_frozen BK414.out 1; have hfz76_2 := blk_frozen BK414.out 2; have hfz76_3 := blk_frozen BK414.out 3; have hfz76_4 := blk_frozen BK414.out 4; have p70 : 0 ≤ (x13_36 : Int) := od; have q70 : (x13_36 : Int) < ((x7_2.length : Int) : Int) := od; obtain ⟨go70, co70, eo70, gb70, gl70, cl70, HG70⟩ := Kd.R_form HO_7.out (by have := Lxm_.out; omega); (first | cases eo70 | (injection eo70 with ea_ en_ ec_; (first | subst ea_ | (injection ea_ with ea_; subst ea_)); subst ec_; clear en_)); have GB70 := am gb70; have GG70 := am HG70; clear gb70 gl70 HG70; (first | simp only [add_plain] at hx405_0 | skip); (first | simp only [add_plain] at hx405_1 | skip); (first | simp only [add_plain] at hx405_2 | skip); (first | simp only [add_plain] at hx405_3 | skip); (first | simp only [add_plain] at hx405_4 | skip); (first | simp only [add_plain] at hx407_0 | skip); (first | simp only [add_plain] at hx407_1 | skip); (first | simp only [add_plain] at hx407_2 | skip); (first | simp only [add_plain] at hx407_3 | skip); (first | simp only [add_plain] at hx407_4 | skip); (first | simp only [add_plain] at hx408_0 | skip); (first | simp only [add_plain] at hx408_1 | skip); (first | simp only [add_plain] at hx408_2 | skip); (first | simp only [add_plain] at hx408_3 | skip); (first | simp only [add_plain] at hx408_4 | skip); (first | simp only [add_plain] at hx409_0 | skip); (first | simp only [add_plain] at hx409_1 | skip); (first | simp only [add_plain] at hx409_2 | skip); (first | simp only [add_plain] at hx409_3 | skip); (first | simp only [add_plain] at hx409_4 | skip); (first | simp only [add_plain] at hx411_0 | skip); (first | simp only [add_plain] at hx411_1 | skip); (first | simp only [add_plain] at hx411_2 | skip); (first | simp only [add_plain] at hx411_3 | skip); (first | simp only [add_plain] at hx411_4 | skip); (first | simp only [add_plain] at hx412_0 | skip); (first | simp only [add_plain] at hx412_1 | skip); (first | simp only [add_plain] at hx412_2 | skip); (first | simp only [add_plain] at hx412_3 | skip); (first | simp only [add_plain] at hx412_4 | skip); (first | simp only [add_plain] at hx413_0 | skip); (first | simp only [add_plain] at hx413_1 | skip); (first | simp only [add_plain] at hx413_2 | skip); (first | simp only [add_plain] at hx413_3 | skip); (first | simp only [add_plain] at hx413_4 | skip); obtain ⟨ce70, hcl70, hM70, hcc70, hfr70⟩ := Kd.R_elem HO_7.out z68 (x13_36 : Int) p70 q70; obtain rfl := k68_openM hM70; have hx70_0 : w73.cell? ⟨go70, (x13_36 : Int).toNat * 5, none⟩ = some (.int .i64 ((rd_T68 xm_ x13_36).f0)) := hcc70 0 _ rfl; have hx70_1 : w73.cell? ⟨go70, (x13_36 : Int).toNat * 5 + 1, none⟩ = some (.int .i64 ((rd_T68 xm_ x13_36).f1)) := hcc70 1 _ rfl; have hx70_2 : w73.cell? ⟨go70, (x13_36 : Int).toNat * 5 + 2, none⟩ = some (.int .i64 ((rd_T68 xm_ x13_36).f2)) := hcc70 2 _ rfl; have hx70_3 : w73.cell? ⟨go70, (x13_36 : Int).toNat * 5 + 3, none⟩ = some (.int .i64 ((rd_T68 xm_ x13_36).f3)) := hcc70 3 _ rfl; have hx70_4 : w73.cell? ⟨go70, (x13_36 : Int).toNat * 5 + 4, none⟩ = some (.int .i64 ((rd_T68 xm_ x13_36).f4)) := hcc70 4 _ rfl; have hf70_0 : w73.frozen? ⟨go70, (x13_36 : Int).toNat * 5, none⟩ = false := hfr70 0; have hf70_1 : w73.frozen? ⟨go70, (x13_36 : Int).toNat * 5 + 1, none⟩ = false := hfr70 1; have hf70_2 : w73.frozen? ⟨go70, (x13_36 : Int).toNat * 5 + 2, none⟩ = false := hfr70 2; have hf70_3 : w73.frozen? ⟨go70, (x13_36 : Int).toNat * 5 + 3, none⟩ = false := hfr70 3; have hf70_4 : w73.frozen? ⟨go70, (x13_36 : Int).toNat * 5 + 4, none⟩ = false := hfr70 4; clear hcl70 hcc70 hfr70 hM70; replace p70 := eq_true p70; replace q70 := eq_true q70; have HX77 := am (show Kd.R k68 68 w73 w.heap.size (fun k_ => k_ ≠ gb414) (.slice (some ⟨go70, 0, none⟩) x7_2.length co29) xm_ from (kR HO_7.out)); obtain ⟨ce77, hcl77, hM77, hcc77, hfr77⟩ := Kd.R_elem HX77.out z68 (x13_36 : Int) (od) (by have h_ : (x13_36 : Int) < ((x7_2.length : Int) : Int) := od; first | exact h_ | (have e_ := (Kd.R_reads' HO_7.out).1; omega) | simpa using h_); obtain rfl := k68_openM hM77; have HP77 := Kd.R_seg HX77.out (x13_36 : Int) (od) (by have h_ : (x13_36 : Int) < ((x7_2.length : Int) : Int) := od; first | exact h_ | (have e_ := (Kd.R_reads' HO_7.out).1; omega) | simpa using h_) (seg := [.int .i64 ((rd_T68 x7_2 x53_2).f0), .int .i64 ((rd_T68 x7_2 x53_2).f1), .int .i64 ((rd_T68 x7_2 x53_2).f2), .int .i64 ((rd_T68 x7_2 x53_2).f3), .int .i64 ((rd_T68 x7_2 x53_2).f4)]) (j := 0) hcl77 hcc77 (show 5 ≤ 5 from by decide) (x' := (⟨(rd_T68 x7_2 x53_2).f0, (rd_T68 x7_2 x53_2).f1, (rd_T68 x7_2 x53_2).f2, (rd_T68 x7_2 x53_2).f3, (rd_T68 x7_2 x53_2).f4⟩ : S68)) (k68_mkM _ _ _ (⟨(rd_T68 x7_2 x53_2).f0, (rd_T68 x7_2 x53_2).f1, (rd_T68 x7_2 x53_2).f2, (rd_T68 x7_2 x53_2).f3, (rd_T68 x7_2 x53_2).f4⟩ : S68) ) (fun _ hk => hk); have hx77_0 := hcc77 0 _ rfl; (try simp only [show (k68).sz = 5 from rfl, Nat.mul_one, Nat.add_zero] at hx77_0); have hf77_0 := hfr77 0; (try simp only [show (k68).sz = 5 from rfl, Nat.mul_one, Nat.add_zero] at hf77_0); have hx77_1 := hcc77 1 _ rfl; (try simp only [show (k68).sz = 5 from rfl, Nat.mul_one, Nat.add_zero] at hx77_1); have hf77_1 := hfr77 1; (try simp only [show (k68).sz = 5 from rfl, Nat.mul_one, Nat.add_zero] at hf77_1); have hx77_2 := hcc77 2 _ rfl; (try simp only [show (k68).sz = 5 from rfl, Nat.mul_one, Nat.add_zero] at hx77_2); have hf77_2 := hfr77 2; (try simp only [show (k68).sz = 5 from rfl, Nat.mul_one, Nat.add_zero] at hf77_2); have hx77_3 := hcc77 3 _ rfl; (try simp only [show (k68).sz = 5 from rfl, Nat.mul_one, Nat.add_zero] at hx77_3); have hf77_3 := hfr77 3; (try simp only [show (k68).sz = 5 from rfl, Nat.mul_one, Nat.add_zero] at hf77_3); have hx77_4 := hcc77 4 _ rfl; (try simp only [show (k68).sz = 5 from rfl, Nat.mul_one, Nat.add_zero] at hx77_4); have hf77_4 := hfr77 4; (try simp only [show (k68).sz = 5 from rfl, Nat.mul_one, Nat.add_zero] at hf77_4); clear hcl77 hcc77 hfr77 hM77) | ((with_reducible refine gate_store (t := 68) (p := 147) rfl ?_); (try (rw [drewN_self w73]; generalize hq_ : World.drewN w73 _ = w73; have n0_ := am (Kd.R_at hq_ HO_7.out); have n1_ := am (blk_at hq_ BK414.out); have n2_ := am (below_at hq_ HB.out); clear hq_ HO_7 BK414 HB; have HO_7 := n0_; have BK414 := n1_; have HB := n2_; clear n0_ n1_ n2_; (try (have HX77 := am (show Kd.R k68 68 w73 w.heap.size (fun k_ => k_ ≠ gb414) (.slice (some ⟨go70, 0, none⟩) x7_2.length co29) xm_ from (kR HO_7.out)))); (try (obtain ⟨ce77, hcl77, hM77, hcc77, hfr77⟩ := Kd.R_elem HX77.out z68 (x13_36 : Int) (od) (by have h_ : (x13_36 : Int) < ((x7_2.length : Int) : Int) := od; first | exact h_ | (have e_ := (Kd.R_reads' HO_7.out).1; omega) | simpa using h_))); (try (obtain rfl := k68_openM hM77)); (try (have HP77 := Kd.R_seg HX77.out (x13_36 : Int) (od) (by have h_ : (x13_36 : Int) < ((x7_2.length : Int) : Int) := od; first | exact h_ | (have e_ := (Kd.R_reads' HO_7.out).1; omega) | simpa using h_) (seg := [.int .i64 ((rd_T68 x7_2 x53_2).f0), .int .i64 ((rd_T68 x7_2 x53_2).f1), .int .i64 ((rd_T68 x7_2 x53_2).f2), .int .i64 ((rd_T68 x7_2 x53_2).f3), .int .i64 ((rd_T68 x7_2 x53_2).f4)]) (j := 0) hcl77 hcc77 (show 5 ≤ 5 from by decide) (x' := (⟨(rd_T68 x7_2 x53_2).f0, (rd_T68 x7_2 x53_2).f1, (rd_T68 x7_2 x53_2).f2, (rd_T68 x7_2 x53_2).f3, (rd_T68 x7_2 x53_2).f4⟩ : S68)) (k68_mkM _ _ _ (⟨(rd_T68 x7_2 x53_2).f0, (rd_T68 x7_2 x53_2).f1, (rd_T68 x7_2 x53_2).f2, (rd_T68 x7_2 x53_2).f3, (rd_T68 x7_2 x53_2).f4⟩ : S68) ) (fun _ hk => hk))); (try (have hx77_0 := hcc77 0 _ rfl)); (try (try simp only [show (k68).sz = 5 from rfl, Nat.mul_one, Nat.add_zero] at hx77_0)); (try (have hf77_0 := hfr77 0)); (try (try simp only [show (k68).sz = 5 from rfl, Nat.mul_one, Nat.add_zero] at hf77_0)); (try (have hx77_1 := hcc77 1 _ rfl)); (try (try simp only [show (k68).sz = 5 from rfl, Nat.mul_one, Nat.add_zero] at hx77_1)); (try (have hf77_1 := hfr77 1)); (try (try simp only [show (k68).sz = 5 from rfl, Nat.mul_one, Nat.add_zero] at hf77_1)); (try (have hx77_2 := hcc77 2 _ rfl)); (try (try simp only [show (k68).sz = 5 from rfl, Nat.mul_one, Nat.add_zero] at hx77_2)); (try (have hf77_2 := hfr77 2)); (try (try simp only [show (k68).sz = 5 from rfl, Nat.mul_one, Nat.add_zero] at hf77_2)); (try (have hx77_3 := hcc77 3 _ rfl)); (try (try simp only [show (k68).sz = 5 from rfl, Nat.mul_one, Nat.add_zero] at hx77_3)); (try (have hf77_3 := hfr77 3)); (try (try simp only [show (k68).sz = 5 from rfl, Nat.mul_one, Nat.add_zero] at hf77_3)); (try (have hx77_4 := hcc77 4 _ rfl)); (try (try simp only [show (k68).sz = 5 from rfl, Nat.mul_one, Nat.add_zero] at hx77_4)); (try (have hf77_4 := hfr77 4)); (try (try simp only [show (k68).sz = 5 from rfl, Nat.mul_one, Nat.add_zero] at hf77_4)); (try (clear hcl77 hcc77 hfr77 hM77)))); refine store_event (t := 68) (p := 147) (v := ?vo_w78) (w1 := (((((w73.setCell ⟨go70, (x13_36 : Int).toNat * 5, none⟩ (.int .i64 ((rd_T68 x7_2 x53_2).f0))).setCell ⟨go70, (x13_36 : Int).toNat * 5 + 1, none⟩ (.int .i64 ((rd_T68 x7_2 x53_2).f1))).setCell ⟨go70, (x13_36 : Int).toNat * 5 + 2, none⟩ (.int .i64 ((rd_T68 x7_2 x53_2).f2))).setCell ⟨go70, (x13_36 : Int).toNat * 5 + 3, none⟩ (.int .i64 ((rd_T68 x7_2 x53_2).f3))).setCell ⟨go70, (x13_36 : Int).toNat * 5 + 4, none⟩ (.int .i64 ((rd_T68 x7_2 x53_2).f4)))) ?hg ?ho ?hn ?hr ?_; (case ho => rfl); (case hg => rfl); (case hn => rfl); (case hr => first | (go_simp; done) | (go_simp; rfl)); intro w78 hw; have hg : w73.grownBy w78 (some go70) := (by rw [hw]; exact HP77.2); have hp_ : Kd.R k68 68 w78 w.heap.size (fun k_ => k_ ≠ gb414) (.slice (some ⟨go70, 0, none⟩) x7_2.length co29) y423 := (by rw [hw, Ny423.out]; exact HP77.1); clear HP77; replace BK414 := am (blk_grown (g := gb414) (o := .cells #[.int .i64 ((rd_T68 x7_2 x53_2).f0), .int .i64 ((rd_T68 x7_2 x53_2).f1), .int .i64 ((rd_T68 x7_2 x53_2).f2), .int .i64 ((rd_T68 x7_2 x53_2).f3), .int .i64 ((rd_T68 x7_2 x53_2).f4)] 68 (0, 0)) (bk BK414.out) hg (Kd.R_away HO_7.out (fun _ hk => hk))); replace HO_7 := am (hp_); replace HB := am ((by rw [hw]; exact below_set (below_set (below_set (below_set (below_set (HB.out) GB70.out) GB70.out) GB70.out) GB70.out) GB70.out : Below w.heap.size w w78)); clear hg hw hp_))
         (try simp only [← hl7_2])
         go_roundg kj36
         case measure => have := HK1.out; have := HK2.out; have := HJ32.out; have := HJ36.out; omega
         case rel => exact ⟨(y423), (wrap64 (x53_2 + 1)), sr, H', ⟨kl⟩, ⟨by (try simp only [hl7_2]); (with_reducible repeat (first | apply Kd.R_alloc | apply Kd.R_drewN | apply Kd.R_drew)); exact Kd.R_mono HO_7.out (fun _ hk => trivial)⟩, ⟨bS⟩⟩
end Go.Proofs.YtmlhnpggjkoinaaDoor.PFnExactGlyphsOf
